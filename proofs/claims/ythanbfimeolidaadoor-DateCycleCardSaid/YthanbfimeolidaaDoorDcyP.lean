/- Days' texts, and which of two stands ahead: the plain law. No program in sight. -/
import Derived.Test.YthanbfimeolidaaDoorCal
import Derived.Test.YthanbfimeolidaaDoorDtx
import GoSem.Op.String
namespace Go.Proofs.YthanbfimeolidaaDoor.Dcy
open Go Go.Proofs.YthanbfimeolidaaDoor

theorem bl_append : ∀ (x x' r r' : List UInt8), x.length = x'.length → Op.bytesLess (x ++ r) (x' ++ r') = (Op.bytesLess x x' || (x == x' && Op.bytesLess r r'))
  | [], [], r, r', _ => by simp [Op.bytesLess]
  | a :: x, b :: y, r, r', h => by
    have ih := bl_append x y r r' (by simpa using h)
    simp only [List.cons_append, Op.bytesLess, ih]
    have e : ((a :: x) == (b :: y)) = ((a == b) && (x == y)) := rfl
    rw [e]
    cases (a == b) <;> cases (decide (a < b)) <;> simp
theorem dig_lt (a b : Nat) (ha : a ≤ 9) (hb : b ≤ 9) : (UInt8.ofNat (48 + a) < UInt8.ofNat (48 + b)) ↔ a < b := by
  rw [UInt8.lt_iff_toNat_lt, UInt8.toNat_ofNat', UInt8.toNat_ofNat']
  omega
theorem dig_eq (a b : Nat) (ha : a ≤ 9) (hb : b ≤ 9) : (UInt8.ofNat (48 + a) = UInt8.ofNat (48 + b)) ↔ a = b := by
  rw [← UInt8.toNat_inj, UInt8.toNat_ofNat', UInt8.toNat_ofNat']
  omega
theorem bl_two (a b a' b' : UInt8) : Op.bytesLess [a, b] [a', b'] = (decide (a < a') || (a == a' && decide (b < b'))) := by simp [Op.bytesLess]
theorem bl_pad2 (u v : Nat) (hu : u < 100) (hv : v < 100) : Op.bytesLess (Dtx.pad 2 u) (Dtx.pad 2 v) = decide (u < v) := by
  rw [Dtx.pad2 hu, Dtx.pad2 hv, bl_two, Bool.eq_iff_iff]
  simp only [Bool.or_eq_true, Bool.and_eq_true, decide_eq_true_eq, beq_iff_eq]
  rw [dig_lt _ _ (by omega) (by omega), dig_eq _ _ (by omega) (by omega), dig_lt _ _ (by omega) (by omega)]
  omega
theorem eq_pad2 (u v : Nat) (hu : u < 100) (hv : v < 100) : (Dtx.pad 2 u == Dtx.pad 2 v) = decide (u = v) := by
  rw [Dtx.pad2 hu, Dtx.pad2 hv, Bool.eq_iff_iff]
  simp only [beq_iff_eq, List.cons.injEq, and_true, decide_eq_true_eq]
  rw [dig_eq _ _ (by omega) (by omega), dig_eq _ _ (by omega) (by omega)]
  omega
theorem pad4_split (u : Nat) (hu : u < 10000) : Dtx.pad 4 u = Dtx.pad 2 (u / 100) ++ Dtx.pad 2 (u % 100) := by
  rw [Dtx.pad4 hu, Dtx.pad2 (by omega), Dtx.pad2 (by omega)]
  have e1 : u / 100 / 10 = u / 1000 := by omega
  have e2 : u % 100 / 10 = u / 10 % 10 := by omega
  have e3 : u % 100 % 10 = u % 10 := by omega
  rw [e1, e2, e3]; rfl
theorem len_pad2 (u : Nat) (hu : u < 100) : (Dtx.pad 2 u).length = 2 := by rw [Dtx.pad2 hu]; rfl
theorem len_pad4 (u : Nat) (hu : u < 10000) : (Dtx.pad 4 u).length = 4 := by rw [Dtx.pad4 hu]; rfl
theorem bl_pad4 (u v : Nat) (hu : u < 10000) (hv : v < 10000) : Op.bytesLess (Dtx.pad 4 u) (Dtx.pad 4 v) = decide (u < v) := by
  rw [pad4_split u hu, pad4_split v hv, bl_append _ _ _ _ (by rw [len_pad2 _ (by omega), len_pad2 _ (by omega)]), bl_pad2 _ _ (by omega) (by omega), eq_pad2 _ _ (by omega) (by omega), bl_pad2 _ _ (by omega) (by omega), Bool.eq_iff_iff]
  simp only [Bool.or_eq_true, Bool.and_eq_true, decide_eq_true_eq]
  omega
theorem eq_pad4 (u v : Nat) (hu : u < 10000) (hv : v < 10000) : (Dtx.pad 4 u == Dtx.pad 4 v) = decide (u = v) := by
  rw [Bool.eq_iff_iff]
  simp only [beq_iff_eq, decide_eq_true_eq]
  constructor
  · intro h
    have e := bl_pad4 u v hu hv
    have e' := bl_pad4 v u hv hu
    rw [h] at e e'
    have ir : ∀ x : List UInt8, Op.bytesLess x x = false := by
      intro x
      induction x with
      | nil => rfl
      | cons a x ih => simp [Op.bytesLess, ih]
    rw [ir] at e e'
    have := of_decide_eq_false e.symm
    have := of_decide_eq_false e'.symm
    omega
  · intro h; rw [h]
def txt (y m d : Int) : List UInt8 := Dtx.pad 4 y.toNat ++ [45] ++ Dtx.pad 2 m.toNat ++ [45] ++ Dtx.pad 2 d.toNat
theorem bl_same (x r r' : List UInt8) : Op.bytesLess (x ++ r) (x ++ r') = Op.bytesLess r r' := by
  induction x with
  | nil => rfl
  | cons a x ih => simp [Op.bytesLess, ih]
theorem num_lex {y m d y' m' d' : Int} (h : Cal.vld y m d) (h' : Cal.vld y' m' d') : Cal.num y m d < Cal.num y' m' d' ↔ (y < y' ∨ y = y' ∧ (m < m' ∨ m = m' ∧ d < d')) := by
  have key : ∀ {y m d y' m' d' : Int}, Cal.vld y m d → Cal.vld y' m' d' → (y < y' ∨ y = y' ∧ (m < m' ∨ m = m' ∧ d < d')) → Cal.num y m d < Cal.num y' m' d' := by
    intro y m d y' m' d' h h' g
    rcases g with g | ⟨rfl, g | ⟨rfl, g⟩⟩
    · have b1 := (Cal.num_bd y m d h).2
      have b2 := (Cal.num_bd y' m' d' h').1
      have b3 := Cal.yr_mono (y + 1) y' (by omega)
      omega
    · have b := Cal.bef_le y (m + 1) m' (by have := h.2.2.1; omega) (by omega) (by have := h'.2.2.2.1; omega)
      have b6 := h.2.2.2.2.2
      have b5 := h'.2.2.2.2.1
      unfold Cal.num
      omega
    · unfold Cal.num; omega
  constructor
  · intro g
    by_cases c : y < y' ∨ y = y' ∧ (m < m' ∨ m = m' ∧ d < d')
    · exact c
    · have c' : (y' < y ∨ y' = y ∧ (m' < m ∨ m' = m ∧ d' < d)) ∨ (y = y' ∧ m = m' ∧ d = d') := by omega
      rcases c' with c' | ⟨rfl, rfl, rfl⟩
      · have := key h' h c'; omega
      · omega
  · exact key h h'
/-- the earlier day's text stands ahead -/
theorem txt_lt {y m d y' m' d' : Int} (h : Cal.vld y m d) (h' : Cal.vld y' m' d') : Op.bytesLess (txt y m d) (txt y' m' d') = decide (Cal.num y m d < Cal.num y' m' d') := by
  have s1 := Cal.bef_step y m h.2.2.1 h.2.2.2.1
  have s2 := Cal.bef_step y' m' h'.2.2.1 h'.2.2.2.1
  obtain ⟨a1, a2, a3, a4, a5, a6⟩ := id h
  obtain ⟨b1, b2, b3, b4, b5, b6⟩ := id h'
  have e : ∀ y m d : Int, txt y m d = Dtx.pad 4 y.toNat ++ ([45] ++ (Dtx.pad 2 m.toNat ++ ([45] ++ Dtx.pad 2 d.toNat))) := by intro y m d; simp [txt]
  rw [e, e, bl_append _ _ _ _ (by rw [len_pad4 _ (by omega), len_pad4 _ (by omega)]), bl_same, bl_append _ _ _ _ (by rw [len_pad2 _ (by omega), len_pad2 _ (by omega)]), bl_same,
    bl_pad4 _ _ (by omega) (by omega), eq_pad4 _ _ (by omega) (by omega), bl_pad2 _ _ (by omega) (by omega), eq_pad2 _ _ (by omega) (by omega), bl_pad2 _ _ (by omega) (by omega), Bool.eq_iff_iff]
  simp only [Bool.or_eq_true, Bool.and_eq_true, decide_eq_true_eq]
  rw [num_lex h h']
  omega
theorem lp_400 (y : Int) : Cal.lp (y + 400) = Cal.lp y := by
  have h1 : (y + 400) % 4 = y % 4 := by omega
  have h2 : (y + 400) % 100 = y % 100 := by omega
  have h3 : (y + 400) % 400 = y % 400 := by omega
  unfold Cal.lp
  rw [h1, h2, h3]
theorem yr_400 (y : Int) : Cal.yr (y + 400) = Cal.yr y + 146097 := by unfold Cal.yr; omega
theorem bef_400 (y m : Int) : Cal.bef (y + 400) m = Cal.bef y m := by unfold Cal.bef; rw [lp_400]
theorem num_400 (y m d : Int) : Cal.num (y + 400) m d = Cal.num y m d + 146097 := by unfold Cal.num; rw [yr_400, bef_400]; omega
theorem vld_400 (y m d : Int) (h : Cal.vld y m d) (g : y ≤ 9599) : Cal.vld (y + 400) m d := by
  obtain ⟨a1, a2, a3, a4, a5, a6⟩ := h
  exact ⟨by omega, by omega, a3, a4, a5, by rw [bef_400, bef_400]; exact a6⟩
theorem ends (y : Int) (h1 : 1 ≤ y) (h2 : y ≤ 9999) : Cal.vld y 1 1 ∧ Cal.vld y 12 31 ∧ Cal.num y 1 1 = Cal.yr y ∧ Cal.num y 12 31 = Cal.yr y + 364 + Cal.lp y := by
  have b1 : Cal.bef y 1 = 0 := Cal.bef_one y
  have b2 : Cal.bef y 2 = 31 := by simp [Cal.bef, Cal.ahd]
  have b12 : Cal.bef y 12 = 334 + Cal.lp y := by simp [Cal.bef, Cal.ahd]
  have b13 := Cal.bef_thirteen y
  refine ⟨⟨h1, h2, by omega, by omega, by omega, ?_⟩, ⟨h1, h2, by omega, by omega, by omega, ?_⟩, ?_, ?_⟩
  · show 1 ≤ Cal.bef y 2 - Cal.bef y 1; omega
  · show 31 ≤ Cal.bef y 13 - Cal.bef y 12; omega
  · unfold Cal.num; omega
  · unfold Cal.num; omega
theorem within {y m d : Int} (h : Cal.vld y m d) : Cal.yr y ≤ Cal.num y m d ∧ Cal.num y m d ≤ Cal.yr y + 364 + Cal.lp y := by
  have b := Cal.num_bd y m d h
  rw [Cal.yr_succ] at b
  omega
end Go.Proofs.YthanbfimeolidaaDoor.Dcy
