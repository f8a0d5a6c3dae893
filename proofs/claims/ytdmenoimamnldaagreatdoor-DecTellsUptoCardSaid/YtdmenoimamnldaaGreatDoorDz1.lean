/- The walks of package dec's inner functions: Check, power, wide, compared, right, Less, Same. No conditions but the arguments' own. -/
import Derived.Below
import Derived.Test.YtdmenoimamnldaaGreatDoorDz0
import Derived.Test.YtdmenoimamnldaaGreatDoorShelf
namespace Go.Proofs.YtdmenoimamnldaaGreatDoor.Dcm
/-- ten, so often with itself (from 0 to 9) -/
def P10 (n : Int) : Int := if n ≤ 0 then 1 else if n = 1 then 10 else if n = 2 then 100 else if n = 3 then 1000 else if n = 4 then 10000 else if n = 5 then 100000 else if n = 6 then 1000000 else if n = 7 then 10000000 else if n = 8 then 100000000 else 1000000000
theorem ten (s : Int) (h0 : 0 ≤ s) (h1 : s ≤ 9) : s = 0 ∨ s = 1 ∨ s = 2 ∨ s = 3 ∨ s = 4 ∨ s = 5 ∨ s = 6 ∨ s = 7 ∨ s = 8 ∨ s = 9 := by omega
theorem P10_0 : P10 0 = 1 := rfl
theorem P10_succ (n : Int) (h0 : 0 ≤ n) (h : n ≤ 8) : P10 (n + 1) = P10 n * 10 := by
  rcases ten n h0 (by omega) with rfl | rfl | rfl | rfl | rfl | rfl | rfl | rfl | rfl | rfl <;> simp [P10] at h ⊢
theorem P10_bd (n : Int) : 1 ≤ P10 n ∧ P10 n ≤ 1000000000 := by
  unfold P10
  repeat' split
  all_goals omega
theorem P10_ge (n : Int) (h : 1 ≤ n) : 10 ≤ P10 n := by
  unfold P10
  repeat' split
  all_goals omega
theorem P10_mul (s t : Int) (h0 : 0 ≤ s) (h1 : 0 ≤ t) (h2 : s + t ≤ 9) : P10 s * P10 t = P10 (s + t) := by
  rcases ten s h0 (by omega) with rfl | rfl | rfl | rfl | rfl | rfl | rfl | rfl | rfl | rfl <;> rcases ten t h1 (by omega) with rfl | rfl | rfl | rfl | rfl | rfl | rfl | rfl | rfl | rfl <;> first | rfl | omega
def okD (c s : Int) : Prop := 0 ≤ s ∧ s ≤ 9 ∧ -1000000000000000 ≤ c ∧ c ≤ 1000000000000000
instance (c s : Int) : Decidable (okD c s) := by unfold okD; infer_instance
def nrm (c s : Int) : Int := c * P10 (9 - s)
theorem lt_iff (a s b t : Int) (hs0 : 0 ≤ s) (hs : s ≤ 9) (ht0 : 0 ≤ t) (ht : t ≤ 9) : a * P10 t < b * P10 s ↔ nrm a s < nrm b t := by
  unfold nrm
  rcases ten s hs0 hs with rfl | rfl | rfl | rfl | rfl | rfl | rfl | rfl | rfl | rfl <;> rcases ten t ht0 ht with rfl | rfl | rfl | rfl | rfl | rfl | rfl | rfl | rfl | rfl <;> simp [P10] <;> omega
theorem eq_iff (a s b t : Int) (hs0 : 0 ≤ s) (hs : s ≤ 9) (ht0 : 0 ≤ t) (ht : t ≤ 9) : a * P10 t = b * P10 s ↔ nrm a s = nrm b t := by
  have h1 := lt_iff a s b t hs0 hs ht0 ht
  have h2 := lt_iff b t a s ht0 ht hs0 hs
  omega
theorem mul_bd (n p : Int) (h0 : 0 ≤ n) (h1 : n ≤ 1000000000000000) (p0 : 1 ≤ p) (p1 : p ≤ 1000000000) : 0 ≤ n * p ∧ n * p ≤ 1000000000000000000000000 := by
  constructor
  · exact Int.mul_nonneg h0 (by omega)
  · calc n * p ≤ 1000000000000000 * p := Int.mul_le_mul_of_nonneg_right h1 (by omega)
      _ ≤ _ := by omega
theorem P10_pos (n : Int) : 0 < P10 n := by have := P10_bd n; omega
theorem nrm_same {a b s : Int} : nrm a s < nrm b s ↔ a < b := by
  unfold nrm
  have := P10_pos (9 - s)
  constructor
  · intro h; exact Int.lt_of_mul_lt_mul_right h (by omega)
  · intro h; exact Int.mul_lt_mul_of_pos_right h this
theorem nrm_neg (a s : Int) : nrm (-a) s = - nrm a s := by unfold nrm; rw [Int.neg_mul]
theorem nrm_up (c s t : Int) (h0 : 0 ≤ s) (h1 : s ≤ t) (h2 : t ≤ 9) : nrm (c * P10 (t - s)) t = nrm c s := by
  unfold nrm
  rw [Int.mul_assoc, P10_mul _ _ (by omega) (by omega) (by omega), show t - s + (9 - t) = 9 - s from by omega]
/-- two words of a product compared -/
theorem words_lt {A B : Int} : A < B ↔ (A / 18446744073709551616 < B / 18446744073709551616 ∨ A / 18446744073709551616 = B / 18446744073709551616 ∧ A % 18446744073709551616 < B % 18446744073709551616) := by omega
theorem words_eq {A B : Int} : A = B ↔ (A / 18446744073709551616 = B / 18446744073709551616 ∧ A % 18446744073709551616 = B % 18446744073709551616) := by omega

def sgn (c : Int) : Int := if c < 0 then -1 else 1
def mag (c : Int) : Int := if c < 0 then -c else c
theorem sgn_mag (c : Int) : sgn c * mag c = c := by unfold sgn mag; split <;> omega
theorem mag_bd (c : Int) : 0 ≤ mag c := by unfold mag; split <;> omega
/-- is what is cut off rounded away from nought? -/
def near (way whole rest unit sign : Int) : Bool :=
  if way = 2 then decide (0 < rest) && decide (sign < 0)
  else if way = 3 then decide (0 < rest) && decide (0 < sign)
  else if way = 4 then decide (unit ≤ 2 * rest)
  else if way = 5 then decide (unit < 2 * rest) || (decide (2 * rest = unit) && decide (whole % 2 = 1))
  else false
def rdU (N U way sign : Int) : Int := N / U + if near way (N / U) (N % U) U sign then 1 else 0
/-- the coefficient of what is rounded -/
def rndC (c s t way : Int) : Int := if s ≤ t then c * P10 (t - s) else sgn c * rdU (mag c) (P10 (s - t)) way (sgn c)
/-- is there room? -/
def rndOk (c s t : Int) : Prop := s ≤ t → mag c * P10 (t - s) ≤ 1000000000000000
instance (c s t : Int) : Decidable (rndOk c s t) := by unfold rndOk; infer_instance
/-- rounded at once: A is the number in the least digits, U the unit -/
def RR (A U way : Int) : Int := sgn A * rdU (mag A) U way (sgn A)
theorem near_mul (way w r u s k : Int) (hk : 0 < k) : near way w (r * k) (u * k) s = near way w r u s := by
  unfold near
  have e1 : (0 < r * k) ↔ 0 < r := by
    constructor
    · intro h; exact Int.pos_of_mul_pos_left h (by omega) |> fun x => x
    · intro h; exact Int.mul_pos h hk
  have e2 : (u * k ≤ 2 * (r * k)) ↔ u ≤ 2 * r := by
    rw [← Int.mul_assoc]; exact ⟨fun h => Int.le_of_mul_le_mul_right h hk, fun h => Int.mul_le_mul_of_nonneg_right h (by omega)⟩
  have e3 : (u * k < 2 * (r * k)) ↔ u < 2 * r := by
    rw [← Int.mul_assoc]; exact ⟨fun h => Int.lt_of_mul_lt_mul_right h (by omega), fun h => Int.mul_lt_mul_of_pos_right h hk⟩
  have e4 : (2 * (r * k) = u * k) ↔ 2 * r = u := by
    rw [← Int.mul_assoc]; exact ⟨fun h => Int.eq_of_mul_eq_mul_right (by omega) h, fun h => by rw [h]⟩
  simp only [e1, e2, e3, e4]
theorem sgn_mul (c k : Int) (hk : 0 < k) : sgn (c * k) = sgn c := by
  unfold sgn
  have : c * k < 0 ↔ c < 0 := by
    constructor
    · intro h; rcases Int.lt_or_le c 0 with g | g
      · exact g
      · have := Int.mul_nonneg g (by omega : 0 ≤ k); omega
    · intro h; exact Int.mul_neg_of_neg_of_pos h hk
  simp only [this]
theorem mag_mul (c k : Int) (hk : 0 < k) : mag (c * k) = mag c * k := by
  unfold mag
  have : c * k < 0 ↔ c < 0 := by
    constructor
    · intro h; rcases Int.lt_or_le c 0 with g | g
      · exact g
      · have := Int.mul_nonneg g (by omega : 0 ≤ k); omega
    · intro h; exact Int.mul_neg_of_neg_of_pos h hk
  simp only [this]; split
  · rw [Int.neg_mul]
  · rfl
theorem RR_mul (c u way k : Int) (hk : 0 < k) : RR (c * k) (u * k) way = RR c u way := by
  unfold RR rdU
  have e : mag c * k % (u * k) = mag c % u * k := by rw [Int.mul_comm (mag c), Int.mul_comm u, Int.mul_emod_mul_of_pos _ _ hk, Int.mul_comm]
  rw [sgn_mul c k hk, mag_mul c k hk, Int.mul_ediv_mul_of_pos_left _ _ hk, e, near_mul _ _ _ _ _ _ hk]
theorem RR_one (c way : Int) : RR c 1 way = c := by
  unfold RR rdU
  have : near way (mag c / 1) (mag c % 1) 1 (sgn c) = false := by
    unfold near; simp [Int.emod_one]
  rw [this]; simp; exact sgn_mag c
theorem rndC_RR (c s t way : Int) (s0 : 0 ≤ s) (s1 : s ≤ 9) (t0 : 0 ≤ t) (t1 : t ≤ 9) : rndC c s t way = RR (nrm c s) (P10 (9 - t)) way := by
  unfold rndC nrm
  split
  · rename_i h
    have e : P10 (9 - s) = P10 (t - s) * P10 (9 - t) := by rw [P10_mul _ _ (by omega) (by omega) (by omega)]; congr 1; omega
    have e1 : c * P10 (9 - s) = c * P10 (t - s) * P10 (9 - t) := by rw [e, Int.mul_assoc]
    rw [e1]
    have := RR_mul (c * P10 (t - s)) 1 way (P10 (9 - t)) (P10_pos _)
    rw [Int.one_mul] at this
    rw [this, RR_one]
  · rename_i h
    have e : P10 (9 - t) = P10 (s - t) * P10 (9 - s) := by rw [P10_mul _ _ (by omega) (by omega) (by omega)]; congr 1; omega
    rw [e, RR_mul _ _ _ _ (P10_pos _)]; rfl
theorem ways (w : Int) (h0 : 1 ≤ w) (h1 : w ≤ 5) : w = 1 ∨ w = 2 ∨ w = 3 ∨ w = 4 ∨ w = 5 := by omega
theorem RR_mono_lit (A B U way : Int) (hU : 0 < U) (h0 : 1 ≤ way) (h1 : way ≤ 5) (h : A < B) (hlit : ∃ t, 0 ≤ t ∧ t ≤ 9 ∧ U = P10 t) : RR A U way ≤ RR B U way := by
  obtain ⟨t, t0, t1, rfl⟩ := hlit
  clear hU
  unfold RR rdU sgn mag near
  rcases ten t t0 t1 with rfl | rfl | rfl | rfl | rfl | rfl | rfl | rfl | rfl | rfl <;> simp only [P10, Int.reduceLE, Int.reduceEq, if_true, if_false] <;>
    rcases ways way h0 h1 with rfl | rfl | rfl | rfl | rfl <;> simp only [Int.reduceEq, if_true, if_false, Bool.and_eq_true, Bool.or_eq_true, decide_eq_true_eq, Bool.false_eq_true] <;>
    by_cases hA : A < 0 <;> by_cases hB : B < 0 <;> simp only [hA, hB, if_true, if_false] <;> (repeat' split) <;> omega

theorem RR_mono (A B t way : Int) (t0 : 0 ≤ t) (t1 : t ≤ 9) (h0 : 1 ≤ way) (h1 : way ≤ 5) (h : A < B) : RR A (P10 t) way ≤ RR B (P10 t) way :=
  RR_mono_lit A B _ way (P10_pos _) h0 h1 h ⟨t, t0, t1, rfl⟩
theorem RR_neg (A U way : Int) (h1 : way ≠ 2) (h2 : way ≠ 3) (hU : 0 < U) : RR (-A) U way = - RR A U way := by
  have key : ∀ s s' : Int, rdU (mag A) U way s = rdU (mag A) U way s' := by
    intro s s'; unfold rdU near; rw [if_neg h1, if_neg h2, if_neg h1, if_neg h2]
  have hm : mag (-A) = mag A := by unfold mag; (repeat' split) <;> omega
  unfold RR
  rw [hm, key _ 1, key (sgn A) 1]
  by_cases h : A = 0
  · subst h
    have : rdU (mag 0) U way 1 = 0 := by
      unfold rdU mag near; rw [if_neg h1, if_neg h2]; simp; (repeat' split) <;> simp <;> omega
    rw [this]; simp
  · have : sgn (-A) = - sgn A := by unfold sgn; (repeat' split) <;> omega
    rw [this, Int.neg_mul]
theorem rndC_neg (c s t way : Int) (s0 : 0 ≤ s) (s1 : s ≤ 9) (t0 : 0 ≤ t) (t1 : t ≤ 9) (h1 : way ≠ 2) (h2 : way ≠ 3) : rndC (-c) s t way = - rndC c s t way := by
  rw [rndC_RR _ _ _ _ s0 s1 t0 t1, rndC_RR _ _ _ _ s0 s1 t0 t1, nrm_neg, RR_neg _ _ _ h1 h2 (P10_pos _)]
/-- what is rounded off -/
theorem near_facts (c s t way : Int) (hc : -1000000000000000 ≤ c ∧ c ≤ 1000000000000000) (s1 : s ≤ 9) (t0 : 0 ≤ t) (ht : t < s) (h0 : 1 ≤ way) (h1 : way ≤ 5) :
    -100000000000001 ≤ rndC c s t way ∧ rndC c s t way ≤ 100000000000001 ∧
    mag (c - rndC c s t way * P10 (s - t)) < P10 (s - t) ∧
    ((way = 4 ∨ way = 5) → 2 * mag (c - rndC c s t way * P10 (s - t)) ≤ P10 (s - t)) ∧
    (way = 5 → 2 * mag (c - rndC c s t way * P10 (s - t)) = P10 (s - t) → (rndC c s t way) % 2 = 0) ∧
    (way = 2 → 0 ≤ c - rndC c s t way * P10 (s - t)) ∧ (way = 3 → c - rndC c s t way * P10 (s - t) ≤ 0) ∧
    (way = 1 → (0 ≤ c ∧ 0 ≤ c - rndC c s t way * P10 (s - t)) ∨ (c ≤ 0 ∧ c - rndC c s t way * P10 (s - t) ≤ 0)) := by
  obtain ⟨k, hk⟩ : ∃ k, k = s - t := ⟨_, rfl⟩
  unfold rndC; rw [if_neg (by omega), ← hk]
  have k1 : k = 1 ∨ k = 2 ∨ k = 3 ∨ k = 4 ∨ k = 5 ∨ k = 6 ∨ k = 7 ∨ k = 8 ∨ k = 9 := by omega
  clear hk s1 t0 ht
  unfold rdU sgn mag near
  rcases k1 with rfl | rfl | rfl | rfl | rfl | rfl | rfl | rfl | rfl <;> simp only [P10, Int.reduceLE, Int.reduceEq, if_true, if_false] <;>
    rcases ways way h0 h1 with rfl | rfl | rfl | rfl | rfl <;> simp only [Int.reduceEq, if_true, if_false, Bool.and_eq_true, Bool.or_eq_true, decide_eq_true_eq, Bool.false_eq_true, false_implies, true_implies, or_false, false_or, and_true, true_and] <;>
    by_cases hA : c < 0 <;> (try simp only [hA, if_true, if_false]) <;> (repeat' split) <;> omega
/-- the sum's coefficient, and how many digits it has behind the point -/
def addC (a s b t : Int) : Int := if s ≤ t then a * P10 (t - s) + b else b * P10 (s - t) + a
def addS (s t : Int) : Int := if s ≤ t then t else s
theorem addS_comm (s t : Int) : addS s t = addS t s := by unfold addS; (repeat' split) <;> omega
theorem addC_comm (a s b t : Int) : addC a s b t = addC b t a s := by
  unfold addC
  by_cases h : s = t
  · subst h; simp [P10]; omega
  · by_cases g : s ≤ t
    · rw [if_pos g, if_neg (by omega)]
    · rw [if_neg g, if_pos (by omega)]
theorem addS_bd {s t : Int} (s0 : 0 ≤ s) (s1 : s ≤ 9) (t0 : 0 ≤ t) (t1 : t ≤ 9) : 0 ≤ addS s t ∧ addS s t ≤ 9 := by unfold addS; split <;> omega
theorem nrm_add (a s b t : Int) (s0 : 0 ≤ s) (s1 : s ≤ 9) (t0 : 0 ≤ t) (t1 : t ≤ 9) : nrm (addC a s b t) (addS s t) = nrm a s + nrm b t := by
  unfold addC addS
  by_cases g : s ≤ t
  · rw [if_pos g, if_pos g]
    have := nrm_up a s t s0 g t1
    unfold nrm at *
    rw [Int.add_mul, this]
  · rw [if_neg g, if_neg g]
    have := nrm_up b t s t0 (by omega) s1
    unfold nrm at *
    rw [Int.add_mul, this, Int.add_comm]
theorem nrm_inj {a b s : Int} : nrm a s = nrm b s ↔ a = b := by
  have h1 := @nrm_same a b s
  have h2 := @nrm_same b a s
  omega
/-- what is added, in the walk's own way -/
theorem sum_quo (a b U : Int) (_hU : 1 ≤ U) : (a + b.tdiv U) * U + b.tmod U = a * U + b := by
  have := Int.mul_tdiv_add_tmod b U
  rw [Int.mul_comm] at this
  rw [Int.add_mul]; omega
theorem tdiv_bd (b U : Int) (_hU : 1 ≤ U) (hb : -1000000000000000 ≤ b ∧ b ≤ 1000000000000000) : -1000000000000000 ≤ b.tdiv U ∧ b.tdiv U ≤ 1000000000000000 := by
  have h1 := Int.natAbs_tdiv_le_natAbs b U
  omega
theorem tmod_bd (b U : Int) (hU : 1 ≤ U) : -U < b.tmod U ∧ b.tmod U < U := by
  have h1 := Int.tmod_lt_of_pos b (by omega : 0 < U)
  have h2 := Int.tmod_lt_of_pos (-b) (by omega : 0 < U)
  rw [Int.neg_tmod] at h2
  omega
/-- the sum that is no sum: far off -/
theorem sum_far (S r U : Int) (hU : 1 ≤ U) (hr : -U < r ∧ r < U) (hS : 2000000000000000 / U + 1 < S ∨ S < -(2000000000000000 / U) - 1) : 1000000000000000 < S * U + r ∨ S * U + r < -1000000000000000 := by
  have h1 : 2000000000000000 / U * U + 2000000000000000 % U = 2000000000000000 := by rw [Int.mul_comm]; exact Int.mul_ediv_add_emod _ _
  have h2 := Int.emod_lt_of_pos 2000000000000000 (by omega : 0 < U)
  rcases hS with h | h
  · have : (2000000000000000 / U + 1 + 1) * U ≤ S * U := Int.mul_le_mul_of_nonneg_right (by omega) (by omega)
    rw [Int.add_mul, Int.add_mul] at this; omega
  · have : S * U ≤ (-(2000000000000000 / U) - 1 - 1) * U := Int.mul_le_mul_of_nonneg_right (by omega) (by omega)
    rw [Int.sub_mul, Int.sub_mul, Int.neg_mul] at this; omega
theorem sum_near (S U : Int) (hU : 1 ≤ U) (hU1 : U ≤ 1000000000) (hS : ¬ 2000000000000000 / U + 1 < S ∧ ¬ S < -(2000000000000000 / U) - 1) : -2000001000000000 ≤ S * U ∧ S * U ≤ 2000001000000000 := by
  have h1 : 2000000000000000 / U * U + 2000000000000000 % U = 2000000000000000 := by rw [Int.mul_comm]; exact Int.mul_ediv_add_emod _ _
  have h2 := Int.emod_nonneg 2000000000000000 (by omega : U ≠ 0)
  constructor
  · have : (-(2000000000000000 / U) - 1) * U ≤ S * U := Int.mul_le_mul_of_nonneg_right (by omega) (by omega)
    rw [Int.sub_mul, Int.neg_mul] at this; omega
  · have : S * U ≤ (2000000000000000 / U + 1) * U := Int.mul_le_mul_of_nonneg_right (by omega) (by omega)
    rw [Int.add_mul] at this; omega
/-- noughts at the end struck: how many digits are left, and they -/
def strip : Nat → Int → Nat × Int
  | 0, t => (0, t)
  | w + 1, t => if t % 10 = 0 then strip w (t / 10) else (w + 1, t)
theorem strip_le : ∀ (w : Nat) (t : Int), (strip w t).1 ≤ w
  | 0, _ => Nat.le_refl _
  | w + 1, t => by unfold strip; split; exact Nat.le_succ_of_le (strip_le w _); exact Nat.le_refl _
theorem strip_end : ∀ (w : Nat) (t : Int), (strip w t).1 = 0 ∨ (strip w t).2 % 10 ≠ 0
  | 0, _ => .inl rfl
  | w + 1, t => by
    unfold strip; split
    · exact strip_end w _
    · rename_i h; exact .inr h
theorem strip_mul : ∀ (w : Nat) (t : Int), w ≤ 9 → (strip w t).2 * P10 (w - (strip w t).1) = t
  | 0, t, _ => by simp [strip, P10]
  | w + 1, t, h => by
    unfold strip; split
    · rename_i h0
      have := strip_mul w (t / 10) (by omega)
      have hl := strip_le w (t / 10)
      have e : ((w + 1 : Nat) : Int) - ((strip w (t / 10)).1 : Int) = ((w : Int) - ((strip w (t / 10)).1 : Int)) + 1 := by omega
      rw [e, P10_succ _ (by omega) (by omega), ← Int.mul_assoc, this]; omega
    · simp [P10]
theorem strip_ten (w : Nat) (t : Int) : strip (w + 1) (t * 10) = strip w t := by
  unfold strip; rw [if_pos (by omega)]
  have : t * 10 / 10 = t := by omega
  rw [this]
  cases w <;> rfl
theorem strip_tens : ∀ (k w : Nat) (t : Int), k ≤ 9 → strip (w + k) (t * P10 k) = strip w t
  | 0, w, t, _ => by simp [P10]
  | k + 1, w, t, h => by
    have e : P10 ((k + 1 : Nat) : Int) = P10 (k : Int) * 10 := by
      have := P10_succ (k : Int) (by omega) (by omega)
      simpa using this
    rw [e, ← Int.mul_assoc, ← Nat.add_assoc, strip_ten]
    exact strip_tens k w t (by omega)
theorem strip_nonneg : ∀ (w : Nat) (t : Int), 0 ≤ t → 0 ≤ (strip w t).2 ∧ (strip w t).2 ≤ t
  | 0, t, h => ⟨h, Int.le_refl _⟩
  | w + 1, t, h => by
    unfold strip; split
    · have := strip_nonneg w (t / 10) (by omega); omega
    · exact ⟨h, Int.le_refl _⟩
end Go.Proofs.YtdmenoimamnldaaGreatDoor.Dcm
namespace Go.Proofs.YtdmenoimamnldaaGreatDoor
open Go.RowKit
open Dcm (P10 okD nrm)


set_option maxHeartbeats 400000 in
theorem dchk_yes (c s : Int) (w : World) (h : okD c s) :
    Calls Tryz.prog 7 #[.agg #[.int .i64 c, .int .i64 s]] w fun e w' => e = .returned .nilIface ∧ Below w.heap.size w w' := by
  obtain ⟨h1, h2, h3, h4⟩ := h
  have d1 : decide (s < 0) = false := dec_no (by omega)
  have d2 : decide (9 < s) = false := dec_no (by omega)
  have d3 : decide (c < -1000000000000000) = false := dec_no (by omega)
  have d4 : decide (1000000000000000 < c) = false := dec_no (by omega)
  go_enter Tryz.func7, Tryz.ntmps7
  go_wp2
  go_ret
  exact ⟨rfl, blw_alloc _ _⟩
set_option maxHeartbeats 1000000 in
theorem dchk_no (c s : Int) (w : World) (h : ¬ okD c s) :
    Calls Tryz.prog 7 #[.agg #[.int .i64 c, .int .i64 s]] w fun e w' => e = .returned (errV 1) ∧ Below w.heap.size w w' := by
  by_cases h1 : s < 0
  · go_enter Tryz.func7, Tryz.ntmps7
    go_wp2
    go_ret
    exact ⟨rfl, blw_alloc _ _⟩
  by_cases h2 : 9 < s
  · go_enter Tryz.func7, Tryz.ntmps7
    go_wp2
    go_ret
    exact ⟨rfl, blw_alloc _ _⟩
  by_cases h3 : c < -1000000000000000
  · go_enter Tryz.func7, Tryz.ntmps7
    go_wp2
    go_ret
    exact ⟨rfl, blw_alloc _ _⟩
  by_cases h4 : 1000000000000000 < c
  · go_enter Tryz.func7, Tryz.ntmps7
    go_wp2
    go_ret
    exact ⟨rfl, blw_alloc _ _⟩
  exact absurd ⟨by omega, by omega, by omega, by omega⟩ h

set_option maxHeartbeats 400000 in
theorem power_any (n : Int) (w : World) (h0 : 0 ≤ n) (h1 : n ≤ 9) :
    Calls Tryz.prog 36 #[.int .i64 n] w fun e w' => e = .returned (.int .i64 (P10 n)) ∧ w = w' := by
  go_enter Tryz.func36, Tryz.ntmps36
  go_wp2
  go_loop [3, 5] (fun t i => ∃ k : Int, 0 ≤ k ∧ k ≤ n ∧ i = .int .i64 k ∧ t = .int .i64 (P10 k)) (fun _ i => (n - intOf i).toNat)
  case atStart => exact ⟨0, by omega, by omega, rfl, rfl⟩
  case round =>
    obtain ⟨k, k0, k1, rfl, rfl⟩ := hrel
    have hb := Dcm.P10_bd k
    by_cases hlt : k < n
    · have hs := Lib.hid (Dcm.P10_succ k k0 (by omega))
      go_wp2
      go_round
      case rel => exact ⟨k + 1, by omega, by omega, by go_num, by rw [hs.out]⟩
      case measure => simp [intOf]; omega
    · obtain rfl : k = n := by omega
      go_wp2
      go_ret
      exact ⟨rfl, rfl⟩

/-- the words of a product -/
def hiW (A : Int) : Int := A / 18446744073709551616
def loW (A : Int) : Int := A % 18446744073709551616
theorem hiW_bd {A : Int} (h0 : 0 ≤ A) (h1 : A ≤ 1000000000000000000000000) : 0 ≤ hiW A ∧ hiW A ≤ 1000000 := by unfold hiW; omega
theorem loW_bd (A : Int) : 0 ≤ loW A ∧ loW A ≤ 18446744073709551615 := by unfold loW; omega
theorem mul64_any (x y : Int) (w : World) (x0 : 0 ≤ x) (x1 : x ≤ 1000000000000000) (y0 : 0 ≤ y) (y1 : y ≤ 1000000000) :
    Calls Tryz.prog 50 #[.int .u64 x, .int .u64 y] w fun e w' => e = .returned (.tuple #[.int .u64 (hiW (x * y)), .int .u64 (loW (x * y))]) ∧ w = w' := by
  obtain ⟨a, rfl⟩ := Int.eq_ofNat_of_zero_le x0
  obtain ⟨b, rfl⟩ := Int.eq_ofNat_of_zero_le y0
  refine (Tryz.bits_Mul64 a b (by omega) (by omega) w).mono fun e w' ⟨he, hw⟩ => ⟨?_, hw.symm⟩
  rw [he]; unfold hiW loW; simp

set_option maxHeartbeats 400000 in
theorem wide_any (n s : Int) (w : World) (n0 : 0 ≤ n) (n1 : n ≤ 1000000000000000) (s0 : 0 ≤ s) (s1 : s ≤ 9) :
    Calls Tryz.prog 35 #[.int .i64 n, .int .i64 s] w fun e w' => e = .returned (.tuple #[.int .u64 (hiW (n * P10 s)), .int .u64 (loW (n * P10 s))]) ∧ w = w' := by
  have hb := Dcm.P10_bd s
  go_enter Tryz.func35, Tryz.ntmps35
  go_wp2_with fail
  refine (power_any _ _ s0 s1).mono ?_
  rintro e w' ⟨rfl, rfl⟩
  go_wp2_with fail
  refine (mul64_any _ _ _ n0 n1 (by omega) (by omega)).mono ?_
  rintro e w' ⟨rfl, rfl⟩
  go_wp2
  go_ret2
  exact ⟨rfl, rfl⟩
end Go.Proofs.YtdmenoimamnldaaGreatDoor
