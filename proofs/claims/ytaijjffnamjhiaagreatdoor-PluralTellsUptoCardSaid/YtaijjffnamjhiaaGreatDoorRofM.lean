/- The walk of linguisterref1.Joined. -/
import Derived.Test.YtaijjffnamjhiaaGreatDoorBy1
import Derived.Lib.Join
import Derived.Lib.SplitLaws
import Derived.Lib.Replace
import Derived.Below
import Derived.Test.YtaijjffnamjhiaaGreatDoorDecText
import Derived.Test.YtaijjffnamjhiaaGreatDoorRulQ
import Derived.Test.YtaijjffnamjhiaaGreatDoorProg
import Derived.Test.YtaijjffnamjhiaaGreatDoorRead
import Derived.Test.YtaijjffnamjhiaaGreatDoorCutP
import Derived.Test.YtaijjffnamjhiaaGreatDoorStr
import Derived.OwnWalk
import Derived.LoopTactic
import Derived.Test.YtaijjffnamjhiaaGreatDoorRparA
import Derived.Test.YtaijjffnamjhiaaGreatDoorDigits
import Derived.Test.YtaijjffnamjhiaaGreatDoorDrew
import Derived.Test.YtaijjffnamjhiaaGreatDoorHeld
import Derived.Deep.DeepCutAuto
import Derived.Deep.CutRange
import Derived.Test.YtaijjffnamjhiaaGreatDoorListP
namespace Byt
open Go Go.Lib
theorem split_cons {c : UInt8} {X : List UInt8} (Y : List UInt8) (h : c ∉ X) : split (X ++ c :: Y) [c] = X :: split Y [c] := by
  unfold split
  have e : count (X ++ c :: Y) [c] = count Y [c] + 1 := by
    rw [count_one, count_one, List.count_append, List.count_cons_self, List.count_eq_zero.2 h]; omega
  rw [e, splitK_hit _ _ h]
theorem split_none {c : UInt8} {X : List UInt8} (h : c ∉ X) : split X [c] = [X] := splitK_miss _ h
theorem split_join (c : UInt8) : ∀ {l : List (List UInt8)}, l ≠ [] → (∀ p ∈ l, c ∉ p) → split (join l [c]) [c] = l
  | [], h, _ => absurd rfl h
  | [x], _, h => by rw [join_one]; exact split_none (h x (by simp))
  | x :: y :: r, _, h => by
    have e : join (x :: y :: r) [c] = x ++ c :: join (y :: r) [c] := by
      rw [join_cons, join_cons]; unfold joinTail; simp
    rw [e, split_cons _ (h x (by simp)), split_join c (by simp) (fun p hp => h p (by simp at hp ⊢; exact .inr hp))]
theorem replaceK_one {c : UInt8} : ∀ (k : Nat) (s : List UInt8), s.count c = k → replaceK [c] [] k s = s.filter (· != c)
  | 0, s, h => by
    rw [replaceK]
    exact (List.filter_eq_self.2 fun x hx => by simp; exact fun e => (List.count_eq_zero.1 h) (e ▸ hx)).symm
  | k + 1, s, h => by
    have hc : c ∈ s := List.count_pos_iff.1 (by omega)
    obtain ⟨X, Y, rfl, hX⟩ := part hc
    rw [replaceK, idx_hit Y hX]
    rw [List.count_append, List.count_cons_self, List.count_eq_zero.2 hX] at h
    have e1 : (X ++ c :: Y).take (X.length : Int).toNat = X := by simp
    have e2 : (X ++ c :: Y).drop ((X.length : Int).toNat + [c].length) = Y := by rw [Int.toNat_natCast, ← List.drop_drop, List.drop_left]; rfl
    simp only [e1, e2]
    rw [replaceK_one k Y (by omega), List.filter_append]
    have f1 : X.filter (· != c) = X := List.filter_eq_self.2 fun x hx => by simp; exact fun e => hX (e ▸ hx)
    rw [f1]; simp
theorem replaceAll_one (c : UInt8) (s : List UInt8) : replaceAll s [c] [] = s.filter (· != c) := by
  unfold replaceAll replace replaceNum
  rw [if_neg (by simp), if_pos (by left; decide), count_one]
  exact replaceK_one _ s rfl
end Byt
namespace Go.Proofs.YtaijjffnamjhiaaGreatDoor.Dcm
/-- ten, so often with itself (from 0 to 9) -/
def P10 (n : Int) : Int := if n ≤ 0 then 1 else if n = 1 then 10 else if n = 2 then 100 else if n = 3 then 1000 else if n = 4 then 10000 else if n = 5 then 100000 else if n = 6 then 1000000 else if n = 7 then 10000000 else if n = 8 then 100000000 else 1000000000
theorem ten (s : Int) (h0 : 0 ≤ s) (h1 : s ≤ 9) : s = 0 ∨ s = 1 ∨ s = 2 ∨ s = 3 ∨ s = 4 ∨ s = 5 ∨ s = 6 ∨ s = 7 ∨ s = 8 ∨ s = 9 := by omega
theorem P10_0 : P10 0 = 1 := rfl
theorem P10_succ (n : Int) (h0 : 0 ≤ n) (h : n ≤ 8) : P10 (n + 1) = P10 n * 10 := by
  rcases ten n h0 (by omega) with rfl | rfl | rfl | rfl | rfl | rfl | rfl | rfl | rfl | rfl <;> simp [P10] at h ⊢
theorem P10_bd (n : Int) : 1 ≤ P10 n ∧ P10 n ≤ 1000000000 := by
  unfold P10
  repeat' split
  all_goals omega
theorem P10_ge (n : Int) (h : 1 ≤ n) : 10 ≤ P10 n := by
  unfold P10
  repeat' split
  all_goals omega
theorem P10_mul (s t : Int) (h0 : 0 ≤ s) (h1 : 0 ≤ t) (h2 : s + t ≤ 9) : P10 s * P10 t = P10 (s + t) := by
  rcases ten s h0 (by omega) with rfl | rfl | rfl | rfl | rfl | rfl | rfl | rfl | rfl | rfl <;> rcases ten t h1 (by omega) with rfl | rfl | rfl | rfl | rfl | rfl | rfl | rfl | rfl | rfl <;> first | rfl | omega
def okD (c s : Int) : Prop := 0 ≤ s ∧ s ≤ 9 ∧ -1000000000000000 ≤ c ∧ c ≤ 1000000000000000
instance (c s : Int) : Decidable (okD c s) := by unfold okD; infer_instance
def nrm (c s : Int) : Int := c * P10 (9 - s)
theorem lt_iff (a s b t : Int) (hs0 : 0 ≤ s) (hs : s ≤ 9) (ht0 : 0 ≤ t) (ht : t ≤ 9) : a * P10 t < b * P10 s ↔ nrm a s < nrm b t := by
  unfold nrm
  rcases ten s hs0 hs with rfl | rfl | rfl | rfl | rfl | rfl | rfl | rfl | rfl | rfl <;> rcases ten t ht0 ht with rfl | rfl | rfl | rfl | rfl | rfl | rfl | rfl | rfl | rfl <;> simp [P10] <;> omega
theorem eq_iff (a s b t : Int) (hs0 : 0 ≤ s) (hs : s ≤ 9) (ht0 : 0 ≤ t) (ht : t ≤ 9) : a * P10 t = b * P10 s ↔ nrm a s = nrm b t := by
  have h1 := lt_iff a s b t hs0 hs ht0 ht
  have h2 := lt_iff b t a s ht0 ht hs0 hs
  omega
theorem mul_bd (n p : Int) (h0 : 0 ≤ n) (h1 : n ≤ 1000000000000000) (p0 : 1 ≤ p) (p1 : p ≤ 1000000000) : 0 ≤ n * p ∧ n * p ≤ 1000000000000000000000000 := by
  constructor
  · exact Int.mul_nonneg h0 (by omega)
  · calc n * p ≤ 1000000000000000 * p := Int.mul_le_mul_of_nonneg_right h1 (by omega)
      _ ≤ _ := by omega
theorem P10_pos (n : Int) : 0 < P10 n := by have := P10_bd n; omega
theorem nrm_same {a b s : Int} : nrm a s < nrm b s ↔ a < b := by
  unfold nrm
  have := P10_pos (9 - s)
  constructor
  · intro h; exact Int.lt_of_mul_lt_mul_right h (by omega)
  · intro h; exact Int.mul_lt_mul_of_pos_right h this
theorem nrm_neg (a s : Int) : nrm (-a) s = - nrm a s := by unfold nrm; rw [Int.neg_mul]
theorem nrm_up (c s t : Int) (h0 : 0 ≤ s) (h1 : s ≤ t) (h2 : t ≤ 9) : nrm (c * P10 (t - s)) t = nrm c s := by
  unfold nrm
  rw [Int.mul_assoc, P10_mul _ _ (by omega) (by omega) (by omega), show t - s + (9 - t) = 9 - s from by omega]
/-- two words of a product compared -/
theorem words_lt {A B : Int} : A < B ↔ (A / 18446744073709551616 < B / 18446744073709551616 ∨ A / 18446744073709551616 = B / 18446744073709551616 ∧ A % 18446744073709551616 < B % 18446744073709551616) := by omega
theorem words_eq {A B : Int} : A = B ↔ (A / 18446744073709551616 = B / 18446744073709551616 ∧ A % 18446744073709551616 = B % 18446744073709551616) := by omega

def sgn (c : Int) : Int := if c < 0 then -1 else 1
def mag (c : Int) : Int := if c < 0 then -c else c
theorem sgn_mag (c : Int) : sgn c * mag c = c := by unfold sgn mag; split <;> omega
theorem mag_bd (c : Int) : 0 ≤ mag c := by unfold mag; split <;> omega
/-- is what is cut off rounded away from nought? -/
def near (way whole rest unit sign : Int) : Bool :=
  if way = 2 then decide (0 < rest) && decide (sign < 0)
  else if way = 3 then decide (0 < rest) && decide (0 < sign)
  else if way = 4 then decide (unit ≤ 2 * rest)
  else if way = 5 then decide (unit < 2 * rest) || (decide (2 * rest = unit) && decide (whole % 2 = 1))
  else false
def rdU (N U way sign : Int) : Int := N / U + if near way (N / U) (N % U) U sign then 1 else 0
/-- the coefficient of what is rounded -/
def rndC (c s t way : Int) : Int := if s ≤ t then c * P10 (t - s) else sgn c * rdU (mag c) (P10 (s - t)) way (sgn c)
/-- is there room? -/
def rndOk (c s t : Int) : Prop := s ≤ t → mag c * P10 (t - s) ≤ 1000000000000000
instance (c s t : Int) : Decidable (rndOk c s t) := by unfold rndOk; infer_instance
/-- rounded at once: A is the number in the least digits, U the unit -/
def RR (A U way : Int) : Int := sgn A * rdU (mag A) U way (sgn A)
theorem near_mul (way w r u s k : Int) (hk : 0 < k) : near way w (r * k) (u * k) s = near way w r u s := by
  unfold near
  have e1 : (0 < r * k) ↔ 0 < r := by
    constructor
    · intro h; exact Int.pos_of_mul_pos_left h (by omega) |> fun x => x
    · intro h; exact Int.mul_pos h hk
  have e2 : (u * k ≤ 2 * (r * k)) ↔ u ≤ 2 * r := by
    rw [← Int.mul_assoc]; exact ⟨fun h => Int.le_of_mul_le_mul_right h hk, fun h => Int.mul_le_mul_of_nonneg_right h (by omega)⟩
  have e3 : (u * k < 2 * (r * k)) ↔ u < 2 * r := by
    rw [← Int.mul_assoc]; exact ⟨fun h => Int.lt_of_mul_lt_mul_right h (by omega), fun h => Int.mul_lt_mul_of_pos_right h hk⟩
  have e4 : (2 * (r * k) = u * k) ↔ 2 * r = u := by
    rw [← Int.mul_assoc]; exact ⟨fun h => Int.eq_of_mul_eq_mul_right (by omega) h, fun h => by rw [h]⟩
  simp only [e1, e2, e3, e4]
theorem sgn_mul (c k : Int) (hk : 0 < k) : sgn (c * k) = sgn c := by
  unfold sgn
  have : c * k < 0 ↔ c < 0 := by
    constructor
    · intro h; rcases Int.lt_or_le c 0 with g | g
      · exact g
      · have := Int.mul_nonneg g (by omega : 0 ≤ k); omega
    · intro h; exact Int.mul_neg_of_neg_of_pos h hk
  simp only [this]
theorem mag_mul (c k : Int) (hk : 0 < k) : mag (c * k) = mag c * k := by
  unfold mag
  have : c * k < 0 ↔ c < 0 := by
    constructor
    · intro h; rcases Int.lt_or_le c 0 with g | g
      · exact g
      · have := Int.mul_nonneg g (by omega : 0 ≤ k); omega
    · intro h; exact Int.mul_neg_of_neg_of_pos h hk
  simp only [this]; split
  · rw [Int.neg_mul]
  · rfl
theorem RR_mul (c u way k : Int) (hk : 0 < k) : RR (c * k) (u * k) way = RR c u way := by
  unfold RR rdU
  have e : mag c * k % (u * k) = mag c % u * k := by rw [Int.mul_comm (mag c), Int.mul_comm u, Int.mul_emod_mul_of_pos _ _ hk, Int.mul_comm]
  rw [sgn_mul c k hk, mag_mul c k hk, Int.mul_ediv_mul_of_pos_left _ _ hk, e, near_mul _ _ _ _ _ _ hk]
theorem RR_one (c way : Int) : RR c 1 way = c := by
  unfold RR rdU
  have : near way (mag c / 1) (mag c % 1) 1 (sgn c) = false := by
    unfold near; simp [Int.emod_one]
  rw [this]; simp; exact sgn_mag c
theorem rndC_RR (c s t way : Int) (s0 : 0 ≤ s) (s1 : s ≤ 9) (t0 : 0 ≤ t) (t1 : t ≤ 9) : rndC c s t way = RR (nrm c s) (P10 (9 - t)) way := by
  unfold rndC nrm
  split
  · rename_i h
    have e : P10 (9 - s) = P10 (t - s) * P10 (9 - t) := by rw [P10_mul _ _ (by omega) (by omega) (by omega)]; congr 1; omega
    have e1 : c * P10 (9 - s) = c * P10 (t - s) * P10 (9 - t) := by rw [e, Int.mul_assoc]
    rw [e1]
    have := RR_mul (c * P10 (t - s)) 1 way (P10 (9 - t)) (P10_pos _)
    rw [Int.one_mul] at this
    rw [this, RR_one]
  · rename_i h
    have e : P10 (9 - t) = P10 (s - t) * P10 (9 - s) := by rw [P10_mul _ _ (by omega) (by omega) (by omega)]; congr 1; omega
    rw [e, RR_mul _ _ _ _ (P10_pos _)]; rfl
theorem ways (w : Int) (h0 : 1 ≤ w) (h1 : w ≤ 5) : w = 1 ∨ w = 2 ∨ w = 3 ∨ w = 4 ∨ w = 5 := by omega
theorem RR_mono_lit (A B U way : Int) (hU : 0 < U) (h0 : 1 ≤ way) (h1 : way ≤ 5) (h : A < B) (hlit : ∃ t, 0 ≤ t ∧ t ≤ 9 ∧ U = P10 t) : RR A U way ≤ RR B U way := by
  obtain ⟨t, t0, t1, rfl⟩ := hlit
  clear hU
  unfold RR rdU sgn mag near
  rcases ten t t0 t1 with rfl | rfl | rfl | rfl | rfl | rfl | rfl | rfl | rfl | rfl <;> simp only [P10, Int.reduceLE, Int.reduceEq, if_true, if_false] <;>
    rcases ways way h0 h1 with rfl | rfl | rfl | rfl | rfl <;> simp only [Int.reduceEq, if_true, if_false, Bool.and_eq_true, Bool.or_eq_true, decide_eq_true_eq, Bool.false_eq_true] <;>
    by_cases hA : A < 0 <;> by_cases hB : B < 0 <;> simp only [hA, hB, if_true, if_false] <;> (repeat' split) <;> omega

theorem RR_mono (A B t way : Int) (t0 : 0 ≤ t) (t1 : t ≤ 9) (h0 : 1 ≤ way) (h1 : way ≤ 5) (h : A < B) : RR A (P10 t) way ≤ RR B (P10 t) way :=
  RR_mono_lit A B _ way (P10_pos _) h0 h1 h ⟨t, t0, t1, rfl⟩
theorem RR_neg (A U way : Int) (h1 : way ≠ 2) (h2 : way ≠ 3) (hU : 0 < U) : RR (-A) U way = - RR A U way := by
  have key : ∀ s s' : Int, rdU (mag A) U way s = rdU (mag A) U way s' := by
    intro s s'; unfold rdU near; rw [if_neg h1, if_neg h2, if_neg h1, if_neg h2]
  have hm : mag (-A) = mag A := by unfold mag; (repeat' split) <;> omega
  unfold RR
  rw [hm, key _ 1, key (sgn A) 1]
  by_cases h : A = 0
  · subst h
    have : rdU (mag 0) U way 1 = 0 := by
      unfold rdU mag near; rw [if_neg h1, if_neg h2]; simp; (repeat' split) <;> simp <;> omega
    rw [this]; simp
  · have : sgn (-A) = - sgn A := by unfold sgn; (repeat' split) <;> omega
    rw [this, Int.neg_mul]
theorem rndC_neg (c s t way : Int) (s0 : 0 ≤ s) (s1 : s ≤ 9) (t0 : 0 ≤ t) (t1 : t ≤ 9) (h1 : way ≠ 2) (h2 : way ≠ 3) : rndC (-c) s t way = - rndC c s t way := by
  rw [rndC_RR _ _ _ _ s0 s1 t0 t1, rndC_RR _ _ _ _ s0 s1 t0 t1, nrm_neg, RR_neg _ _ _ h1 h2 (P10_pos _)]
/-- what is rounded off -/
theorem near_facts (c s t way : Int) (hc : -1000000000000000 ≤ c ∧ c ≤ 1000000000000000) (s1 : s ≤ 9) (t0 : 0 ≤ t) (ht : t < s) (h0 : 1 ≤ way) (h1 : way ≤ 5) :
    -100000000000001 ≤ rndC c s t way ∧ rndC c s t way ≤ 100000000000001 ∧
    mag (c - rndC c s t way * P10 (s - t)) < P10 (s - t) ∧
    ((way = 4 ∨ way = 5) → 2 * mag (c - rndC c s t way * P10 (s - t)) ≤ P10 (s - t)) ∧
    (way = 5 → 2 * mag (c - rndC c s t way * P10 (s - t)) = P10 (s - t) → (rndC c s t way) % 2 = 0) ∧
    (way = 2 → 0 ≤ c - rndC c s t way * P10 (s - t)) ∧ (way = 3 → c - rndC c s t way * P10 (s - t) ≤ 0) ∧
    (way = 1 → (0 ≤ c ∧ 0 ≤ c - rndC c s t way * P10 (s - t)) ∨ (c ≤ 0 ∧ c - rndC c s t way * P10 (s - t) ≤ 0)) := by
  obtain ⟨k, hk⟩ : ∃ k, k = s - t := ⟨_, rfl⟩
  unfold rndC; rw [if_neg (by omega), ← hk]
  have k1 : k = 1 ∨ k = 2 ∨ k = 3 ∨ k = 4 ∨ k = 5 ∨ k = 6 ∨ k = 7 ∨ k = 8 ∨ k = 9 := by omega
  clear hk s1 t0 ht
  unfold rdU sgn mag near
  rcases k1 with rfl | rfl | rfl | rfl | rfl | rfl | rfl | rfl | rfl <;> simp only [P10, Int.reduceLE, Int.reduceEq, if_true, if_false] <;>
    rcases ways way h0 h1 with rfl | rfl | rfl | rfl | rfl <;> simp only [Int.reduceEq, if_true, if_false, Bool.and_eq_true, Bool.or_eq_true, decide_eq_true_eq, Bool.false_eq_true, false_implies, true_implies, or_false, false_or, and_true, true_and] <;>
    by_cases hA : c < 0 <;> (try simp only [hA, if_true, if_false]) <;> (repeat' split) <;> omega
/-- the sum's coefficient, and how many digits it has behind the point -/
def addC (a s b t : Int) : Int := if s ≤ t then a * P10 (t - s) + b else b * P10 (s - t) + a
def addS (s t : Int) : Int := if s ≤ t then t else s
theorem addS_comm (s t : Int) : addS s t = addS t s := by unfold addS; (repeat' split) <;> omega
theorem addC_comm (a s b t : Int) : addC a s b t = addC b t a s := by
  unfold addC
  by_cases h : s = t
  · subst h; simp [P10]; omega
  · by_cases g : s ≤ t
    · rw [if_pos g, if_neg (by omega)]
    · rw [if_neg g, if_pos (by omega)]
theorem addS_bd {s t : Int} (s0 : 0 ≤ s) (s1 : s ≤ 9) (t0 : 0 ≤ t) (t1 : t ≤ 9) : 0 ≤ addS s t ∧ addS s t ≤ 9 := by unfold addS; split <;> omega
theorem nrm_add (a s b t : Int) (s0 : 0 ≤ s) (s1 : s ≤ 9) (t0 : 0 ≤ t) (t1 : t ≤ 9) : nrm (addC a s b t) (addS s t) = nrm a s + nrm b t := by
  unfold addC addS
  by_cases g : s ≤ t
  · rw [if_pos g, if_pos g]
    have := nrm_up a s t s0 g t1
    unfold nrm at *
    rw [Int.add_mul, this]
  · rw [if_neg g, if_neg g]
    have := nrm_up b t s t0 (by omega) s1
    unfold nrm at *
    rw [Int.add_mul, this, Int.add_comm]
theorem nrm_inj {a b s : Int} : nrm a s = nrm b s ↔ a = b := by
  have h1 := @nrm_same a b s
  have h2 := @nrm_same b a s
  omega
/-- what is added, in the walk's own way -/
theorem sum_quo (a b U : Int) (_hU : 1 ≤ U) : (a + b.tdiv U) * U + b.tmod U = a * U + b := by
  have := Int.mul_tdiv_add_tmod b U
  rw [Int.mul_comm] at this
  rw [Int.add_mul]; omega
theorem tdiv_bd (b U : Int) (_hU : 1 ≤ U) (hb : -1000000000000000 ≤ b ∧ b ≤ 1000000000000000) : -1000000000000000 ≤ b.tdiv U ∧ b.tdiv U ≤ 1000000000000000 := by
  have h1 := Int.natAbs_tdiv_le_natAbs b U
  omega
theorem tmod_bd (b U : Int) (hU : 1 ≤ U) : -U < b.tmod U ∧ b.tmod U < U := by
  have h1 := Int.tmod_lt_of_pos b (by omega : 0 < U)
  have h2 := Int.tmod_lt_of_pos (-b) (by omega : 0 < U)
  rw [Int.neg_tmod] at h2
  omega
/-- the sum that is no sum: far off -/
theorem sum_far (S r U : Int) (hU : 1 ≤ U) (hr : -U < r ∧ r < U) (hS : 2000000000000000 / U + 1 < S ∨ S < -(2000000000000000 / U) - 1) : 1000000000000000 < S * U + r ∨ S * U + r < -1000000000000000 := by
  have h1 : 2000000000000000 / U * U + 2000000000000000 % U = 2000000000000000 := by rw [Int.mul_comm]; exact Int.mul_ediv_add_emod _ _
  have h2 := Int.emod_lt_of_pos 2000000000000000 (by omega : 0 < U)
  rcases hS with h | h
  · have : (2000000000000000 / U + 1 + 1) * U ≤ S * U := Int.mul_le_mul_of_nonneg_right (by omega) (by omega)
    rw [Int.add_mul, Int.add_mul] at this; omega
  · have : S * U ≤ (-(2000000000000000 / U) - 1 - 1) * U := Int.mul_le_mul_of_nonneg_right (by omega) (by omega)
    rw [Int.sub_mul, Int.sub_mul, Int.neg_mul] at this; omega
theorem sum_near (S U : Int) (hU : 1 ≤ U) (hU1 : U ≤ 1000000000) (hS : ¬ 2000000000000000 / U + 1 < S ∧ ¬ S < -(2000000000000000 / U) - 1) : -2000001000000000 ≤ S * U ∧ S * U ≤ 2000001000000000 := by
  have h1 : 2000000000000000 / U * U + 2000000000000000 % U = 2000000000000000 := by rw [Int.mul_comm]; exact Int.mul_ediv_add_emod _ _
  have h2 := Int.emod_nonneg 2000000000000000 (by omega : U ≠ 0)
  constructor
  · have : (-(2000000000000000 / U) - 1) * U ≤ S * U := Int.mul_le_mul_of_nonneg_right (by omega) (by omega)
    rw [Int.sub_mul, Int.neg_mul] at this; omega
  · have : S * U ≤ (2000000000000000 / U + 1) * U := Int.mul_le_mul_of_nonneg_right (by omega) (by omega)
    rw [Int.add_mul] at this; omega
/-- noughts at the end struck: how many digits are left, and they -/
def strip : Nat → Int → Nat × Int
  | 0, t => (0, t)
  | w + 1, t => if t % 10 = 0 then strip w (t / 10) else (w + 1, t)
theorem strip_le : ∀ (w : Nat) (t : Int), (strip w t).1 ≤ w
  | 0, _ => Nat.le_refl _
  | w + 1, t => by unfold strip; split; exact Nat.le_succ_of_le (strip_le w _); exact Nat.le_refl _
theorem strip_end : ∀ (w : Nat) (t : Int), (strip w t).1 = 0 ∨ (strip w t).2 % 10 ≠ 0
  | 0, _ => .inl rfl
  | w + 1, t => by
    unfold strip; split
    · exact strip_end w _
    · rename_i h; exact .inr h
theorem strip_mul : ∀ (w : Nat) (t : Int), w ≤ 9 → (strip w t).2 * P10 (w - (strip w t).1) = t
  | 0, t, _ => by simp [strip, P10]
  | w + 1, t, h => by
    unfold strip; split
    · rename_i h0
      have := strip_mul w (t / 10) (by omega)
      have hl := strip_le w (t / 10)
      have e : ((w + 1 : Nat) : Int) - ((strip w (t / 10)).1 : Int) = ((w : Int) - ((strip w (t / 10)).1 : Int)) + 1 := by omega
      rw [e, P10_succ _ (by omega) (by omega), ← Int.mul_assoc, this]; omega
    · simp [P10]
theorem strip_ten (w : Nat) (t : Int) : strip (w + 1) (t * 10) = strip w t := by
  unfold strip; rw [if_pos (by omega)]
  have : t * 10 / 10 = t := by omega
  rw [this]
  cases w <;> rfl
theorem strip_tens : ∀ (k w : Nat) (t : Int), k ≤ 9 → strip (w + k) (t * P10 k) = strip w t
  | 0, w, t, _ => by simp [P10]
  | k + 1, w, t, h => by
    have e : P10 ((k + 1 : Nat) : Int) = P10 (k : Int) * 10 := by
      have := P10_succ (k : Int) (by omega) (by omega)
      simpa using this
    rw [e, ← Int.mul_assoc, ← Nat.add_assoc, strip_ten]
    exact strip_tens k w t (by omega)
theorem strip_nonneg : ∀ (w : Nat) (t : Int), 0 ≤ t → 0 ≤ (strip w t).2 ∧ (strip w t).2 ≤ t
  | 0, t, h => ⟨h, Int.le_refl _⟩
  | w + 1, t, h => by
    unfold strip; split
    · have := strip_nonneg w (t / 10) (by omega); omega
    · exact ⟨h, Int.le_refl _⟩
end Go.Proofs.YtaijjffnamjhiaaGreatDoor.Dcm
namespace Byt
open Go Go.Lib
open Go.Proofs.YtaijjffnamjhiaaGreatDoor.Dcm (P10 okD mag)

/-- digits as a number, behind acc -/
def foldD (acc : Nat) : List UInt8 → Nat
  | [] => acc
  | c :: r => foldD (10 * acc + (c.toNat - 48)) r
theorem foldD_app (x y : List UInt8) : ∀ a : Nat, foldD a (x ++ y) = foldD (foldD a x) y := by
  induction x with
  | nil => intro a; rfl
  | cons c r ih => intro a; exact ih _
theorem foldD_step (a x P S : Nat) : (10 * a + x) * P + S = a * (P * 10) + (x * P + S) := by
  have e : (10 * a + x) * P = a * (P * 10) + x * P := by rw [Nat.add_mul, Nat.mul_comm 10 a, Nat.mul_assoc, Nat.mul_comm 10 P]
  rw [e, Nat.add_assoc]
theorem foldD_pow : ∀ (l : List UInt8) (a : Nat), foldD a l = a * 10 ^ l.length + foldD 0 l
  | [], a => (Nat.mul_one a).symm
  | c :: r, a => by
    have h1 := foldD_pow r (10 * a + (c.toNat - 48))
    have h2 := foldD_pow r (10 * 0 + (c.toNat - 48))
    have h3 : 10 ^ (c :: r).length = 10 ^ r.length * 10 := Nat.pow_succ 10 r.length
    rw [h3]
    have e1 : foldD a (c :: r) = foldD (10 * a + (c.toNat - 48)) r := rfl
    have e2 : foldD 0 (c :: r) = foldD (10 * 0 + (c.toNat - 48)) r := rfl
    rw [e1, e2, h1, h2, Nat.mul_zero, Nat.zero_add]
    exact foldD_step _ _ _ _
theorem foldD_rep (k : Nat) (l : List UInt8) : foldD 0 (List.replicate k 48 ++ l) = foldD 0 l := by
  induction k with
  | zero => rfl
  | succ k ih =>
    rw [List.replicate_succ]
    exact ih
theorem foldD_dec : ∀ (k u : Nat), u < k → foldD 0 (decDigits u) = u
  | 0, u, h => by omega
  | k + 1, u, h => by
    by_cases hu : u < 10
    · rw [Dtx.dd1 hu]
      show 10 * 0 + ((UInt8.ofNat (48 + u)).toNat - 48) = u
      rw [dig_byte hu]; omega
    · rw [Dtx.dd2 hu, foldD_app, foldD_dec k (u / 10) (by omega)]
      show 10 * (u / 10) + ((UInt8.ofNat (48 + u % 10)).toNat - 48) = u
      rw [dig_byte (by omega)]; omega
theorem foldD_digits (u : Nat) : foldD 0 (decDigits u) = u := foldD_dec (u + 1) u (by omega)
theorem foldD_pad (k u : Nat) : foldD 0 (Dtx.pad k u) = u := by
  unfold Dtx.pad
  rw [foldD_rep, foldD_digits]
def isDig (c : UInt8) : Bool := decide (48 ≤ (c.toNat : Int)) && decide ((c.toNat : Int) ≤ 57)
theorem isDig_iff {c : UInt8} : isDig c = true ↔ 48 ≤ c.toNat ∧ c.toNat ≤ 57 := by
  unfold isDig
  rw [Bool.and_eq_true, decide_eq_true_eq, decide_eq_true_eq]; omega
/-- what linguisterref1.NumberOf tells -/
def numP (l : List UInt8) : Int :=
  if l.length = 0 ∨ 16 < l.length then -1
  else if l.all isDig = true then (if decDigits (foldD 0 l) = l ∧ (foldD 0 l : Int) ≤ 1000000000000000 then (foldD 0 l : Int) else -1) else -1
theorem numP_dec (u : Nat) (h : u ≤ 1000000000000000) : numP (decDigits u) = u := by
  unfold numP
  have h1 := List.length_pos_iff.2 (digits_ne u)
  have h2 := digits_short 16 u (by omega) (by omega)
  rw [if_neg (by omega), if_pos (List.all_eq_true.2 fun c hc => isDig_iff.2 (digits_all u c hc)), foldD_digits, if_pos ⟨rfl, by omega⟩]
theorem numP_some {l : List UInt8} (h : 0 ≤ numP l) : decDigits (numP l).toNat = l ∧ numP l ≤ 1000000000000000 := by
  unfold numP at *
  split at h
  · omega
  · rename_i h1
    rw [if_neg h1]
    split at h
    · rename_i h2
      rw [if_pos h2]
      split at h
      · rename_i h3
        rw [if_pos h3]
        exact ⟨by rw [Int.toNat_natCast]; exact h3.1, h3.2⟩
      · omega
    · omega
theorem numP_bd (l : List UInt8) : -1 ≤ numP l ∧ numP l ≤ 1000000000000000 := by
  unfold numP
  split
  · omega
  · split
    · split
      · rename_i h; omega
      · omega
    · omega
theorem foldD_bd : ∀ (l : List UInt8), (∀ c ∈ l, 48 ≤ c.toNat ∧ c.toNat ≤ 57) → foldD 0 l < 10 ^ l.length := by
  intro l
  induction l with
  | nil => intro _; decide
  | cons c r ih =>
    intro h
    have h1 := ih fun x hx => h x (List.mem_cons_of_mem _ hx)
    have h2 := h c List.mem_cons_self
    show foldD (10 * 0 + (c.toNat - 48)) r < _
    rw [foldD_pow, List.length_cons, Nat.pow_succ]
    generalize 10 ^ r.length = P at *
    have : (10 * 0 + (c.toNat - 48)) * P ≤ 9 * P := Nat.mul_le_mul_right P (by omega)
    omega

theorem pad_succ (k u : Nat) (hk : 0 < k) : Dtx.pad (k + 1) u = Dtx.pad k (u / 10) ++ [UInt8.ofNat (48 + u % 10)] := by
  unfold Dtx.pad
  by_cases h : u < 10
  · obtain ⟨j, rfl⟩ : ∃ j, k = j + 1 := ⟨k - 1, by omega⟩
    rw [Dtx.dd1 h, show u / 10 = 0 by omega, Dtx.dd1 (show 0 < 10 by omega), Nat.mod_eq_of_lt h]
    show List.replicate (j + 1) 48 ++ _ = List.replicate j 48 ++ [48] ++ _
    rw [List.replicate_succ']
  · rw [Dtx.dd2 h, List.length_append, List.length_singleton, show k + 1 - ((decDigits (u / 10)).length + 1) = k - (decDigits (u / 10)).length by omega, List.append_assoc]
theorem pad_len {k u : Nat} (hk : 0 < k) (h : u < 10 ^ k) : (Dtx.pad k u).length = k := by
  have := digits_short k u h hk
  unfold Dtx.pad
  rw [List.length_append, List.length_replicate]; omega
theorem pad_one (u : Nat) : Dtx.pad 1 u = decDigits u := by
  have := List.length_pos_iff.2 (digits_ne u)
  unfold Dtx.pad
  rw [show 1 - (decDigits u).length = 0 by omega]; rfl
theorem pad_split : ∀ (s u : Nat), 0 < s → Dtx.pad (s + 1) u = decDigits (u / 10 ^ s) ++ Dtx.pad s (u % 10 ^ s)
  | 0, u, h => by omega
  | 1, u, _ => by
    rw [pad_succ 1 u (by omega), pad_one, pad_one, Nat.pow_one, Dtx.dd1 (show u % 10 < 10 by omega)]
  | s + 2, u, _ => by
    rw [pad_succ (s + 2) u (by omega), pad_split (s + 1) (u / 10) (by omega), pad_succ (s + 1) (u % 10 ^ (s + 2)) (by omega)]
    have e : 10 ^ (s + 2) = 10 ^ (s + 1) * 10 := Nat.pow_succ 10 (s + 1)
    rw [e, Nat.mod_mul_left_div_self, Nat.mod_mul_left_mod, Nat.div_div_eq_div_mul, Nat.mul_comm 10 (10 ^ (s + 1)), List.append_assoc]
theorem P10_pow (s : Nat) (h : s ≤ 9) : P10 (s : Int) = ((10 ^ s : Nat) : Int) := by
  have : s = 0 ∨ s = 1 ∨ s = 2 ∨ s = 3 ∨ s = 4 ∨ s = 5 ∨ s = 6 ∨ s = 7 ∨ s = 8 ∨ s = 9 := by omega
  rcases this with rfl | rfl | rfl | rfl | rfl | rfl | rfl | rfl | rfl | rfl <;> rfl
theorem mag_abs (c : Int) : mag c = (c.natAbs : Int) := by unfold mag; split <;> omega
/-- a number's text in two pieces -/
def magT (n s : Int) : List UInt8 := if s ≤ 0 then decDigits n.toNat else decDigits (n / P10 s).toNat ++ 46 :: Dtx.pad s.toNat (n % P10 s).toNat
theorem decText_two (c s : Int) (h : okD c s) : decText c s = sgn c ++ magT (mag c) s := by
  obtain ⟨s0, s9, _, _⟩ := h
  unfold decText magT
  by_cases hs : s ≤ 0
  · rw [if_pos hs, if_pos hs, mag_abs, Int.toNat_natCast]
  · rw [if_neg hs, if_neg hs]
    obtain ⟨k, rfl⟩ : ∃ k : Nat, s = (k : Int) := ⟨s.toNat, by omega⟩
    have e : zdig (zn c k) c.natAbs = decDigits (c.natAbs / 10 ^ k) ++ Dtx.pad k (c.natAbs % 10 ^ k) := pad_split k c.natAbs (by omega)
    have hp : 0 < 10 ^ k := Nat.pow_pos (by omega)
    have l := pad_len (k := k) (u := c.natAbs % 10 ^ k) (by omega) (Nat.mod_lt _ hp)
    rw [e, Int.toNat_natCast, mag_abs, P10_pow k (by omega)]
    rw [← Int.natCast_ediv, ← Int.natCast_emod, Int.toNat_natCast, Int.toNat_natCast]
    generalize Dtx.pad k (c.natAbs % 10 ^ k) = P at *
    generalize decDigits (c.natAbs / 10 ^ k) = D at *
    rw [List.length_append, l, Nat.add_sub_cancel, List.take_left, List.drop_left]
    simp
/-- without the minus ahead -/
def bare (t : List UInt8) : List UInt8 := if t.take 1 = [45] then t.drop 1 else t
def neg (t : List UInt8) : Bool := t.take 1 == [45]
theorem magT_head (n s : Int) : (magT n s).take 1 ≠ [45] := by
  have key : ∀ (u : Nat) (Y : List UInt8), (decDigits u ++ Y).take 1 ≠ [45] := fun u Y e => by
    cases hd : decDigits u with
    | nil => exact digits_ne u hd
    | cons c r =>
      rw [hd] at e
      simp at e
      have := digits_all u c (by rw [hd]; exact List.mem_cons_self)
      rw [e] at this
      exact absurd this.1 (by decide)
  unfold magT
  split
  · have := key n.toNat []
    rwa [List.append_nil] at this
  · exact key _ _
theorem bare_text (c s : Int) (h : okD c s) : bare (decText c s) = magT (mag c) s ∧ neg (decText c s) = decide (c < 0) := by
  rw [decText_two c s h]
  have hm := magT_head (mag c) s
  unfold bare neg sgn
  by_cases hc : c < 0
  · rw [if_pos hc]
    simp [hc]
  · rw [if_neg hc, List.nil_append, if_neg hm]
    exact ⟨rfl, by rw [beq_eq_false_iff_ne.2 hm]; simp [hc]⟩
def digs : List UInt8 := [48, 49, 50, 51, 52, 53, 54, 55, 56, 57]
/-- what linguisterref1.DecOf tells, but for its last look -/
def decOfP (t : List UInt8) : Option (Int × Int) :=
  match split (bare t) [46] with
  | [a] => if numP a < 0 then none else some (if neg t then 0 - numP a else numP a, 0)
  | [a, b] => if numP a < 0 then none else if (b.all fun c => digs.contains c) = true ∧ 1 ≤ b.length ∧ b.length ≤ 9 ∧ numP a ≤ 1000000000000000 / P10 b.length then some (if neg t then 0 - (foldD (numP a).toNat b : Int) else (foldD (numP a).toNat b : Int), b.length) else none
  | _ => none
theorem digs_of {c : UInt8} (h : 48 ≤ c.toNat ∧ c.toNat ≤ 57) : digs.contains c = true := by
  have : c.toNat = 48 ∨ c.toNat = 49 ∨ c.toNat = 50 ∨ c.toNat = 51 ∨ c.toNat = 52 ∨ c.toNat = 53 ∨ c.toNat = 54 ∨ c.toNat = 55 ∨ c.toNat = 56 ∨ c.toNat = 57 := by omega
  have e : c = UInt8.ofNat c.toNat := by simp
  rcases this with g | g | g | g | g | g | g | g | g | g <;> (rw [e, g]; decide)
theorem of_digs {c : UInt8} (h : digs.contains c = true) : 48 ≤ c.toNat ∧ c.toNat ≤ 57 := by
  simp [digs] at h
  rcases h with rfl | rfl | rfl | rfl | rfl | rfl | rfl | rfl | rfl | rfl <;> decide
theorem pad_all (k u : Nat) : AllDig (Dtx.pad k u) := fun c hc => by
  unfold Dtx.pad at hc
  rcases List.mem_append.1 hc with hc | hc
  · rw [(List.mem_replicate.1 hc).2]; decide
  · exact digits_all u c hc
theorem decOf_text (c s : Int) (h : okD c s) : decOfP (decText c s) = some (c, s) := by
  obtain ⟨e1, e2⟩ := bare_text c s h
  obtain ⟨s0, s9, c0, c1⟩ := h
  have hm : mag c = (c.natAbs : Int) := mag_abs c
  unfold decOfP
  rw [e1, e2]
  unfold magT
  by_cases hs : s ≤ 0
  · rw [if_pos hs, split_none (no_point (digits_all _)), hm, Int.toNat_natCast]
    dsimp only
    rw [numP_dec _ (by omega), if_neg (by omega)]
    have : s = 0 := by omega
    subst this
    congr 2
    by_cases hc : c < 0
    · simp [hc]; omega
    · simp [hc]; omega
  · rw [if_neg hs, split_cons _ (no_point (digits_all _)), split_none (no_point (pad_all _ _))]
    obtain ⟨k, rfl⟩ : ∃ k : Nat, s = (k : Int) := ⟨s.toNat, by omega⟩
    rw [Int.toNat_natCast, hm, P10_pow k (by omega), ← Int.natCast_ediv, ← Int.natCast_emod, Int.toNat_natCast, Int.toNat_natCast]
    dsimp only
    have hp : 0 < 10 ^ k := Nat.pow_pos (by omega)
    have l := pad_len (k := k) (u := c.natAbs % 10 ^ k) (by omega) (Nat.mod_lt _ hp)
    have q1 : c.natAbs / 10 ^ k ≤ c.natAbs := Nat.div_le_self _ _
    have q2 : c.natAbs / 10 ^ k ≤ 1000000000000000 / 10 ^ k := Nat.div_le_div_right (by omega)
    rw [numP_dec _ (by omega), if_neg (Int.not_lt.2 (Int.natCast_nonneg _)), l, P10_pow k (by omega), if_pos ⟨List.all_eq_true.2 fun c hc => digs_of (pad_all _ _ c hc), by omega, by omega, by
      rw [show (1000000000000000 : Int) = ((1000000000000000 : Nat) : Int) by rfl, ← Int.natCast_ediv]; exact Int.ofNat_le.2 q2⟩, Int.toNat_natCast, foldD_pow, l, foldD_pad]
    have e3 : c.natAbs / 10 ^ k * 10 ^ k + c.natAbs % 10 ^ k = c.natAbs := by rw [Nat.mul_comm]; exact Nat.div_add_mod _ _
    rw [e3]
    congr 2
    by_cases hc : c < 0
    · rw [if_pos (by simpa using hc)]; omega
    · rw [if_neg (by simpa using hc)]; omega
/-- what linguisterref1.DecOf tells: a number whose text it is, or none -/
theorem decOf_iff (t : List UInt8) : (∃ c s, decOfP t = some (c, s) ∧ okD c s ∧ decText c s = t) ∨ ((∀ c s, decOfP t = some (c, s) → ¬ (okD c s ∧ decText c s = t)) ∧ ∀ c s, okD c s → decText c s ≠ t) := by
  by_cases h : ∃ c s, decOfP t = some (c, s) ∧ okD c s ∧ decText c s = t
  · exact .inl h
  · exact .inr ⟨fun c s e g => h ⟨c, s, e, g⟩, fun c s hk e => h ⟨c, s, by rw [← e]; exact decOf_text c s hk, hk, e⟩⟩
end Byt
namespace Rul
open Go Go.Lib

/-- a range's text, read -/
def rngQ (z : List UInt8) : Int × Int := (Byt.numP (((split z [46, 46])[0]?).getD []), Byt.numP (((split z [46, 46]).getLast?).getD []))
/-- a relation's words, read -/
def wordsQ : List (List UInt8) → Rl
  | [c] :: u :: v :: r =>
    if u = [37] ∧ r.length = 2 then ⟨c, Byt.numP v, decide ((r[0]?).getD [] = [33, 61]), (split ((r[1]?).getD []) [44]).map rngQ⟩
    else ⟨c, 0, decide (u = [33, 61]), (split v [44]).map rngQ⟩
  | _ => ⟨0, 0, false, []⟩
def relQ (s : List UInt8) : Rl := wordsQ (split s [32])
def partQ (s : List UInt8) : List Rl := (split s andS).map relQ
def ruleQ (s : List UInt8) : Rule := (split s orS).map partQ
/-- is it a rule's text, as the reference tells? -/
def okQ (s : List UInt8) : Bool := decide (ruleE (ruleQ s) = 0) && (ruleT (ruleQ s) == s)

theorem numP_dg {v : Int} (h0 : 0 ≤ v) (h1 : v ≤ 1000000) : Byt.numP (dg v) = v := by
  have := Byt.numP_dec v.toNat (by omega)
  unfold dg
  rw [this]
  omega
theorem rngQ_T (p : Int × Int) (h : rngOk p = true) : rngQ (rngT p) = p := by
  obtain ⟨a, b⟩ := p
  simp only [rngOk, Bool.and_eq_true, decide_eq_true_eq] at h
  obtain ⟨⟨h0, h1⟩, h2⟩ := h
  have na := numP_dg (v := a) h0 (by omega)
  have nb := numP_dg (v := b) (by omega) h2
  unfold rngQ rngT
  dsimp only
  split
  · rename_i e
    subst e
    rw [split_none (c := 46) (by simp) (dg_no (by decide))]
    simp [na]
  · rw [split_at (c := 46) (k := 0) _ rfl (by simp) (dg_no (by decide)), split_none (c := 46) (by simp) (dg_no (by decide))]
    simp [na, nb]
theorem rngs_split {r : Rl} (h : relOk r = true) : (split (join (r.rs.map rngT) [44]) [44]).map rngQ = r.rs := by
  obtain ⟨_, _, _, h3, h4⟩ := relOk_parts h
  rw [split_join (c := 44) (k := 0) rfl (by simp) (by simpa using h3) (fun p hp => by obtain ⟨x, _, rfl⟩ := List.mem_map.1 hp; exact rngT_no (by decide)), List.map_map]
  rw [List.map_congr_left (f := rngQ ∘ rngT) (g := id) (fun p hp => rngQ_T p (h4 p hp))]
  simp
theorem op_no {c : UInt8} (h : opOk c = true) : (32 : UInt8) ∉ [c] := by
  rcases op_cases h with e | e | e | e | e | e <;> rw [e] <;> decide
theorem relT_words {r : Rl} (h : relOk r = true) : split (relT r) [32] = (if r.mod = 0 then [[r.op]] else [[r.op], [37], dg r.mod]) ++ [if r.no then [33, 61] else [61], join (r.rs.map rngT) [44]] := by
  obtain ⟨h0, _, _, h3, h4⟩ := relOk_parts h
  have hj : (32 : UInt8) ∉ join (r.rs.map rngT) [44] := rngs_no (by decide)
  have hd : (32 : UInt8) ∉ dg r.mod := dg_no (by decide)
  have ho := op_no h0
  have hn : (32 : UInt8) ∉ (if r.no then [33, 61] else [61] : List UInt8) := by split <;> decide
  have e : relT r = join ((if r.mod = 0 then [[r.op]] else [[r.op], [37], dg r.mod]) ++ [if r.no then [33, 61] else [61], join (r.rs.map rngT) [44]]) [32] := by
    unfold relT headT
    split <;> split <;> simp [join, List.intercalate, List.intersperse, pcS, neS, eqS]
  rw [e]
  refine split_join (c := 32) (k := 0) rfl (by simp) (by simp) (fun p hp => ?_)
  rcases List.mem_append.1 hp with hp | hp
  · split at hp
    · simp at hp; subst hp; exact ho
    · simp at hp
      rcases hp with rfl | rfl | rfl
      · exact ho
      · decide
      · exact hd
  · simp only [List.mem_cons, List.not_mem_nil, or_false] at hp
    rcases hp with rfl | rfl
    · exact hn
    · exact hj
theorem words3 (c : UInt8) (u v : List UInt8) : wordsQ [[c], u, v] = ⟨c, 0, decide (u = [33, 61]), (split v [44]).map rngQ⟩ := by
  show (if u = [37] ∧ ([] : List (List UInt8)).length = 2 then _ else _) = _
  rw [if_neg (by simp)]
theorem words5 (c : UInt8) (v x y : List UInt8) : wordsQ [[c], [37], v, x, y] = ⟨c, Byt.numP v, decide (x = [33, 61]), (split y [44]).map rngQ⟩ := by
  unfold wordsQ
  simp
theorem relQ_T (r : Rl) (h : relOk r = true) : relQ (relT r) = r := by
  obtain ⟨_, h1, h2, _, _⟩ := relOk_parts h
  unfold relQ
  rw [relT_words h]
  have hs := rngs_split h
  have hm := numP_dg h1 h2
  obtain ⟨op, mod, no, rs⟩ := r
  dsimp only at *
  by_cases hz : mod = 0
  · subst hz
    rw [if_pos rfl]
    show wordsQ [[op], (if no then [33, 61] else [61]), join (rs.map rngT) [44]] = _
    rw [words3, hs]
    cases no <;> simp
  · rw [if_neg hz]
    show wordsQ [[op], [37], dg mod, (if no then [33, 61] else [61]), join (rs.map rngT) [44]] = _
    rw [words5, hs, hm]
    cases no <;> simp
theorem partQ_T (l : List Rl) (h : partOk l = true) : partQ (partT l) = l := by
  obtain ⟨h1, h2⟩ := part_parts h
  unfold partQ partT
  rw [split_join (c := 97) (k := 1) rfl (by decide) (by simpa using h1) (fun p hp => by obtain ⟨x, hx, rfl⟩ := List.mem_map.1 hp; exact relT_no (op_of (h2 x hx)) (by simp)), List.map_map]
  rw [List.map_congr_left (f := relQ ∘ relT) (g := id) (fun p hp => relQ_T p (h2 p hp))]
  simp
theorem ruleQ_T (r : Rule) (h : shapeOk r = true) : ruleQ (ruleT r) = r := by
  obtain ⟨h1, h2⟩ := shape_parts h
  unfold ruleQ ruleT
  rw [split_join (c := 111) (k := 1) rfl (by decide) (by simpa using h1) (fun p hp => by obtain ⟨x, hx, rfl⟩ := List.mem_map.1 hp; exact partT_no (h2 x hx)), List.map_map]
  rw [List.map_congr_left (f := partQ ∘ partT) (g := id) (fun p hp => partQ_T p (h2 p hp))]
  simp
theorem okQ_iff {s : List UInt8} : okQ s = true ↔ ruleE (ruleQ s) = 0 ∧ ruleT (ruleQ s) = s := by
  unfold okQ
  simp
/-- both read the same texts, and the same of them -/
theorem ok_same (s : List UInt8) : okQ s = parseOk s ∧ (parseOk s = true → ruleQ s = ruleP s) := by
  have h1 : okQ s = true → parseOk s = true ∧ ruleP s = ruleQ s := fun h => by
    obtain ⟨e, t⟩ := okQ_iff.1 h
    have := parse_text e
    rwa [t] at this
  have h2 : parseOk s = true → okQ s = true ∧ ruleQ s = ruleP s := fun h => by
    obtain ⟨e, t⟩ := parseOk_iff.1 h
    have q := ruleQ_T (ruleP s) (ruleE_zero.1 e).1
    rw [t] at q
    exact ⟨okQ_iff.2 (by rw [q]; exact ⟨e, t⟩), q⟩
  refine ⟨?_, fun h => (h2 h).2⟩
  cases hp : parseOk s with
  | true => exact (h2 hp).1
  | false =>
    cases hq : okQ s with
    | false => rfl
    | true => rw [(h1 hq).1] at hp; cases hp
end Rul
namespace Go.Proofs.YtaijjffnamjhiaaGreatDoor
open Go.RowKit

/-- a call that gives these texts, and turns nothing old -/
def GivesStrs (w : World) (l : List (List UInt8)) (e : Ending) (w' : World) : Prop := ∃ v, e = .returned v ∧ StrsAt w' v l ∧ Below w.heap.size w w'

theorem slice_midI {P : Program} (t : TypeId) (h : P.underlying t = some .string) (L : List UInt8) (i j : Int) (a b : Nat) (hi : i = a) (hj : j = b) (hab : a ≤ b) (hb : b ≤ L.length) (w : World) :
    (Instr.slice t (.string ⟨L.toArray⟩) (some (.int .i64 i)) (some (.int .i64 j)) none).run P w = .ok (.string ⟨((L.drop a).take (b - a)).toArray⟩) w := by
  subst hi hj; exact slice_mid t h L .i64 .i64 a b hab hb w
theorem infoStr : (Tryz.prog.info? 9).map (fun i => (i.zero, i.size, i.bytes)) = some (some (.string ByteArray.empty), 1, 16) := by kernel_rfl

set_option maxRecDepth 100000 in
set_option maxHeartbeats 1000000 in
theorem cut_any (s at_ : List UInt8) (w : World) (ha : at_ ≠ []) (hs : s.length ≤ 4000000000) (hat : at_.length ≤ 4000000000) :
    Calls Tryz.prog 58 #[.string ⟨s.toArray⟩, .string ⟨at_.toArray⟩] w (GivesStrs w (Lib.split s at_)) := by
  obtain ⟨i0, hi, hz0, hz1, hz2⟩ := info_parts infoStr
  have hm : 0 < at_.length := List.length_pos_iff.2 ha
  have HA := Lib.hid ha
  clear ha
  go_enter Tryz.func58, Tryz.ntmps58
  go_wp2_with fail
  go_loopw [5, 6, 7] (fun o f i wr => ∃ (P : List (List UInt8)) (a b : Nat), f = .int .i64 a ∧ i = .int .i64 b ∧ a ≤ b ∧ b ≤ s.length ∧ P.length ≤ a ∧ Hid (wr.ownsRow w.heap.size 9 1 o P.length (P.map txtV)) ∧ Hid (Below w.heap.size w wr) ∧ Hid (Spl.Inv s at_ P a b)) (fun _ _ i _ => s.length - (RowKit.intOf i).toNat)
  case atStart => exact ⟨[], 0, 0, rfl, rfl, Nat.le_refl _, Nat.zero_le _, Nat.le_refl _, ⟨rfl, .inl ⟨rfl, rfl⟩⟩, Below.refl _ _, Spl.inv_start s at_⟩
  case round =>
    obtain ⟨P, a, b, rfl, rfl, hab, hb, hP, HO, HB, HI⟩ := hrel
    by_cases hroom : b + at_.length ≤ s.length
    · have SM := fun w => slice_midI (P := Tryz.prog) 9 Tryz.underlying9 s (b : Int) ((b : Int) + (at_.length : Int)) b (b + at_.length) rfl (by omega) (by omega) hroom w
      have e0 : b + at_.length - b = at_.length := by omega
      rw [e0] at SM
      clear e0
      by_cases hX : (s.drop b).take at_.length = at_
      · have IH := Lib.hid (Spl.inv_hit HI.out HA.out hab hroom hX)
        rw [hX] at SM
        have S2 := fun w => slice_midI (P := Tryz.prog) 9 Tryz.underlying9 s (a : Int) (b : Int) a b rfl rfl hab hb w
        clear hX HI
        generalize (s.drop a).take (b - a) = u at *
        have hown := HO.out
        have hbs := HB.out.size
        go_wp2_with (at_builtin; refine wpList_append_own _ rfl _ _ 107 rfl w.heap.size 9 i0 (.string ByteArray.empty) 1 16 Tryz.underlying107 hi hz0 hz1 hz2 rfl (by decide) _ _ _ rfl (hown.alloc _) ⟨wr.heap.size, 0, none⟩ 1 1 [txtV u] rfl rfl (cell_one_new _ _ _) (fun x hx => by simp at hx; subst hx; rfl) (by unfold maxLen; omega) (by omega) (by simp; omega) ?_; intro v' w1 hown' hgrow _)
        have HO' := Lib.hid (show w1.ownsRow w.heap.size 9 1 v' (P ++ [u]).length ((P ++ [u]).map txtV) by simpa using hown')
        have HB' := Lib.hid (show Below w.heap.size w w1 from (HB.out.alloc hbs _).grown hgrow (by simp; omega) (fun k hk => (hown.lt k hk).1))
        clear hown hown' hgrow hbs HO HB S2
        go_wp2_with fail
        go_roundw
        case rel => exact ⟨P ++ [u], b + at_.length, b + at_.length, by go_num, by go_num, Nat.le_refl _, hroom, by simp; omega, HO', HB', IH⟩
        case measure => simp [RowKit.intOf]; omega
      · have IH := Lib.hid (Spl.inv_miss HI.out hroom hX)
        have hXb : ((s.drop b).take at_.length == at_) = false := beq_eq_false_iff_ne.2 hX
        clear HI hX
        generalize (s.drop b).take at_.length = u at *
        go_wp2_with fail
        go_roundw
        case rel => exact ⟨P, a, b + 1, rfl, by go_num, by omega, by omega, hP, HO, HB, IH⟩
        case measure => simp [RowKit.intOf]; omega
    · have IE := Lib.hid (Spl.inv_end HI.out HA.out hroom)
      have S3 := fun w => slice_from (P := Tryz.prog) 9 Tryz.underlying9 s .i64 a (by omega) w
      clear HI
      generalize s.drop a = u at *
      have hown := HO.out
      have hbs := HB.out.size
      go_wp2_with (at_builtin; refine wpList_append_own _ rfl _ _ 107 rfl w.heap.size 9 i0 (.string ByteArray.empty) 1 16 Tryz.underlying107 hi hz0 hz1 hz2 rfl (by decide) _ _ _ rfl (hown.alloc _) ⟨wr.heap.size, 0, none⟩ 1 1 [txtV u] rfl rfl (cell_one_new _ _ _) (fun x hx => by simp at hx; subst hx; rfl) (by unfold maxLen; omega) (by omega) (by simp; omega) ?_; intro v' w1 hown' hgrow _)
      have HO' := Lib.hid (show w1.ownsRow w.heap.size 9 1 v' (P ++ [u]).length ((P ++ [u]).map txtV) by simpa using hown')
      have HB' := Lib.hid (show Below w.heap.size w w1 from (HB.out.alloc hbs _).grown hgrow (by simp; omega) (fun k hk => (hown.lt k hk).1))
      clear hown hown' hgrow hbs HO HB S3
      go_wp2_with fail
      go_ret
      exact ⟨_, rfl, by rw [IE.out]; exact StrsAt.of_row HO'.out, HB'.out⟩
end Go.Proofs.YtaijjffnamjhiaaGreatDoor
namespace Go.Proofs.YtaijjffnamjhiaaGreatDoor
open Go.RowKit

/-- a call that makes a list of these texts, and turns nothing old -/
def OwnsStrs (w : World) (l : List (List UInt8)) (e : Ending) (w' : World) : Prop := ∃ v, e = .returned v ∧ w'.ownsRow w.heap.size 9 1 v l.length (l.map txtV) ∧ Below w.heap.size w w'
set_option maxRecDepth 100000 in
set_option maxHeartbeats 1000000 in
theorem cut_own (s at_ : List UInt8) (w : World) (ha : at_ ≠ []) (hs : s.length ≤ 4000000000) (hat : at_.length ≤ 4000000000) :
    Calls Tryz.prog 58 #[.string ⟨s.toArray⟩, .string ⟨at_.toArray⟩] w (OwnsStrs w (Lib.split s at_)) := by
  obtain ⟨i0, hi, hz0, hz1, hz2⟩ := info_parts infoStr
  have hm : 0 < at_.length := List.length_pos_iff.2 ha
  have HA := Lib.hid ha
  clear ha
  go_enter Tryz.func58, Tryz.ntmps58
  go_wp2_with fail
  go_loopw [5, 6, 7] (fun o f i wr => ∃ (P : List (List UInt8)) (a b : Nat), f = .int .i64 a ∧ i = .int .i64 b ∧ a ≤ b ∧ b ≤ s.length ∧ P.length ≤ a ∧ Hid (wr.ownsRow w.heap.size 9 1 o P.length (P.map txtV)) ∧ Hid (Below w.heap.size w wr) ∧ Hid (Spl.Inv s at_ P a b)) (fun _ _ i _ => s.length - (RowKit.intOf i).toNat)
  case atStart => exact ⟨[], 0, 0, rfl, rfl, Nat.le_refl _, Nat.zero_le _, Nat.le_refl _, ⟨rfl, .inl ⟨rfl, rfl⟩⟩, Below.refl _ _, Spl.inv_start s at_⟩
  case round =>
    obtain ⟨P, a, b, rfl, rfl, hab, hb, hP, HO, HB, HI⟩ := hrel
    by_cases hroom : b + at_.length ≤ s.length
    · have SM := fun w => slice_midI (P := Tryz.prog) 9 Tryz.underlying9 s (b : Int) ((b : Int) + (at_.length : Int)) b (b + at_.length) rfl (by omega) (by omega) hroom w
      have e0 : b + at_.length - b = at_.length := by omega
      rw [e0] at SM
      clear e0
      by_cases hX : (s.drop b).take at_.length = at_
      · have IH := Lib.hid (Spl.inv_hit HI.out HA.out hab hroom hX)
        rw [hX] at SM
        have S2 := fun w => slice_midI (P := Tryz.prog) 9 Tryz.underlying9 s (a : Int) (b : Int) a b rfl rfl hab hb w
        clear hX HI
        generalize (s.drop a).take (b - a) = u at *
        have hown := HO.out
        have hbs := HB.out.size
        go_wp2_with (at_builtin; refine wpList_append_own _ rfl _ _ 107 rfl w.heap.size 9 i0 (.string ByteArray.empty) 1 16 Tryz.underlying107 hi hz0 hz1 hz2 rfl (by decide) _ _ _ rfl (hown.alloc _) ⟨wr.heap.size, 0, none⟩ 1 1 [txtV u] rfl rfl (cell_one_new _ _ _) (fun x hx => by simp at hx; subst hx; rfl) (by unfold maxLen; omega) (by omega) (by simp; omega) ?_; intro v' w1 hown' hgrow _)
        have HO' := Lib.hid (show w1.ownsRow w.heap.size 9 1 v' (P ++ [u]).length ((P ++ [u]).map txtV) by simpa using hown')
        have HB' := Lib.hid (show Below w.heap.size w w1 from (HB.out.alloc hbs _).grown hgrow (by simp; omega) (fun k hk => (hown.lt k hk).1))
        clear hown hown' hgrow hbs HO HB S2
        go_wp2_with fail
        go_roundw
        case rel => exact ⟨P ++ [u], b + at_.length, b + at_.length, by go_num, by go_num, Nat.le_refl _, hroom, by simp; omega, HO', HB', IH⟩
        case measure => simp [RowKit.intOf]; omega
      · have IH := Lib.hid (Spl.inv_miss HI.out hroom hX)
        have hXb : ((s.drop b).take at_.length == at_) = false := beq_eq_false_iff_ne.2 hX
        clear HI hX
        generalize (s.drop b).take at_.length = u at *
        go_wp2_with fail
        go_roundw
        case rel => exact ⟨P, a, b + 1, rfl, by go_num, by omega, by omega, hP, HO, HB, IH⟩
        case measure => simp [RowKit.intOf]; omega
    · have IE := Lib.hid (Spl.inv_end HI.out HA.out hroom)
      have S3 := fun w => slice_from (P := Tryz.prog) 9 Tryz.underlying9 s .i64 a (by omega) w
      clear HI
      generalize s.drop a = u at *
      have hown := HO.out
      have hbs := HB.out.size
      go_wp2_with (at_builtin; refine wpList_append_own _ rfl _ _ 107 rfl w.heap.size 9 i0 (.string ByteArray.empty) 1 16 Tryz.underlying107 hi hz0 hz1 hz2 rfl (by decide) _ _ _ rfl (hown.alloc _) ⟨wr.heap.size, 0, none⟩ 1 1 [txtV u] rfl rfl (cell_one_new _ _ _) (fun x hx => by simp at hx; subst hx; rfl) (by unfold maxLen; omega) (by omega) (by simp; omega) ?_; intro v' w1 hown' hgrow _)
      have HO' := Lib.hid (show w1.ownsRow w.heap.size 9 1 v' (P ++ [u]).length ((P ++ [u]).map txtV) by simpa using hown')
      have HB' := Lib.hid (show Below w.heap.size w w1 from (HB.out.alloc hbs _).grown hgrow (by simp; omega) (fun k hk => (hown.lt k hk).1))
      clear hown hown' hgrow hbs HO HB S3
      go_wp2_with fail
      go_ret
      exact ⟨_, rfl, by rw [IE.out]; exact HO'.out, HB'.out⟩
end Go.Proofs.YtaijjffnamjhiaaGreatDoor
namespace Go.Proofs.YtaijjffnamjhiaaGreatDoor
open Go.RowKit Go.Shelf

/-- the cells of ranges -/
def qrf (l : List (List UInt8)) : List Value := l.flatMap fun x => [.int .i64 (Rul.rngQ x).1, .int .i64 (Rul.rngQ x).2]
theorem qrf_at {l : List (List UInt8)} : ∀ {j : Nat} {x : List UInt8}, l[j]? = some x → (qrf l)[j * 2]? = some (.int .i64 (Rul.rngQ x).1) ∧ (qrf l)[j * 2 + 1]? = some (.int .i64 (Rul.rngQ x).2) := by
  induction l with
  | nil => intro j x h; simp at h
  | cons a l ih =>
    intro j x h
    cases j with
    | zero => simp at h; subst h; exact ⟨rfl, rfl⟩
    | succ j =>
      have h' := ih (by simpa using h)
      have e : (j + 1) * 2 = j * 2 + 1 + 1 := by omega
      rw [e]
      exact h'
/-- the round's world: the box of the relation, the row of its ranges -/
structure QX (w : World) (B p : Nat) (o m b vb vr : Value) (g5 : Nat) (L pre : List (List UInt8)) (W : World) : Prop where
  box : Boxed W p #[o, m, b, vb]
  row : W.ownsRow B 165 2 vr pre.length (qrf pre)
  res : Boxed W w.heap.size #[.int .u8 0, .int .i64 0, .bool false, .slice none 0 0]
  low : Below w.heap.size w W
  sz : B ≤ W.heap.size
  strs : ∀ (j : Nat) x, L[j]? = some x → W.cell? ⟨g5, j, none⟩ = some (.string ⟨x.toArray⟩)
theorem QX.grown {w : World} {B p : Nat} {o m b vb vr : Value} {g5 : Nat} {L pre : List (List UInt8)} {A C : World} {r : Option Nat} (h : QX w B p o m b vb vr g5 L pre A) (g : A.grownBy C r)
    (hr : ∀ k, r = some k → w.heap.size < k ∧ k ≠ p ∧ vr.ownBlock ≠ some k ∧ k ≠ g5) : QX w B p o m b vb vr g5 L pre C :=
  ⟨boxed_grown h.box g (fun e => (hr _ e.symm).2.1 rfl), h.row.kept g (by
      cases hv : vr.ownBlock with
      | none => exact .inl rfl
      | some k => exact .inr fun e => (hr k e.symm).2.2.1 hv), boxed_grown h.res g (fun e => by have := (hr _ e.symm).1; omega),
    h.low.grown g h.low.size (fun k hk => by have := (hr k hk).1; omega), Nat.le_trans h.sz g.size, fun j x hx => g.cell (h.strs j x hx) (fun e => (hr _ e.symm).2.2.2 rfl)⟩

theorem QX.lies {w : World} {B p : Nat} {o m b vb vr : Value} {g5 : Nat} {L pre : List (List UInt8)} {A C : World} (h : QX w B p o m b vb vr g5 L pre A)
    (hC : ∀ (g : Nat) cur e, B ≤ g → A.heap[g]? = some (.cells cur e (0, 0)) → C.heap[g]? = A.heap[g]?) : SlAt 2 RngC C vr (pre.map Rul.rngQ) := by
  rcases hv : h.row.2 with ⟨rfl, hn⟩ | ⟨g, cap, cur, rfl, hB, hg, hc, hm, _⟩
  · exact .inl ⟨by rw [List.length_eq_zero_iff.1 hn]; rfl, _, _, rfl⟩
  · by_cases h0 : pre.length = 0
    · exact .inl ⟨by rw [List.length_eq_zero_iff.1 h0]; rfl, some ⟨g, 0, none⟩, cap, by rw [h0]⟩
    · have hgC := hC g cur _ hB hg
      refine .inr ⟨g, 0, cap, by rw [List.length_map], by rw [List.length_map]; omega, by rw [List.length_map]; exact hc, hm, fun j x hx => ?_⟩
      rw [List.getElem?_map] at hx
      obtain ⟨y, hy, rfl⟩ := Option.map_eq_some_iff.1 hx
      have hj : j < pre.length := (List.getElem?_eq_some_iff.1 hy).1
      obtain ⟨e0, e1⟩ := qrf_at hy
      have c0 := h.row.cellAt (g := g) (j * 2) (by omega)
      have c1 := h.row.cellAt (g := g) (j * 2 + 1) (by omega)
      rw [e0] at c0
      rw [e1] at c1
      rw [Nat.zero_add]
      exact ⟨(World.cell?_of_block (a := ⟨g, j * 2, none⟩) hgC).trans c0, (World.cell?_of_block (a := ⟨g, j * 2 + 1, none⟩) hgC).trans c1⟩
theorem QX.below {w : World} {B p : Nat} {o m b vb vr : Value} {g5 : Nat} {L pre : List (List UInt8)} {A C : World} (h : QX w B p o m b vb vr g5 L pre A) (hb : Below A.heap.size A C) : QX w B p o m b vb vr g5 L pre C :=
  h.grown (grown_below hb) (fun k e => by cases e)
theorem QX.append {w : World} {B p : Nat} {o m b vb vr v' : Value} {g5 : Nat} {L pre : List (List UInt8)} {x : List UInt8} {A C : World} (h : QX w B p o m b vb vr g5 L pre A)
    (hown : C.ownsRow B 165 2 v' (pre.length + 1) (qrf pre ++ [.int .i64 (Rul.rngQ x).1, .int .i64 (Rul.rngQ x).2])) (g : A.grownBy C vr.ownBlock) (hw : w.heap.size < B) (hp : p < B) (h5 : g5 < B) : QX w B p o m b vb v' g5 L (pre ++ [x]) C := by
  have hB : ∀ k, vr.ownBlock = some k → B ≤ k := fun k hk => (h.row.lt k hk).1
  refine ⟨boxed_grown h.box g (fun e => by have := hB _ e.symm; omega), ?_, boxed_grown h.res g (fun e => by have := hB _ e.symm; omega),
    h.low.grown g h.low.size (fun k hk => by have := hB _ hk; omega), Nat.le_trans h.sz g.size, fun j y hy => g.cell (h.strs j y hy) (fun e => by have := hB g5 e.symm; omega)⟩
  have e : qrf (pre ++ [x]) = qrf pre ++ [.int .i64 (Rul.rngQ x).1, .int .i64 (Rul.rngQ x).2] := by unfold qrf; rw [List.flatMap_append]; rfl
  rw [e, List.length_append]
  exact hown
theorem QX.stored {w : World} {B p : Nat} {o m b vb vr : Value} {g5 : Nat} {L pre : List (List UInt8)} {A : World} (h : QX w B p o m b vb vr g5 L pre A) (hw : w.heap.size < p) (hp : p < B) (h5 : g5 ≠ p) : QX w B p o m b vr vr g5 L pre (A.setCell ⟨p, 3, none⟩ vr) := by
  have g : A.grownBy (A.setCell ⟨p, 3, none⟩ vr) (some p) := ⟨rfl, rfl, rfl, by rw [size_setCell]; exact Nat.le_refl _, fun k _ hk => set_else (fun e => hk (by rw [← e]))⟩
  refine ⟨h.box.set 3 vr (by show 3 < 4; omega), h.row.kept g ?_, h.res.far (by omega) 3 vr, h.low.setCell (p := ⟨p, 3, none⟩) (show w.heap.size ≤ p by omega) vr, by rw [size_setCell]; exact h.sz, fun j y hy => g.cell (h.strs j y hy) (fun e => by injection e with e; exact h5 e)⟩
  cases hv : vr.ownBlock with
  | none => exact .inl rfl
  | some k => exact .inr fun e => by have := h.row.lt k hv; injection e with e; omega
/-- the row of texts that a call made, opened -/
theorem row_txt {w : World} {base : Nat} {v : Value} {L : List (List UInt8)} (h : w.ownsRow base 9 1 v L.length (L.map txtV)) (h0 : 0 < L.length) :
    ∃ g cap, v = .slice (some ⟨g, 0, none⟩) L.length cap ∧ base ≤ g ∧ g < w.heap.size ∧ L.length ≤ cap ∧ cap ≤ maxLen ∧ ∀ (j : Nat) x, L[j]? = some x → w.cell? ⟨g, j, none⟩ = some (.string ⟨x.toArray⟩) := by
  rcases h.2 with ⟨e, hn⟩ | ⟨g, cap, cur, e, hB, hg, hc, hm, _⟩
  · omega
  · refine ⟨g, cap, e, hB, (Array.getElem?_eq_some_iff.1 hg).1, hc, hm, fun j x hx => ?_⟩
    subst e
    have hj := (List.getElem?_eq_some_iff.1 hx).1
    rw [h.cellAt j (by omega), List.getElem?_map, hx]; rfl
theorem row_any {w : World} {base n k : Nat} {e : TypeId} {v : Value} {xs : List Value} (h : w.ownsRow base e k v n xs) : ∃ a c, v = .slice a n c := by
  rcases h.2 with ⟨rfl, rfl⟩ | ⟨g, cap, cur, rfl, _⟩
  · exact ⟨_, _, rfl⟩
  · exact ⟨_, _, rfl⟩
theorem words_short {L : List (List UInt8)} (h : L.length < 3) : Rul.wordsQ L = ⟨0, 0, false, []⟩ := by
  rcases L with _ | ⟨a, _ | ⟨b, _ | ⟨c, r⟩⟩⟩
  · rfl
  · cases a with
    | nil => rfl
    | cons x t => cases t <;> rfl
  · cases a with
    | nil => rfl
    | cons x t => cases t <;> rfl
  · simp at h; omega
theorem words_op {a u v : List UInt8} {r : List (List UInt8)} (h : a.length ≠ 1) : Rul.wordsQ (a :: u :: v :: r) = ⟨0, 0, false, []⟩ := by
  rcases a with _ | ⟨x, _ | ⟨y, t⟩⟩
  · rfl
  · simp at h
  · rfl
theorem beq_dec (a b : List UInt8) : (a == b) = decide (a = b) := by
  by_cases h : a = b <;> simp [h]
theorem words_any (c : UInt8) (u v : List UInt8) (r : List (List UInt8)) : ∃ MO X Y bx, Rul.wordsQ ([c] :: u :: v :: r) = ⟨c, MO, bx, (Lib.split Y [44]).map Rul.rngQ⟩ ∧ (X == [33, 61]) = bx ∧
    (u = [37] ∧ r.length = 2 → MO = Byt.numP v ∧ r = [X, Y]) ∧ (¬ (u = [37] ∧ r.length = 2) → MO = 0 ∧ X = u ∧ Y = v) := by
  by_cases h : u = [37] ∧ r.length = 2
  · obtain ⟨X, Y, rfl⟩ : ∃ X Y, r = [X, Y] := by
      rcases r with _ | ⟨a, _ | ⟨b, _ | ⟨c, t⟩⟩⟩
      · simp at h
      · simp at h
      · exact ⟨_, _, rfl⟩
      · simp at h
    obtain ⟨rfl, _⟩ := h
    exact ⟨_, X, Y, decide (X = [33, 61]), Rul.words5 c v X Y, beq_dec X _, fun _ => ⟨rfl, rfl⟩, fun hn => absurd ⟨rfl, rfl⟩ hn⟩
  · refine ⟨0, u, v, decide (u = [33, 61]), ?_, beq_dec u _, fun hn => absurd hn h, fun _ => ⟨rfl, rfl, rfl⟩⟩
    show (if u = [37] ∧ r.length = 2 then _ else _) = _
    rw [if_neg h]
end Go.Proofs.YtaijjffnamjhiaaGreatDoor
namespace Go.Proofs.YtaijjffnamjhiaaGreatDoor
open Go.RowKit

theorem u8_sub (x : Int) (h0 : 48 ≤ x) (h1 : x ≤ 57) : IntKind.u8.wrap (x - 48) = x - 48 := by
  have : x = 48 ∨ x = 49 ∨ x = 50 ∨ x = 51 ∨ x = 52 ∨ x = 53 ∨ x = 54 ∨ x = 55 ∨ x = 56 ∨ x = 57 := by omega
  rcases this with rfl | rfl | rfl | rfl | rfl | rfl | rfl | rfl | rfl | rfl <;> decide
theorem all_snoc {s : List UInt8} {k : Nat} {c : UInt8} (h : s[k]? = some c) (p : UInt8 → Bool) : (s.take (k + 1)).all p = ((s.take k).all p && p c) := by
  rw [List.take_add_one, h, List.all_append]; simp
theorem fold_snoc {s : List UInt8} {k : Nat} {c : UInt8} (h : s[k]? = some c) : Byt.foldD 0 (s.take (k + 1)) = 10 * Byt.foldD 0 (s.take k) + (c.toNat - 48) := by
  rw [List.take_add_one, h, Byt.foldD_app]; rfl
theorem all_of_take {s : List UInt8} {k : Nat} {c : UInt8} {p : UInt8 → Bool} (h : s[k]? = some c) (hp : p c = false) : s.all p = false :=
  List.all_eq_false.2 ⟨c, List.mem_of_getElem? h, by rw [hp]; decide⟩
theorem fold_take_bd {s : List UInt8} {k : Nat} (h : (s.take k).all Byt.isDig = true) (hk : k ≤ 16) : Byt.foldD 0 (s.take k) < 10000000000000000 := by
  have := Byt.foldD_bd (s.take k) fun c hc => Byt.isDig_iff.1 (List.all_eq_true.1 h c hc)
  have hl : (s.take k).length ≤ 16 := by rw [List.length_take]; omega
  have : 10 ^ (s.take k).length ≤ 10 ^ 16 := Nat.pow_le_pow_right (by omega) hl
  omega

set_option maxRecDepth 100000 in
set_option maxHeartbeats 2000000 in
theorem numof_any (s : List UInt8) (w : World) (hs : s.length ≤ 4000000000) :
    Calls Tryz.prog 114 #[.string ⟨s.toArray⟩] w fun e w' => e = .returned (.int .i64 (Byt.numP s)) ∧ Below w.heap.size w w' := by
  have HP := Lib.hid (show Byt.numP s = if s.length = 0 ∨ 16 < s.length then -1 else if s.all Byt.isDig = true then (if Lib.decDigits (Byt.foldD 0 s) = s ∧ (Byt.foldD 0 s : Int) ≤ 1000000000000000 then (Byt.foldD 0 s : Int) else -1) else -1 from rfl)
  generalize Byt.numP s = V at *
  by_cases h0 : s.length = 0
  · have HV := Lib.hid (show V = -1 by rw [HP.out, if_pos (.inl h0)])
    have d0 : ((s.length : Int) == 0) = true := beq_yes (by omega)
    clear HP h0
    go_enter Tryz.func114, Tryz.ntmps114
    go_wp2_with fail
    go_ret
    exact ⟨ret_int (by rw [HV.out]), Below.refl _ _⟩
  have d0 : ((s.length : Int) == 0) = false := beq_no (by omega)
  by_cases h1 : 16 < s.length
  · have HV := Lib.hid (show V = -1 by rw [HP.out, if_pos (.inr h1)])
    have d1 : decide (16 < (s.length : Int)) = true := dec_yes (by omega)
    clear HP h0
    go_enter Tryz.func114, Tryz.ntmps114
    go_wp2_with fail
    go_ret
    exact ⟨ret_int (by rw [HV.out]), Below.refl _ _⟩
  have HQ := Lib.hid (show V = if s.all Byt.isDig = true then (if Lib.decDigits (Byt.foldD 0 s) = s ∧ (Byt.foldD 0 s : Int) ≤ 1000000000000000 then (Byt.foldD 0 s : Int) else -1) else -1 by rw [HP.out, if_neg (by omega)])
  have d1 : decide (16 < (s.length : Int)) = false := dec_no (by omega)
  have hl : s.length ≤ 16 := by omega
  clear HP h0 h1
  go_enter Tryz.func114, Tryz.ntmps114
  go_wp2_with fail
  clear d0 d1
  go_loop [3, 4] (fun n i => ∃ k : Nat, i = .int .i64 k ∧ n = .int .i64 (Byt.foldD 0 (s.take k)) ∧ k ≤ s.length ∧ Hid ((s.take k).all Byt.isDig = true)) (fun _ i => s.length - (RowKit.intOf i).toNat)
  case atStart => exact ⟨0, rfl, rfl, Nat.zero_le _, Lib.hid rfl⟩
  case round =>
    obtain ⟨k, rfl, rfl, hk, HA⟩ := hrel
    have hb := fold_take_bd HA.out (by omega)
    by_cases hlt : k < s.length
    · obtain ⟨c, hx⟩ : ∃ c, s[k]? = some c := ⟨s[k], List.getElem?_eq_getElem hlt⟩
      have IX := fun w => index_str (P := Tryz.prog) 9 Tryz.underlying9 s .i64 k c hx w
      have hcb := c.toNat_lt
      by_cases hd : 48 ≤ c.toNat ∧ c.toNat ≤ 57
      · have HN := Lib.hid (fold_snoc hx)
        have HA2 := Lib.hid (show (s.take (k + 1)).all Byt.isDig = true by rw [all_snoc hx, HA.out, Byt.isDig_iff.2 hd]; rfl)
        have us := u8_sub (c.toNat : Int) (by omega) (by omega)
        obtain ⟨g0, g1⟩ := hd
        have e0 : decide ((c.toNat : Int) < 48) = false := dec_no (by omega)
        have e1 : decide (57 < (c.toNat : Int)) = false := dec_no (by omega)
        clear hx HA
        generalize Byt.foldD 0 (s.take k) = N at *
        go_wp2_with fail
        go_round
        case rel => exact ⟨k + 1, by go_num, congrArg (Value.int .i64) (by rw [HN.out]; omega), by omega, HA2⟩
        case measure => simp [RowKit.intOf]; omega
      · have HV := Lib.hid (show V = -1 by
          rw [HQ.out, if_neg]
          rw [all_of_take hx (show Byt.isDig c = false by
            cases hq : Byt.isDig c with
            | false => rfl
            | true => exact absurd (Byt.isDig_iff.1 hq) hd)]
          decide)
        clear hx HA HQ
        generalize Byt.foldD 0 (s.take k) = N at *
        by_cases g0 : c.toNat < 48
        · have e0 : decide ((c.toNat : Int) < 48) = true := dec_yes (by omega)
          go_wp2_with fail
          go_ret
          exact ⟨ret_int (by rw [HV.out]), Below.refl _ _⟩
        · have e0 : decide ((c.toNat : Int) < 48) = false := dec_no (by omega)
          have e1 : decide (57 < (c.toNat : Int)) = true := dec_yes (by omega)
          go_wp2_with fail
          go_ret
          exact ⟨ret_int (by rw [HV.out]), Below.refl _ _⟩
    · have ht : s.take k = s := List.take_of_length_le (by omega)
      rw [ht] at HA hb ⊢
      clear ht
      have CD := Lib.hid fun w => digits_none (Byt.foldD 0 s : Int) w (by omega) (by omega)
      rw [Int.toNat_natCast] at CD
      have HQ2 := Lib.hid (show V = if Lib.decDigits (Byt.foldD 0 s) = s ∧ (Byt.foldD 0 s : Int) ≤ 1000000000000000 then (Byt.foldD 0 s : Int) else -1 by rw [HQ.out, if_pos HA.out])
      clear HQ HA
      generalize Byt.foldD 0 s = N at *
      generalize Lib.decDigits N = D at *
      by_cases hq : D = s
      · have q1 : (D == s) = true := by rw [hq]; simp
        have q2 : (D != s) = false := by rw [bne, q1]; rfl
        by_cases hn : (N : Int) ≤ 1000000000000000
        · have HV := Lib.hid (show V = (N : Int) by rw [HQ2.out, if_pos ⟨hq, hn⟩])
          have e1 : decide (1000000000000000 < (N : Int)) = false := dec_no (by omega)
          clear hq HQ2
          go_wp2_with fail
          refine (CD.out _).mono ?_
          rintro e w1 ⟨rfl, hw⟩
          have HW := Lib.hid hw
          clear hw CD
          go_wp2_with fail
          go_ret
          exact ⟨ret_int (by rw [HV.out]), HW.out⟩
        · have HV := Lib.hid (show V = -1 by rw [HQ2.out, if_neg (fun g => hn g.2)])
          have e1 : decide (1000000000000000 < (N : Int)) = true := dec_yes (by omega)
          clear hq HQ2
          go_wp2_with fail
          refine (CD.out _).mono ?_
          rintro e w1 ⟨rfl, hw⟩
          have HW := Lib.hid hw
          clear hw CD
          go_wp2_with fail
          go_ret
          exact ⟨ret_int (by rw [HV.out]), HW.out⟩
      · have q1 : (D == s) = false := beq_eq_false_iff_ne.2 hq
        have q2 : (D != s) = true := by rw [bne, q1]; rfl
        have HV := Lib.hid (show V = -1 by rw [HQ2.out, if_neg (fun g => hq g.1)])
        clear hq HQ2
        go_wp2_with fail
        refine (CD.out _).mono ?_
        rintro e w1 ⟨rfl, hw⟩
        have HW := Lib.hid hw
        clear hw CD
        go_wp2_with fail
        go_ret
        exact ⟨ret_int (by rw [HV.out]), HW.out⟩
end Go.Proofs.YtaijjffnamjhiaaGreatDoor
namespace Go.Proofs.YtaijjffnamjhiaaGreatDoor
open Go.RowKit

attribute [local go_sem] Oper.semAt_some

theorem grown_two {A C : World} {r : Option Nat} {g i j : Nat} {u v : Value} (h : A.grownBy C r) (h1 : A.cell? ⟨g, i, none⟩ = some u) (h2 : A.cell? ⟨g, j, none⟩ = some v) (hr : ∀ k, r = some k → k < g) :
    C.cell? ⟨g, i, none⟩ = some u ∧ C.cell? ⟨g, j, none⟩ = some v :=
  ⟨h.cell h1 (fun e => by have := hr g e.symm; omega), h.cell h2 (fun e => by have := hr g e.symm; omega)⟩
theorem store_two {A : World} {g p i j k : Nat} {u v x : Value} (hg : g ≠ p) (h1 : A.cell? ⟨g, i, none⟩ = some u) (h2 : A.cell? ⟨g, j, none⟩ = some v) :
    (A.setCell ⟨p, k, none⟩ x).cell? ⟨g, i, none⟩ = some u ∧ (A.setCell ⟨p, k, none⟩ x).cell? ⟨g, j, none⟩ = some v :=
  ⟨(World.cell?_setCell_other _ _ _ _ (fun e => hg (by injection e with e; exact e.symm))).trans h1, (World.cell?_setCell_other _ _ _ _ (fun e => hg (by injection e with e; exact e.symm))).trans h2⟩

set_option maxRecDepth 100000 in
set_option maxHeartbeats 8000000 in
theorem relof_any (s : List UInt8) (w : World) (hs : s.length ≤ 100000000) :
    Calls Tryz.prog 59 #[.string ⟨s.toArray⟩] w fun e w' => ∃ a n c, e = .returned (.agg #[.int .u8 ((Rul.relQ s).op.toNat : Int), .int .i64 (Rul.relQ s).mod, .bool (Rul.relQ s).no, .slice a n c]) ∧ SlAt 2 RngC w' (.slice a n c) (Rul.relQ s).rs ∧ (∀ b, (Value.slice a n c).ownBlock = some b → w.heap.size ≤ b) ∧ Below w.heap.size w w' := by
  have CW := Lib.hid fun w => cut_own s [32] w (by simp) (by omega) (by simp)
  have hsl := Rul.split_short (s := s) (sub := [32]) (by simp)
  have HPL := Lib.hid fun x (hx : x ∈ Lib.split s [32]) => piece_le hx
  have hR : Rul.relQ s = Rul.wordsQ (Lib.split s [32]) := rfl
  rw [hR]
  clear hR
  generalize Lib.split s [32] = L at *
  generalize hRQ : Rul.wordsQ L = RQ at *
  have HRQ := Lib.hid hRQ
  clear hRQ
  go_enter Tryz.func59, Tryz.ntmps59
  go_wp2_with fail
  refine (CW.out _).mono ?_
  rintro e w1 ⟨v3, rfl, hown, hb⟩
  have W1 := Lib.hid (blw_trans (blw_alloc w (.cells #[.int .u8 0, .int .i64 0, .bool false, .slice none 0 0] 106)) hb)
  have B1 := Lib.hid ((Boxed.made w #[.int .u8 0, .int .i64 0, .bool false, .slice none 0 0] 106).below hb)
  have hz1 : w.heap.size < w1.heap.size := by have := hb.size; simp at this; omega
  obtain ⟨w2, hw2⟩ : ∃ w2, w1.alloc (.cells #[.int .u8 0, .int .i64 0, .bool false, .slice none 0 0] 106) = w2 := ⟨_, rfl⟩
  have W2 := Lib.hid (show Below w.heap.size w w2 by rw [← hw2]; exact blw_trans W1.out (blw_alloc _ _))
  have B2 := Lib.hid (show Boxed w2 w.heap.size _ by rw [← hw2]; exact B1.out.alloc _)
  have A2 := Lib.hid (show Boxed w2 w1.heap.size _ by rw [← hw2]; exact Boxed.made w1 #[.int .u8 0, .int .i64 0, .bool false, .slice none 0 0] 106)
  have O2 := Lib.hid (show w2.ownsRow _ _ _ _ _ _ by rw [← hw2]; exact hown.alloc (.cells #[.int .u8 0, .int .i64 0, .bool false, .slice none 0 0] 106))
  have hgl := fun g h => (hown.lt g h).2
  clear hown hb W1 B1 CW
  by_cases h3 : L.length < 3
  · obtain ⟨a3, c3, rfl⟩ := row_any O2.out
    have d3 : decide ((L.length : Int) < 3) = true := dec_yes (by omega)
    obtain rfl : RQ = ⟨0, 0, false, []⟩ := by rw [← HRQ.out]; exact words_short h3
    clear h3 O2 hgl HPL hsl
    have k0 := A2.out.cell 0 _ rfl
    have k1 := A2.out.cell 1 _ rfl
    have k2 := A2.out.cell 2 _ rfl
    have k3 := A2.out.cell 3 _ rfl
    have q0 := B2.out.free 0 (by show 0 < 4; omega)
    have q1 := B2.out.free 1 (by show 1 < 4; omega)
    have q2 := B2.out.free 2 (by show 2 < 4; omega)
    have q3 := B2.out.free 3 (by show 3 < 4; omega)
    have c0 := B2.out.cell 0 _ rfl
    have c1 := B2.out.cell 1 _ rfl
    have c2 := B2.out.cell 2 _ rfl
    have c3 := B2.out.cell 3 _ rfl
    have s0 := B2.out.lt
    have s1 := A2.out.lt
    go_wp2_with fail
    have BD := Lib.hid ((((B2.out.set 0 (.int .u8 0) (by show 0 < 4; omega)).set 1 (.int .i64 0) (by show 1 < 4; omega)).set 2 (.bool false) (by show 2 < 4; omega)).set 3 (.slice none 0 0) (by show 3 < 4; omega))
    have WD := Lib.hid (show Below w.heap.size w ((((w2.setCell ⟨w.heap.size, 0, none⟩ (.int .u8 0)).setCell ⟨w.heap.size, 1, none⟩ (.int .i64 0)).setCell ⟨w.heap.size, 2, none⟩ (.bool false)).setCell ⟨w.heap.size, 3, none⟩ (.slice none 0 0)) from ((((W2.out.setCell (p := ⟨w.heap.size, 0, none⟩) (Nat.le_refl _) (.int .u8 0)).setCell (p := ⟨w.heap.size, 1, none⟩) (Nat.le_refl _) (.int .i64 0)).setCell (p := ⟨w.heap.size, 2, none⟩) (Nat.le_refl _) (.bool false)).setCell (p := ⟨w.heap.size, 3, none⟩) (Nat.le_refl _) (.slice none 0 0)))
    have y0 := BD.out.cell 0 _ rfl
    have y1 := BD.out.cell 1 _ rfl
    have y2 := BD.out.cell 2 _ rfl
    have y3 := BD.out.cell 3 _ rfl
    generalize ((((w2.setCell ⟨w.heap.size, 0, none⟩ (.int .u8 0)).setCell ⟨w.heap.size, 1, none⟩ (.int .i64 0)).setCell ⟨w.heap.size, 2, none⟩ (.bool false)).setCell ⟨w.heap.size, 3, none⟩ (.slice none 0 0)) = Z at *
    try simp only [Exit.inBlock, Exit.then]
    refine bodyPost_ret (by simp [results, Tryz.results59, go_sem, y0, y1, y2, y3]; try rfl) rfl ?_
    exact ⟨_, _, _, rfl, .inl ⟨rfl, _, _, rfl⟩, (fun b hb => by cases hb), WD.out⟩
  · obtain ⟨c, u, v, r, rfl⟩ : ∃ c u v r, L = c :: u :: v :: r := by
      rcases L with _ | ⟨a, _ | ⟨b, _ | ⟨c, r⟩⟩⟩
      · simp at h3
      · simp at h3
      · simp at h3
      · exact ⟨_, _, _, _, rfl⟩
    obtain ⟨g3, cap3, rfl, hg3, _, hc3, hm3, hcell⟩ := row_txt O2.out (by simp)
    have hg3' := hgl g3 rfl
    have x0 := hcell 0 c rfl
    have x1 := hcell 1 u rfl
    have x2 := hcell 2 v rfl
    have x3 := hcell 3
    have x4 := hcell 4
    have d3 : decide (((c :: u :: v :: r).length : Int) < 3) = false := dec_no (by simp; omega)
    by_cases h1 : c.length = 1
    · obtain ⟨ch, rfl⟩ := List.length_eq_one_iff.1 h1
      have IX : ∀ w, (Instr.index 9 (.string ⟨[ch].toArray⟩) (.int .i64 0)).run Tryz.prog w = .ok (.int .u8 (ch.toNat : Int)) w := fun w => index_str (P := Tryz.prog) 9 Tryz.underlying9 [ch] .i64 0 ch rfl w
      have q1 : ((([ch] : List UInt8).length : Int) != 1) = false := rfl
      have hvl := HPL.out v (by simp)
      obtain ⟨MO, X, Y, bx, hrq, hbx, hyes, hno⟩ := words_any ch u v r
      have HBX := Lib.hid hbx
      clear hbx
      obtain rfl : RQ = ⟨ch, MO, bx, (Lib.split Y [44]).map Rul.rngQ⟩ := HRQ.out.symm.trans hrq
      have hYl : Y.length ≤ s.length := by
        by_cases hc : u = [37] ∧ r.length = 2
        · have := (hyes hc).2
          exact HPL.out Y (by rw [this]; simp)
        · rw [(hno hc).2.2]; exact hvl
      have HYes := Lib.hid hyes
      have HNo := Lib.hid hno
      obtain ⟨w3, hw3⟩ : ∃ w3, w2.setCell ⟨w1.heap.size, 0, none⟩ (.int .u8 (ch.toNat : Int)) = w3 := ⟨_, rfl⟩
      have hne : w1.heap.size ≠ g3 := by omega
      have KP := Lib.hid (show ∀ j x, w2.cell? ⟨g3, j, none⟩ = some x → w3.cell? ⟨g3, j, none⟩ = some x from fun j x hx => by rw [← hw3]; exact (World.cell?_setCell_other _ _ _ _ (fun e => hne (by injection e))).trans hx)
      have W3 := Lib.hid (show Below w.heap.size w w3 by rw [← hw3]; exact W2.out.setCell (p := ⟨w1.heap.size, 0, none⟩) (show w.heap.size ≤ w1.heap.size by omega) _)
      have B3 := Lib.hid (show Boxed w3 w.heap.size _ by rw [← hw3]; exact B2.out.far (by omega) 0 _)
      have A3 := Lib.hid (show Boxed w3 w1.heap.size #[.int .u8 (ch.toNat : Int), .int .i64 0, .bool false, .slice none 0 0] by rw [← hw3]; exact A2.out.set 0 (.int .u8 (ch.toNat : Int)) (by show 0 < 4; omega))
      have y1 := KP.out _ _ x1
      have X2 := Lib.hid (KP.out _ _ x2)
      have X3 := Lib.hid fun x h => KP.out _ _ (x3 x h)
      have X4 := Lib.hid fun x h => KP.out _ _ (x4 x h)
      have z0 := A2.out.free 0 (by show 0 < 4; omega)
      have z1 := A2.out.lt
      have k0 := A2.out.cell 0 _ rfl
      have i0 : 0 < ([ch] :: u :: v :: r).length := by simp
      have i1 : 1 < ([ch] :: u :: v :: r).length := by simp
      have HN3 := Lib.hid (show ([ch] :: u :: v :: r).length = r.length + 3 from rfl)
      clear h3 h1 O2 hgl HPL hsl x1 x2 x3 x4 hcell hrq hyes hno hg3 HRQ
      generalize ([ch] :: u :: v :: r).length = n3 at *
      generalize [ch] = nm at *
      go_upto_region 6 with fail
      obtain ⟨bq, hbq⟩ : ∃ bq, bq = decide (u = [37] ∧ r.length = 2) := ⟨_, rfl⟩
      go_cut [34] from 26 to 33 (fun f wx => f = .bool bq ∧ wx = w3)
      case first =>
        obtain ⟨bu, hbu⟩ : ∃ bu, (u == [37]) = bu := ⟨_, rfl⟩
        obtain ⟨b5, hb5⟩ : ∃ b5, ((n3 : Int) == 5) = b5 := ⟨_, rfl⟩
        have HB := Lib.hid (show bq = (bu && b5) by
          have hn := HN3.out
          rw [hbq, ← hbu, ← hb5]
          by_cases hu : u = [37]
          · by_cases hr : r.length = 2
            · have e : ((n3 : Int) == 5) = true := beq_yes (by omega)
              simp [hu, hr, e]
            · have e : ((n3 : Int) == 5) = false := beq_no (by omega)
              simp [hr, e]
          · simp [hu])
        clear hbq
        go_wp2_with fail
        · rename_i hh
          go_meet
          exact ⟨by rw [HB.out, hh]; rfl, rfl⟩
        · rename_i hh
          go_meet
          exact ⟨by rw [HB.out]; simp [hh], rfl⟩
      case rest =>
      obtain ⟨rfl, rfl⟩ := hcut
      have HBQ := Lib.hid hbq
      clear hbq
      go_upto_if 34 with fail
      go_cut [3] from 34 (fun s3 wx => ∃ o N C, s3 = .slice (some ⟨g3, o, none⟩) N C ∧ 3 ≤ N ∧ Hid (wx.cell? ⟨g3, o + 1, none⟩ = some (.string ⟨X.toArray⟩)) ∧ Hid (wx.cell? ⟨g3, o + 2, none⟩ = some (.string ⟨Y.toArray⟩)) ∧ Hid (Boxed wx w1.heap.size #[.int .u8 (ch.toNat : Int), .int .i64 MO, .bool false, .slice none 0 0]) ∧ Hid (Boxed wx w.heap.size #[.int .u8 0, .int .i64 0, .bool false, .slice none 0 0]) ∧ Hid (Below w.heap.size w wx))
      case first =>
        cases bq with
        | false =>
          obtain ⟨rfl, rfl, rfl⟩ := HNo.out (fun h => by have := HBQ.out; simp [h] at this)
          go_wp2_with fail
          go_meet
          exact ⟨0, n3, cap3, rfl, by have := HN3.out; omega, Lib.hid (by exact y1), X2, A3, B3, W3⟩
        | true =>
          obtain ⟨hMO, hr2⟩ := HYes.out (of_decide_eq_true HBQ.out.symm)
          have CV := Lib.hid fun w => numof_any v w (by omega)
          rw [← hMO] at CV
          obtain rfl : n3 = 5 := by have := HN3.out; rw [hr2] at this; exact this
          obtain ⟨ce, rfl⟩ : ∃ ce, cap3 = ce + 5 := ⟨cap3 - 5, by omega⟩
          have y2 := X2.out
          have hcx := X3.out X (by rw [hr2]; rfl)
          have hcy := X4.out Y (by rw [hr2]; rfl)
          have HCX := Lib.hid hcx
          have HCY := Lib.hid hcy
          clear hr2 hMO HYes HNo hcx hcy X2 X3 X4 y1
          go_wp2_with fail
          refine (CV.out _).mono ?_
          rintro e w4 ⟨rfl, hb⟩
          have A4 := Lib.hid (A3.out.below hb)
          have B4 := Lib.hid (B3.out.below hb)
          have W4 := Lib.hid (blw_trans W3.out hb)
          replace HCX := Lib.hid (cell_keep HCX.out hb)
          replace HCY := Lib.hid (cell_keep HCY.out hb)
          have f1 := A4.out.free 1 (by show 1 < 4; omega)
          have f2 := A4.out.lt
          have f3 := A4.out.cell 1 _ rfl
          clear hb CV y2 A3 B3 W3 KP
          go_wp2_with fail
          go_meet
          exact ⟨2, 3, ce + 3, rfl, by omega, Lib.hid ((World.cell?_setCell_other _ _ _ _ (fun e => hne (by injection e))).trans HCX.out), Lib.hid ((World.cell?_setCell_other _ _ _ _ (fun e => hne (by injection e))).trans HCY.out), Lib.hid (by exact A4.out.set 1 (.int .i64 MO) (by show 1 < 4; omega)), Lib.hid (by exact B4.out.far (by omega) 1 _), Lib.hid (by exact W4.out.setCell (p := ⟨w1.heap.size, 1, none⟩) (show w.heap.size ≤ w1.heap.size by omega) _)⟩
      case rest =>
        obtain ⟨o, N, C, rfl, hN, HX, HY, A5, B5, W5⟩ := hcut
        have cx := HX.out
        have HQ := Lib.hid (show bx = (X == [33, 61]) from HBX.out.symm)
        have xb := HBX.out
        have j1 : 1 < N := by omega
        have j2 : 2 < N := by omega
        obtain ⟨p, hp⟩ : ∃ p, w1.heap.size = p := ⟨_, rfl⟩
        rw [hp] at A5 hz1 hne ⊢
        have f2 := A5.out.free 2 (by show 2 < 4; omega)
        have f3 := A5.out.lt
        have f4 := A5.out.cell 2 _ rfl
        obtain ⟨w6, hw6⟩ : ∃ w6, wc.setCell ⟨p, 2, none⟩ (.bool bx) = w6 := ⟨_, rfl⟩
        have cy := (World.cell?_setCell_other wc ⟨p, 2, none⟩ _ (.bool bx) (fun e => hne (by injection e))).trans HY.out
        have A6 := Lib.hid (A5.out.set 2 (.bool bx) (by show 2 < 4; omega))
        have B6 := Lib.hid (B5.out.far (q := p) (by omega) 2 (.bool bx))
        have W6 := Lib.hid (W5.out.setCell (p := ⟨p, 2, none⟩) (show w.heap.size ≤ p by omega) (.bool bx))
        rw [hw6] at cy A6 B6 W6
        have CY := Lib.hid fun w => cut_own Y [44] w (by simp) (by omega) (by simp)
        have hL0 : 0 < (Lib.split Y [44]).length := by rw [Spl.split_len (by simp)]; omega
        have hLm := Rul.split_short (s := Y) (sub := [44]) (by simp)
        have HLS := Lib.hid fun x (hx : x ∈ Lib.split Y [44]) => Nat.le_trans (piece_le hx) hYl
        generalize hL2 : Lib.split Y [44] = L2 at *
        have HL2 := Lib.hid hL2
        clear hL2
        clear A3 B3 W3 A5 B5 W5 HX HY KP X2 X3 X4 HBQ HNo HYes HQ HBX hp
        go_wp2_with fail
        clear hw6
        refine (CY.out _).mono ?_
        rintro e w7 ⟨v5, rfl, hown5, hb⟩
        obtain ⟨g5, cap5, rfl, hg5, hg5', hc5, hm5, hcell5⟩ := row_txt hown5 hL0
        have A7 := Lib.hid (A6.out.below hb)
        have B7 := Lib.hid (B6.out.below hb)
        have W7 := Lib.hid (blw_trans W6.out hb)
        have hp6 : p < w6.heap.size := A6.out.lt
        have QX0 := Lib.hid (show QX w w7.heap.size p (.int .u8 (ch.toNat : Int)) (.int .i64 MO) (.bool bx) (.slice none 0 0) (.slice none 0 0) g5 L2 (L2.take 0) w7 from ⟨A7.out, ⟨rfl, .inl ⟨rfl, by simp⟩⟩, B7.out, W7.out, Nat.le_refl _, hcell5⟩)
        have hpB : p < w7.heap.size := Nat.lt_of_lt_of_le hp6 hb.size
        have h5p : g5 ≠ p := by omega
        obtain ⟨m, hm⟩ : ∃ m, L2.length = m := ⟨_, rfl⟩
        rw [hm] at hL0 hLm hc5 ⊢
        have HM := Lib.hid hm
        generalize w7.heap.size = B at *
        clear hb hown5 hcell5 A6 B6 W6 A7 B7 W7 CY cx cy f2 f3 f4 xb hm hm5 hw3 hw2 hp6 hg5
        go_wp2_with fail
        go_loopw [6, 7] (fun i _ wx => ∃ (k : Nat) (v : Value), i = .int .i64 k ∧ k ≤ m ∧ Hid (QX w B p (.int .u8 (ch.toNat : Int)) (.int .i64 MO) (.bool bx) v v g5 L2 (L2.take k) wx)) (fun i _ _ => m - (RowKit.intOf i).toNat)
        case atStart => exact ⟨0, _, rfl, Nat.zero_le _, QX0⟩
        case round =>
          obtain ⟨k, v, rfl, hk, P⟩ := hrel
          clear QX0
          by_cases hlt : k < m
          · obtain ⟨x, hx⟩ : ∃ x, L2[k]? = some x := ⟨L2[k]'(by have := HM.out; omega), List.getElem?_eq_getElem (by have := HM.out; omega)⟩
            have cz := P.out.strs k x hx
            have hxl := HLS.out x (List.mem_of_getElem? hx)
            have CX := Lib.hid fun w => cut_own x [46, 46] w (by simp) (by omega) (by simp)
            have hx0 : 0 < (Lib.split x [46, 46]).length := by rw [Spl.split_len (by simp)]; omega
            have hxm := Rul.split_short (s := x) (sub := [46, 46]) (by simp)
            have er : Rul.rngQ x = (Byt.numP (((Lib.split x [46, 46])[0]?).getD []), Byt.numP (((Lib.split x [46, 46]).getLast?).getD [])) := rfl
            have HXS := Lib.hid fun y (hy : y ∈ Lib.split x [46, 46]) => Nat.le_trans (piece_le hy) hxl
            generalize Lib.split x [46, 46] = L7 at *
            have hvk := fun k h => (P.out.row.lt k h).2
            have HTK := Lib.hid (show L2.take (k + 1) = L2.take k ++ [x] by rw [List.take_add_one, hx]; rfl)
            have hpl : (L2.take k).length = k := by rw [List.length_take, HM.out]; omega
            obtain ⟨pre, hpre⟩ : ∃ pre, L2.take k = pre := ⟨_, rfl⟩
            rw [hpre] at HTK P hpl
            have k0 : (0 : Int) ≤ (k : Int) := by omega
            have k1 : (k : Int) < (m : Int) := by omega
            clear hx hpre
            go_wp2_with fail
            refine (CX.out _).mono ?_
            rintro e w8 ⟨v7, rfl, hown7, hb⟩
            obtain ⟨g7, cap7, rfl, hg7, _, hc7, hm7, hcell7⟩ := row_txt hown7 hx0
            have P1 := Lib.hid (P.out.below hb)
            have hv7 : ∀ j, v.ownBlock = some j → j < g7 := fun j h => by have := hvk j h; omega
            have hsz := P.out.sz
            obtain ⟨mm, hmm⟩ : ∃ mm, L7.length = mm + 1 := ⟨L7.length - 1, by omega⟩
            obtain ⟨xa, hxa⟩ : ∃ xa, L7[0]? = some xa := ⟨_, List.getElem?_eq_getElem hx0⟩
            obtain ⟨xb, hxb⟩ : ∃ xb, L7[mm]? = some xb := ⟨_, List.getElem?_eq_getElem (by omega)⟩
            have y0 := hcell7 0 xa hxa
            have y1 := hcell7 mm xb hxb
            have CN1 := Lib.hid fun w => numof_any xa w (by have := HXS.out xa (List.mem_of_getElem? hxa); omega)
            have CN2 := Lib.hid fun w => numof_any xb w (by have := HXS.out xb (List.mem_of_getElem? hxb); omega)
            have HER := Lib.hid (show Rul.rngQ x = (Byt.numP xa, Byt.numP xb) by rw [er, hxa, List.getLast?_eq_getElem?, hmm, Nat.add_sub_cancel, hxb]; rfl)
            rw [hmm] at hc7 ⊢
            generalize Byt.numP xa = N1 at *
            generalize Byt.numP xb = N2 at *
            have hmb : mm ≤ 200000000 := by omega
            have hp7 : g7 ≠ p := by omega
            have hwB : w.heap.size < B := by omega
            have m1 : (mm : Int) < (mm : Int) + 1 := by omega
            have m2 : (0 : Int) ≤ (mm : Int) := by omega
            have m3 : IntKind.i64.wrap (mm : Int) = (mm : Int) := IntWalk.i64_in _ (by omega)
            clear hb hown7 hcell7 CX hmm hxa hxb cz hvk er P hx0 hxm HXS
            obtain ⟨iR, hiR, hR0, hR1, hR2⟩ := info_parts infoRng
            go_wp2_with fail
            refine wp_region_held_drew (S := fun w' => w'.cell? ⟨g7, 0, none⟩ = some (.string ⟨xa.toArray⟩) ∧ w'.cell? ⟨g7, mm, none⟩ = some (.string ⟨xb.toArray⟩)) (by kernel_rfl) (by exact ⟨y0, y1⟩) (fun hHeld => ?_)
            have P := Lib.hid (P1.out.below (Below.drew (Below.refl _ _)))
            clear P1 y0 y1
            generalize World.drew _ = w3 at *
            refine take_run (d := some 62) (v := ?v1) 0 rfl rfl (by kernel_rfl) (by kernel_rfl) (by kernel_rfl) (fun _ _ _ h => h) (by rfl) hHeld ?hy1 ?rs1
            case hy1 => (intro w hSw; (try dsimp only at hSw); go_simp) <;> (try with_reducible rfl)
            (try simp only [Act.put, List.setIfInBounds_toArray, List.set_cons_zero, List.set_cons_succ])
            refine take_run (d := some 64) (v := ?v2) 2 rfl rfl (by kernel_rfl) (by kernel_rfl) (by kernel_rfl) (fun _ _ _ h => h) (by rfl) hHeld ?hy2 ?rs2
            case hy2 => (intro w hSw; (try dsimp only at hSw); go_simp) <;> (try with_reducible rfl)
            (try simp only [Act.put, List.setIfInBounds_toArray, List.set_cons_zero, List.set_cons_succ])
            refine take_run (d := some 65) (v := ?v3) 3 rfl rfl (by kernel_rfl) (by kernel_rfl) (by kernel_rfl) (fun _ _ _ h => h) (by rfl) hHeld ?hy3 ?rs3
            case hy3 => (intro w hSw; (try dsimp only at hSw); go_simp) <;> (try with_reducible rfl)
            (try simp only [Act.put, List.setIfInBounds_toArray, List.set_cons_zero, List.set_cons_succ])
            refine take_run (d := some 66) (v := ?v4) 4 rfl rfl (by kernel_rfl) (by kernel_rfl) (by kernel_rfl) (fun _ _ _ h => h) (by rfl) hHeld ?hy4 ?rs4
            case hy4 => (intro w hSw; (try dsimp only at hSw); go_simp) <;> (try with_reducible rfl)
            (try simp only [Act.put, List.setIfInBounds_toArray, List.set_cons_zero, List.set_cons_succ])
            refine take_run (d := some 68) (v := ?v12) 6 rfl rfl (by kernel_rfl) (by kernel_rfl) (by kernel_rfl) (fun _ _ _ h => h) (by rfl) hHeld ?hy12 ?rs12
            case hy12 => (intro w hSw; (try dsimp only at hSw); go_simp) <;> (try with_reducible rfl)
            (try simp only [Act.put, List.setIfInBounds_toArray, List.set_cons_zero, List.set_cons_succ])
            refine take_run (d := some 69) (v := ?v13) 7 rfl rfl (by kernel_rfl) (by kernel_rfl) (by kernel_rfl) (fun _ _ _ h => h) (by rfl) hHeld ?hy13 ?rs13
            case hy13 => (intro w hSw; (try dsimp only at hSw); go_simp) <;> (try with_reducible rfl)
            (try simp only [Act.put, List.setIfInBounds_toArray, List.set_cons_zero, List.set_cons_succ])
            refine take_run (d := some 70) (v := ?v14) 8 rfl rfl (by kernel_rfl) (by kernel_rfl) (by kernel_rfl) (fun _ _ _ h => h) (by rfl) hHeld ?hy14 ?rs14
            case hy14 => (intro w hSw; (try dsimp only at hSw); go_simp) <;> (try with_reducible rfl)
            (try simp only [Act.put, List.setIfInBounds_toArray, List.set_cons_zero, List.set_cons_succ])
            refine take_run (d := some 71) (v := ?v15) 9 rfl rfl (by kernel_rfl) (by kernel_rfl) (by kernel_rfl) (fun _ _ _ h => h) (by rfl) hHeld ?hy15 ?rs15
            case hy15 => (intro w hSw; (try dsimp only at hSw); go_simp) <;> (try with_reducible rfl)
            (try simp only [Act.put, List.setIfInBounds_toArray, List.set_cons_zero, List.set_cons_succ])
            refine take_run (d := some 72) (v := ?v16) 10 rfl rfl (by kernel_rfl) (by kernel_rfl) (by kernel_rfl) (fun _ _ _ h => h) (by rfl) hHeld ?hy16 ?rs16
            case hy16 => (intro w hSw; (try dsimp only at hSw); go_simp) <;> (try with_reducible rfl)
            (try simp only [Act.put, List.setIfInBounds_toArray, List.set_cons_zero, List.set_cons_succ])
            refine take_run (d := some 73) (v := ?v17) 11 rfl rfl (by kernel_rfl) (by kernel_rfl) (by kernel_rfl) (fun _ _ _ h => h) (by rfl) hHeld ?hy17 ?rs17
            case hy17 => (intro w hSw; (try dsimp only at hSw); go_simp) <;> (try with_reducible rfl)
            (try simp only [Act.put, List.setIfInBounds_toArray, List.set_cons_zero, List.set_cons_succ])
            refine take_two 1 5 rfl rfl (by kernel_rfl) (by rfl) (by rfl) (fun K hK => ?_) (fun K hK => ?_)
            · have k3 := P.out.box.cell 3 _ rfl
              go_simp
              clear k3
              refine hK.out _ _ (hHeld) (fun hHeld => ?_)
              clear hK K
              (try simp only [Act.put, List.setIfInBounds_toArray, List.set_cons_zero, List.set_cons_succ])
              refine take_call 5 rfl (by kernel_rfl) (by rfl) (fun K hK => ?_)
              go_simp
              refine (CN1.out _).mono ?_
              rintro e w' ⟨rfl, hb⟩
              replace P := Lib.hid (P.out.below hb)
              refine hK.out _ _ (⟨cell_keep hHeld.1 hb, cell_keep hHeld.2 hb⟩) (fun hHeld => ?_)
              clear hK K
              (try simp only [Act.put, List.setIfInBounds_toArray, List.set_cons_zero, List.set_cons_succ])
              clear hb
              refine take_call 12 rfl (by kernel_rfl) (by rfl) (fun K hK => ?_)
              go_simp
              refine (CN2.out _).mono ?_
              rintro e w' ⟨rfl, hb⟩
              replace P := Lib.hid (P.out.below hb)
              refine hK.out _ _ (⟨cell_keep hHeld.1 hb, cell_keep hHeld.2 hb⟩) (fun hHeld => ?_)
              clear hK K
              (try simp only [Act.put, List.setIfInBounds_toArray, List.set_cons_zero, List.set_cons_succ])
              clear hb
              refine take_run (d := some 75) (v := ?v18) 13 rfl rfl (by kernel_rfl) (by kernel_rfl) (by kernel_rfl) (fun _ _ _ h => h) (by rfl) hHeld ?hy18 ?rs18
              case hy18 => (intro w hSw; (try dsimp only at hSw); go_simp) <;> (try with_reducible rfl)
              (try simp only [Act.put, List.setIfInBounds_toArray, List.set_cons_zero, List.set_cons_succ])
              refine take_call 14 rfl (by kernel_rfl) (by rfl) (fun K hK => ?_)
              go_simp
              refine hK.out _ _ (⟨cell_keep hHeld.1 (blw_alloc _ _), cell_keep hHeld.2 (blw_alloc _ _)⟩) (fun hHeld => ?_)
              clear hK K
              (try simp only [Act.put, List.setIfInBounds_toArray, List.set_cons_zero, List.set_cons_succ])
              replace P := Lib.hid (P.out.below (blw_alloc _ (.cells #[.int .i64 N1, .int .i64 N2] 165)))
              have BN := Lib.hid (Boxed.made _ #[.int .i64 N1, .int .i64 N2] 165 : Boxed (World.alloc w' (.cells #[.int .i64 N1, .int .i64 N2] 165)) w'.heap.size _)
              generalize hq : w'.heap.size = q at *
              generalize World.alloc w' (.cells #[.int .i64 N1, .int .i64 N2] 165) = w5 at *
              clear hq
              refine take_call 15 rfl (by kernel_rfl) (by rfl) (fun K hK => ?_)
              refine wp_append_own _ _ _ 104 rfl B 165 iR _ 2 16 Tryz.underlying104 hiR hR0 hR1 hR2 rfl (by decide) v pre.length (qrf pre) (by simp [go_sem]) P.out.row ⟨q, 0, none⟩ 1 1 [.int .i64 N1, .int .i64 N2] (by simp [go_sem]) rfl (boxed_add BN.out) (fun u hu => by simp at hu; rcases hu with rfl | rfl <;> rfl) (by unfold maxLen; omega) (by omega) P.out.sz ?_
              intro v' w6 hown hgrow hnil
              clear hnil
              obtain ⟨g', cap', rfl⟩ := row_some hown (by omega)
              have hHeld2 := grown_two hgrow hHeld.1 hHeld.2 hv7
              replace P := Lib.hid (P.out.append (x := x) (by rw [HER.out]; exact hown) hgrow hwB hpB hg5')
              clear hown hgrow
              refine hK.out _ _ (hHeld2) (fun hHeld => ?_)
              clear hK K
              (try simp only [Act.put, List.setIfInBounds_toArray, List.set_cons_zero, List.set_cons_succ])
              clear hHeld2
              refine take_run (d := some 78) (v := ?v19) 16 rfl rfl (by kernel_rfl) (by kernel_rfl) (by kernel_rfl) (fun _ _ _ h => h) (by rfl) hHeld ?hy19 ?rs19
              case hy19 => (intro w hSw; (try dsimp only at hSw); go_simp) <;> (try with_reducible rfl)
              (try simp only [Act.put, List.setIfInBounds_toArray, List.set_cons_zero, List.set_cons_succ])
              refine take_call 17 rfl (by kernel_rfl) (by rfl) (fun K hK => ?_)
              have k3 := P.out.box.cell 3 _ rfl
              have z3 := P.out.box.free 3 (by show 3 < 4; omega)
              have hlt := P.out.box.lt
              go_simp
              clear k3 z3 hlt
              refine hK.out _ _ (store_two hp7 hHeld.1 hHeld.2) (fun hHeld => ?_)
              clear hK K
              (try simp only [Act.put, List.setIfInBounds_toArray, List.set_cons_zero, List.set_cons_succ])
              replace P := Lib.hid (P.out.stored hz1 hpB h5p)
              refine wpAnyH_done (by kernel_rfl) ?_ _
              clear hHeld
              rw [hpl] at P
              go_wp2_with fail
              go_roundw
              case rel => exact ⟨k + 1, _, by go_num, by omega, by rw [HTK.out]; exact P⟩
              case measure => simp [RowKit.intOf]; omega
            · go_simp
              refine (CN1.out _).mono ?_
              rintro e w' ⟨rfl, hb⟩
              replace P := Lib.hid (P.out.below hb)
              refine hK.out _ _ (⟨cell_keep hHeld.1 hb, cell_keep hHeld.2 hb⟩) (fun hHeld => ?_)
              clear hK K
              (try simp only [Act.put, List.setIfInBounds_toArray, List.set_cons_zero, List.set_cons_succ])
              clear hb
              refine take_two 1 12 rfl rfl (by kernel_rfl) (by rfl) (by rfl) (fun K hK => ?_) (fun K hK => ?_)
              · have k3 := P.out.box.cell 3 _ rfl
                go_simp
                clear k3
                refine hK.out _ _ (hHeld) (fun hHeld => ?_)
                clear hK K
                (try simp only [Act.put, List.setIfInBounds_toArray, List.set_cons_zero, List.set_cons_succ])
                refine take_call 12 rfl (by kernel_rfl) (by rfl) (fun K hK => ?_)
                go_simp
                refine (CN2.out _).mono ?_
                rintro e w' ⟨rfl, hb⟩
                replace P := Lib.hid (P.out.below hb)
                refine hK.out _ _ (⟨cell_keep hHeld.1 hb, cell_keep hHeld.2 hb⟩) (fun hHeld => ?_)
                clear hK K
                (try simp only [Act.put, List.setIfInBounds_toArray, List.set_cons_zero, List.set_cons_succ])
                clear hb
                refine take_run (d := some 75) (v := ?v23) 13 rfl rfl (by kernel_rfl) (by kernel_rfl) (by kernel_rfl) (fun _ _ _ h => h) (by rfl) hHeld ?hy23 ?rs23
                case hy23 => (intro w hSw; (try dsimp only at hSw); go_simp) <;> (try with_reducible rfl)
                (try simp only [Act.put, List.setIfInBounds_toArray, List.set_cons_zero, List.set_cons_succ])
                refine take_call 14 rfl (by kernel_rfl) (by rfl) (fun K hK => ?_)
                go_simp
                refine hK.out _ _ (⟨cell_keep hHeld.1 (blw_alloc _ _), cell_keep hHeld.2 (blw_alloc _ _)⟩) (fun hHeld => ?_)
                clear hK K
                (try simp only [Act.put, List.setIfInBounds_toArray, List.set_cons_zero, List.set_cons_succ])
                replace P := Lib.hid (P.out.below (blw_alloc _ (.cells #[.int .i64 N1, .int .i64 N2] 165)))
                have BN := Lib.hid (Boxed.made _ #[.int .i64 N1, .int .i64 N2] 165 : Boxed (World.alloc w' (.cells #[.int .i64 N1, .int .i64 N2] 165)) w'.heap.size _)
                generalize hq : w'.heap.size = q at *
                generalize World.alloc w' (.cells #[.int .i64 N1, .int .i64 N2] 165) = w5 at *
                clear hq
                refine take_call 15 rfl (by kernel_rfl) (by rfl) (fun K hK => ?_)
                refine wp_append_own _ _ _ 104 rfl B 165 iR _ 2 16 Tryz.underlying104 hiR hR0 hR1 hR2 rfl (by decide) v pre.length (qrf pre) (by simp [go_sem]) P.out.row ⟨q, 0, none⟩ 1 1 [.int .i64 N1, .int .i64 N2] (by simp [go_sem]) rfl (boxed_add BN.out) (fun u hu => by simp at hu; rcases hu with rfl | rfl <;> rfl) (by unfold maxLen; omega) (by omega) P.out.sz ?_
                intro v' w6 hown hgrow hnil
                clear hnil
                obtain ⟨g', cap', rfl⟩ := row_some hown (by omega)
                have hHeld2 := grown_two hgrow hHeld.1 hHeld.2 hv7
                replace P := Lib.hid (P.out.append (x := x) (by rw [HER.out]; exact hown) hgrow hwB hpB hg5')
                clear hown hgrow
                refine hK.out _ _ (hHeld2) (fun hHeld => ?_)
                clear hK K
                (try simp only [Act.put, List.setIfInBounds_toArray, List.set_cons_zero, List.set_cons_succ])
                clear hHeld2
                refine take_run (d := some 78) (v := ?v24) 16 rfl rfl (by kernel_rfl) (by kernel_rfl) (by kernel_rfl) (fun _ _ _ h => h) (by rfl) hHeld ?hy24 ?rs24
                case hy24 => (intro w hSw; (try dsimp only at hSw); go_simp) <;> (try with_reducible rfl)
                (try simp only [Act.put, List.setIfInBounds_toArray, List.set_cons_zero, List.set_cons_succ])
                refine take_call 17 rfl (by kernel_rfl) (by rfl) (fun K hK => ?_)
                have k3 := P.out.box.cell 3 _ rfl
                have z3 := P.out.box.free 3 (by show 3 < 4; omega)
                have hlt := P.out.box.lt
                go_simp
                clear k3 z3 hlt
                refine hK.out _ _ (store_two hp7 hHeld.1 hHeld.2) (fun hHeld => ?_)
                clear hK K
                (try simp only [Act.put, List.setIfInBounds_toArray, List.set_cons_zero, List.set_cons_succ])
                replace P := Lib.hid (P.out.stored hz1 hpB h5p)
                refine wpAnyH_done (by kernel_rfl) ?_ _
                clear hHeld
                rw [hpl] at P
                go_wp2_with fail
                go_roundw
                case rel => exact ⟨k + 1, _, by go_num, by omega, by rw [HTK.out]; exact P⟩
                case measure => simp [RowKit.intOf]; omega
              · go_simp
                refine (CN2.out _).mono ?_
                rintro e w' ⟨rfl, hb⟩
                replace P := Lib.hid (P.out.below hb)
                refine hK.out _ _ (⟨cell_keep hHeld.1 hb, cell_keep hHeld.2 hb⟩) (fun hHeld => ?_)
                clear hK K
                (try simp only [Act.put, List.setIfInBounds_toArray, List.set_cons_zero, List.set_cons_succ])
                clear hb
                refine take_run (d := some 75) (v := ?v20) 13 rfl rfl (by kernel_rfl) (by kernel_rfl) (by kernel_rfl) (fun _ _ _ h => h) (by rfl) hHeld ?hy20 ?rs20
                case hy20 => (intro w hSw; (try dsimp only at hSw); go_simp) <;> (try with_reducible rfl)
                (try simp only [Act.put, List.setIfInBounds_toArray, List.set_cons_zero, List.set_cons_succ])
                refine take_two 1 14 rfl rfl (by kernel_rfl) (by rfl) (by rfl) (fun K hK => ?_) (fun K hK => ?_)
                · have k3 := P.out.box.cell 3 _ rfl
                  go_simp
                  clear k3
                  refine hK.out _ _ (hHeld) (fun hHeld => ?_)
                  clear hK K
                  (try simp only [Act.put, List.setIfInBounds_toArray, List.set_cons_zero, List.set_cons_succ])
                  refine take_call 14 rfl (by kernel_rfl) (by rfl) (fun K hK => ?_)
                  go_simp
                  refine hK.out _ _ (⟨cell_keep hHeld.1 (blw_alloc _ _), cell_keep hHeld.2 (blw_alloc _ _)⟩) (fun hHeld => ?_)
                  clear hK K
                  (try simp only [Act.put, List.setIfInBounds_toArray, List.set_cons_zero, List.set_cons_succ])
                  replace P := Lib.hid (P.out.below (blw_alloc _ (.cells #[.int .i64 N1, .int .i64 N2] 165)))
                  have BN := Lib.hid (Boxed.made _ #[.int .i64 N1, .int .i64 N2] 165 : Boxed (World.alloc w' (.cells #[.int .i64 N1, .int .i64 N2] 165)) w'.heap.size _)
                  generalize hq : w'.heap.size = q at *
                  generalize World.alloc w' (.cells #[.int .i64 N1, .int .i64 N2] 165) = w5 at *
                  clear hq
                  refine take_call 15 rfl (by kernel_rfl) (by rfl) (fun K hK => ?_)
                  refine wp_append_own _ _ _ 104 rfl B 165 iR _ 2 16 Tryz.underlying104 hiR hR0 hR1 hR2 rfl (by decide) v pre.length (qrf pre) (by simp [go_sem]) P.out.row ⟨q, 0, none⟩ 1 1 [.int .i64 N1, .int .i64 N2] (by simp [go_sem]) rfl (boxed_add BN.out) (fun u hu => by simp at hu; rcases hu with rfl | rfl <;> rfl) (by unfold maxLen; omega) (by omega) P.out.sz ?_
                  intro v' w6 hown hgrow hnil
                  clear hnil
                  obtain ⟨g', cap', rfl⟩ := row_some hown (by omega)
                  have hHeld2 := grown_two hgrow hHeld.1 hHeld.2 hv7
                  replace P := Lib.hid (P.out.append (x := x) (by rw [HER.out]; exact hown) hgrow hwB hpB hg5')
                  clear hown hgrow
                  refine hK.out _ _ (hHeld2) (fun hHeld => ?_)
                  clear hK K
                  (try simp only [Act.put, List.setIfInBounds_toArray, List.set_cons_zero, List.set_cons_succ])
                  clear hHeld2
                  refine take_run (d := some 78) (v := ?v21) 16 rfl rfl (by kernel_rfl) (by kernel_rfl) (by kernel_rfl) (fun _ _ _ h => h) (by rfl) hHeld ?hy21 ?rs21
                  case hy21 => (intro w hSw; (try dsimp only at hSw); go_simp) <;> (try with_reducible rfl)
                  (try simp only [Act.put, List.setIfInBounds_toArray, List.set_cons_zero, List.set_cons_succ])
                  refine take_call 17 rfl (by kernel_rfl) (by rfl) (fun K hK => ?_)
                  have k3 := P.out.box.cell 3 _ rfl
                  have z3 := P.out.box.free 3 (by show 3 < 4; omega)
                  have hlt := P.out.box.lt
                  go_simp
                  clear k3 z3 hlt
                  refine hK.out _ _ (store_two hp7 hHeld.1 hHeld.2) (fun hHeld => ?_)
                  clear hK K
                  (try simp only [Act.put, List.setIfInBounds_toArray, List.set_cons_zero, List.set_cons_succ])
                  replace P := Lib.hid (P.out.stored hz1 hpB h5p)
                  refine wpAnyH_done (by kernel_rfl) ?_ _
                  clear hHeld
                  rw [hpl] at P
                  go_wp2_with fail
                  go_roundw
                  case rel => exact ⟨k + 1, _, by go_num, by omega, by rw [HTK.out]; exact P⟩
                  case measure => simp [RowKit.intOf]; omega
                · go_simp
                  refine hK.out _ _ (⟨cell_keep hHeld.1 (blw_alloc _ _), cell_keep hHeld.2 (blw_alloc _ _)⟩) (fun hHeld => ?_)
                  clear hK K
                  (try simp only [Act.put, List.setIfInBounds_toArray, List.set_cons_zero, List.set_cons_succ])
                  replace P := Lib.hid (P.out.below (blw_alloc _ (.cells #[.int .i64 N1, .int .i64 N2] 165)))
                  have BN := Lib.hid (Boxed.made _ #[.int .i64 N1, .int .i64 N2] 165 : Boxed (World.alloc w' (.cells #[.int .i64 N1, .int .i64 N2] 165)) w'.heap.size _)
                  generalize hq : w'.heap.size = q at *
                  generalize World.alloc w' (.cells #[.int .i64 N1, .int .i64 N2] 165) = w5 at *
                  clear hq
                  refine take_call 1 rfl (by kernel_rfl) (by rfl) (fun K hK => ?_)
                  have k3 := P.out.box.cell 3 _ rfl
                  go_simp
                  clear k3
                  refine hK.out _ _ (hHeld) (fun hHeld => ?_)
                  clear hK K
                  (try simp only [Act.put, List.setIfInBounds_toArray, List.set_cons_zero, List.set_cons_succ])
                  refine take_call 15 rfl (by kernel_rfl) (by rfl) (fun K hK => ?_)
                  refine wp_append_own _ _ _ 104 rfl B 165 iR _ 2 16 Tryz.underlying104 hiR hR0 hR1 hR2 rfl (by decide) v pre.length (qrf pre) (by simp [go_sem]) P.out.row ⟨q, 0, none⟩ 1 1 [.int .i64 N1, .int .i64 N2] (by simp [go_sem]) rfl (boxed_add BN.out) (fun u hu => by simp at hu; rcases hu with rfl | rfl <;> rfl) (by unfold maxLen; omega) (by omega) P.out.sz ?_
                  intro v' w6 hown hgrow hnil
                  clear hnil
                  obtain ⟨g', cap', rfl⟩ := row_some hown (by omega)
                  have hHeld2 := grown_two hgrow hHeld.1 hHeld.2 hv7
                  replace P := Lib.hid (P.out.append (x := x) (by rw [HER.out]; exact hown) hgrow hwB hpB hg5')
                  clear hown hgrow
                  refine hK.out _ _ (hHeld2) (fun hHeld => ?_)
                  clear hK K
                  (try simp only [Act.put, List.setIfInBounds_toArray, List.set_cons_zero, List.set_cons_succ])
                  clear hHeld2
                  refine take_run (d := some 78) (v := ?v22) 16 rfl rfl (by kernel_rfl) (by kernel_rfl) (by kernel_rfl) (fun _ _ _ h => h) (by rfl) hHeld ?hy22 ?rs22
                  case hy22 => (intro w hSw; (try dsimp only at hSw); go_simp) <;> (try with_reducible rfl)
                  (try simp only [Act.put, List.setIfInBounds_toArray, List.set_cons_zero, List.set_cons_succ])
                  refine take_call 17 rfl (by kernel_rfl) (by rfl) (fun K hK => ?_)
                  have k3 := P.out.box.cell 3 _ rfl
                  have z3 := P.out.box.free 3 (by show 3 < 4; omega)
                  have hlt := P.out.box.lt
                  go_simp
                  clear k3 z3 hlt
                  refine hK.out _ _ (store_two hp7 hHeld.1 hHeld.2) (fun hHeld => ?_)
                  clear hK K
                  (try simp only [Act.put, List.setIfInBounds_toArray, List.set_cons_zero, List.set_cons_succ])
                  replace P := Lib.hid (P.out.stored hz1 hpB h5p)
                  refine wpAnyH_done (by kernel_rfl) ?_ _
                  clear hHeld
                  rw [hpl] at P
                  go_wp2_with fail
                  go_roundw
                  case rel => exact ⟨k + 1, _, by go_num, by omega, by rw [HTK.out]; exact P⟩
                  case measure => simp [RowKit.intOf]; omega
          · have e : k = m := by omega
            subst e
            have P2 := P.out
            rw [List.take_of_length_le (by have := HM.out; omega)] at P2
            have HP := Lib.hid P2
            have hpw := P2.box.lt
            obtain ⟨a5, n5, c5, rfl⟩ : ∃ a n c, v = .slice a n c := by
              obtain ⟨a, c, e⟩ := row_any P2.row
              exact ⟨a, _, c, e⟩
            clear P P2
            have k0 := HP.out.box.cell 0 _ rfl
            have k1 := HP.out.box.cell 1 _ rfl
            have k2 := HP.out.box.cell 2 _ rfl
            have k3 := HP.out.box.cell 3 _ rfl
            have q0 := HP.out.res.free 0 (by show 0 < 4; omega)
            have q1 := HP.out.res.free 1 (by show 1 < 4; omega)
            have q2 := HP.out.res.free 2 (by show 2 < 4; omega)
            have q3 := HP.out.res.free 3 (by show 3 < 4; omega)
            have c0 := HP.out.res.cell 0 _ rfl
            have c1 := HP.out.res.cell 1 _ rfl
            have c2 := HP.out.res.cell 2 _ rfl
            have c3 := HP.out.res.cell 3 _ rfl
            have s0 := HP.out.res.lt
            have s1 := HP.out.box.lt
            go_wp2_with fail
            have BD := Lib.hid ((((HP.out.res.set 0 (.int .u8 (ch.toNat : Int)) (by show 0 < 4; omega)).set 1 (.int .i64 MO) (by show 1 < 4; omega)).set 2 (.bool bx) (by show 2 < 4; omega)).set 3 (.slice a5 n5 c5) (by show 3 < 4; omega))
            have WD := Lib.hid (show Below w.heap.size w ((((wr.setCell ⟨w.heap.size, 0, none⟩ (.int .u8 (ch.toNat : Int))).setCell ⟨w.heap.size, 1, none⟩ (.int .i64 MO)).setCell ⟨w.heap.size, 2, none⟩ (.bool bx)).setCell ⟨w.heap.size, 3, none⟩ (.slice a5 n5 c5)) from ((((HP.out.low.setCell (p := ⟨w.heap.size, 0, none⟩) (Nat.le_refl _) (.int .u8 (ch.toNat : Int))).setCell (p := ⟨w.heap.size, 1, none⟩) (Nat.le_refl _) (.int .i64 MO)).setCell (p := ⟨w.heap.size, 2, none⟩) (Nat.le_refl _) (.bool bx)).setCell (p := ⟨w.heap.size, 3, none⟩) (Nat.le_refl _) (.slice a5 n5 c5)))
            have y0 := BD.out.cell 0 _ rfl
            have y1 := BD.out.cell 1 _ rfl
            have y2 := BD.out.cell 2 _ rfl
            have y3 := BD.out.cell 3 _ rfl
            have SD := Lib.hid (HP.out.lies (C := ((((wr.setCell ⟨w.heap.size, 0, none⟩ (.int .u8 (ch.toNat : Int))).setCell ⟨w.heap.size, 1, none⟩ (.int .i64 MO)).setCell ⟨w.heap.size, 2, none⟩ (.bool bx)).setCell ⟨w.heap.size, 3, none⟩ (.slice a5 n5 c5))) (fun g cur e hg h => by rw [set_else (by show w.heap.size ≠ g; omega), set_else (by show w.heap.size ≠ g; omega), set_else (by show w.heap.size ≠ g; omega), set_else (by show w.heap.size ≠ g; omega)]))
            have FR : ∀ b, (Value.slice a5 n5 c5).ownBlock = some b → w.heap.size ≤ b := fun b hb => by have := (HP.out.row.lt b hb).1; omega
            generalize ((((wr.setCell ⟨w.heap.size, 0, none⟩ (.int .u8 (ch.toNat : Int))).setCell ⟨w.heap.size, 1, none⟩ (.int .i64 MO)).setCell ⟨w.heap.size, 2, none⟩ (.bool bx)).setCell ⟨w.heap.size, 3, none⟩ (.slice a5 n5 c5)) = Z at *
            try simp only [Exit.inBlock, Exit.then]
            refine bodyPost_ret (by simp [results, Tryz.results59, go_sem, y0, y1, y2, y3]; try rfl) rfl ?_
            rw [← HL2.out] at SD
            exact ⟨_, _, _, rfl, SD.out, FR, WD.out⟩
    · have q1 : ((c.length : Int) == 1) = false := beq_no (by omega)
      obtain rfl : RQ = ⟨0, 0, false, []⟩ := by rw [← HRQ.out]; exact words_op h1
      clear h3 O2 hgl HPL hsl x1 x2 x3 x4 hcell
      have i0 : 0 < (c :: u :: v :: r).length := by simp
      generalize (c :: u :: v :: r).length = n3 at *
      have k0 := A2.out.cell 0 _ rfl
      have k1 := A2.out.cell 1 _ rfl
      have k2 := A2.out.cell 2 _ rfl
      have k3 := A2.out.cell 3 _ rfl
      have q0 := B2.out.free 0 (by show 0 < 4; omega)
      have q1 := B2.out.free 1 (by show 1 < 4; omega)
      have q2 := B2.out.free 2 (by show 2 < 4; omega)
      have q3 := B2.out.free 3 (by show 3 < 4; omega)
      have c0 := B2.out.cell 0 _ rfl
      have c1 := B2.out.cell 1 _ rfl
      have c2 := B2.out.cell 2 _ rfl
      have c3 := B2.out.cell 3 _ rfl
      have s0 := B2.out.lt
      have s1 := A2.out.lt
      go_wp2_with fail
      have BD := Lib.hid ((((B2.out.set 0 (.int .u8 0) (by show 0 < 4; omega)).set 1 (.int .i64 0) (by show 1 < 4; omega)).set 2 (.bool false) (by show 2 < 4; omega)).set 3 (.slice none 0 0) (by show 3 < 4; omega))
      have WD := Lib.hid (show Below w.heap.size w ((((w2.setCell ⟨w.heap.size, 0, none⟩ (.int .u8 0)).setCell ⟨w.heap.size, 1, none⟩ (.int .i64 0)).setCell ⟨w.heap.size, 2, none⟩ (.bool false)).setCell ⟨w.heap.size, 3, none⟩ (.slice none 0 0)) from ((((W2.out.setCell (p := ⟨w.heap.size, 0, none⟩) (Nat.le_refl _) (.int .u8 0)).setCell (p := ⟨w.heap.size, 1, none⟩) (Nat.le_refl _) (.int .i64 0)).setCell (p := ⟨w.heap.size, 2, none⟩) (Nat.le_refl _) (.bool false)).setCell (p := ⟨w.heap.size, 3, none⟩) (Nat.le_refl _) (.slice none 0 0)))
      have y0 := BD.out.cell 0 _ rfl
      have y1 := BD.out.cell 1 _ rfl
      have y2 := BD.out.cell 2 _ rfl
      have y3 := BD.out.cell 3 _ rfl
      generalize ((((w2.setCell ⟨w.heap.size, 0, none⟩ (.int .u8 0)).setCell ⟨w.heap.size, 1, none⟩ (.int .i64 0)).setCell ⟨w.heap.size, 2, none⟩ (.bool false)).setCell ⟨w.heap.size, 3, none⟩ (.slice none 0 0)) = Z at *
      try simp only [Exit.inBlock, Exit.then]
      refine bodyPost_ret (by simp [results, Tryz.results59, go_sem, y0, y1, y2, y3]; try rfl) rfl ?_
      exact ⟨_, _, _, rfl, .inl ⟨rfl, _, _, rfl⟩, (fun b hb => by cases hb), WD.out⟩
  
end Go.Proofs.YtaijjffnamjhiaaGreatDoor
namespace Go.Proofs.YtaijjffnamjhiaaGreatDoor
open Go.RowKit

set_option maxRecDepth 100000 in
set_option maxHeartbeats 1000000 in
theorem joined_any (l : List (List UInt8)) (v : Value) (sep : List UInt8) (w : World) (h : StrsAt w v l) (hn : l.length ≤ 2000000000000) (ht : Lst.total l sep ≤ 2000000000000) (hs : sep.length ≤ 2000000000000) :
    Calls Tryz.prog 52 #[v, .string ⟨sep.toArray⟩] w fun e w' => e = .returned (.string ⟨(Lib.join l sep).toArray⟩) ∧ w = w' := by
  rcases h with ⟨rfl, a, cap, rfl⟩ | ⟨b, off, cap, rfl, h0, hc, hm, hcell⟩
  · go_enter Tryz.func52, Tryz.ntmps52
    go_wp2_with fail
    refine wp_loop_rounds 1 ?_
    rw [rounds_succ]
    go_wp2_with fail
    go_ret
    exact ⟨rfl, rfl⟩
  · have HC := Lib.hid hcell
    have UL := Lib.hid (Lst.upto_le l sep)
    have Z := Lib.hid (Lst.upto_zero l sep)
    have E := Lib.hid (Lst.upto_all l sep)
    clear hcell
    unfold maxLen at hm
    go_enter Tryz.func52, Tryz.ntmps52
    go_wp2_with fail
    go_loop [5, 6] (fun s i => ∃ k : Nat, k ≤ l.length ∧ i = .int .i64 k ∧ s = .string ⟨(Lst.upto l sep k).toArray⟩) (fun _ i => l.length - (RowKit.intOf i).toNat)
    case atStart => exact ⟨0, Nat.zero_le _, rfl, by rw [Z.out]⟩
    case round =>
      obtain ⟨k, hk, rfl, rfl⟩ := hrel
      have hu := UL.out k
      by_cases hlt : k < l.length
      · obtain ⟨x, hx⟩ : ∃ x, l[k]? = some x := ⟨_, List.getElem?_eq_getElem hlt⟩
        have hxl := Nat.le_trans (Lst.lens_at l k x hx) (show Lib.lens l ≤ 2000000000000 by unfold Lst.total at ht; omega)
        have hcell := HC.out k x hx
        have U2 := UL.out (k + 1)
        by_cases hk0 : 0 < k
        · have US := Lib.hid (Lst.upto_succ l sep x k hk0 hx)
          have A1 := fun w => add_str (P := Tryz.prog) (Lst.upto l sep k) sep (by omega) w
          have A2 := fun w => add_str (P := Tryz.prog) (Lst.upto l sep k ++ sep) x (by rw [List.length_append]; omega) w
          clear hx U2
          go_wp2_with fail
          go_round
          case rel => exact ⟨k + 1, by omega, by go_num, by rw [US.out, List.append_assoc]⟩
          case measure => simp [RowKit.intOf]; omega
        · have hk1 : k = 0 := by omega
          subst hk1
          have US := Lib.hid (Lst.upto_one l sep x hx)
          have Z' := Z.out
          simp only [Nat.add_zero] at hcell
          have A1 := fun w => add_str (P := Tryz.prog) [] x (by simp; omega) w
          clear hx U2
          rw [Z']
          go_wp2_with fail
          go_round
          case rel => exact ⟨1, by omega, by go_num, by rw [US.out]⟩
          case measure => simp [RowKit.intOf] <;> omega
      · have e : l.length ≤ k := by omega
        have EE := Lib.hid (E.out k e)
        go_wp2_with fail
        go_ret
        exact ⟨ret_str (by rw [EE.out]), rfl⟩

end Go.Proofs.YtaijjffnamjhiaaGreatDoor
