/- The walks of linguisterref1.Starts and linguisterref1.NumberOf. Conditions: the texts are short of 4000000000 bytes. -/
import Derived.Below
import Derived.Test.YtjlchookakbomaaGreatDoorEh0
import Derived.Test.YtjlchookakbomaaGreatDoorProg
import Derived.Lib.ItoaLen
namespace Go.Proofs.YtjlchookakbomaaGreatDoor.Dcm
/-- ten, so often with itself (from 0 to 9) -/
def P10 (n : Int) : Int := if n ≤ 0 then 1 else if n = 1 then 10 else if n = 2 then 100 else if n = 3 then 1000 else if n = 4 then 10000 else if n = 5 then 100000 else if n = 6 then 1000000 else if n = 7 then 10000000 else if n = 8 then 100000000 else 1000000000
theorem ten (s : Int) (h0 : 0 ≤ s) (h1 : s ≤ 9) : s = 0 ∨ s = 1 ∨ s = 2 ∨ s = 3 ∨ s = 4 ∨ s = 5 ∨ s = 6 ∨ s = 7 ∨ s = 8 ∨ s = 9 := by omega
theorem P10_succ (n : Int) (h0 : 0 ≤ n) (h : n ≤ 8) : P10 (n + 1) = P10 n * 10 := by
  rcases ten n h0 (by omega) with rfl | rfl | rfl | rfl | rfl | rfl | rfl | rfl | rfl | rfl <;> simp [P10] at h ⊢
theorem P10_bd (n : Int) : 1 ≤ P10 n ∧ P10 n ≤ 1000000000 := by
  unfold P10
  repeat' split
  all_goals omega
def okD (c s : Int) : Prop := 0 ≤ s ∧ s ≤ 9 ∧ -1000000000000000 ≤ c ∧ c ≤ 1000000000000000
instance (c s : Int) : Decidable (okD c s) := by unfold okD; infer_instance
def nrm (c s : Int) : Int := c * P10 (9 - s)
theorem lt_iff (a s b t : Int) (hs0 : 0 ≤ s) (hs : s ≤ 9) (ht0 : 0 ≤ t) (ht : t ≤ 9) : a * P10 t < b * P10 s ↔ nrm a s < nrm b t := by
  unfold nrm
  rcases ten s hs0 hs with rfl | rfl | rfl | rfl | rfl | rfl | rfl | rfl | rfl | rfl <;> rcases ten t ht0 ht with rfl | rfl | rfl | rfl | rfl | rfl | rfl | rfl | rfl | rfl <;> simp [P10] <;> omega
theorem eq_iff (a s b t : Int) (hs0 : 0 ≤ s) (hs : s ≤ 9) (ht0 : 0 ≤ t) (ht : t ≤ 9) : a * P10 t = b * P10 s ↔ nrm a s = nrm b t := by
  have h1 := lt_iff a s b t hs0 hs ht0 ht
  have h2 := lt_iff b t a s ht0 ht hs0 hs
  omega
theorem P10_pos (n : Int) : 0 < P10 n := by have := P10_bd n; omega
/-- two words of a product compared -/
theorem words_lt {A B : Int} : A < B ↔ (A / 18446744073709551616 < B / 18446744073709551616 ∨ A / 18446744073709551616 = B / 18446744073709551616 ∧ A % 18446744073709551616 < B % 18446744073709551616) := by omega
theorem words_eq {A B : Int} : A = B ↔ (A / 18446744073709551616 = B / 18446744073709551616 ∧ A % 18446744073709551616 = B % 18446744073709551616) := by omega

def sgn (c : Int) : Int := if c < 0 then -1 else 1
def mag (c : Int) : Int := if c < 0 then -c else c
theorem mag_bd (c : Int) : 0 ≤ mag c := by unfold mag; split <;> omega
/-- is what is cut off rounded away from nought? -/
def near (way whole rest unit sign : Int) : Bool :=
  if way = 2 then decide (0 < rest) && decide (sign < 0)
  else if way = 3 then decide (0 < rest) && decide (0 < sign)
  else if way = 4 then decide (unit ≤ 2 * rest)
  else if way = 5 then decide (unit < 2 * rest) || (decide (2 * rest = unit) && decide (whole % 2 = 1))
  else false
def rdU (N U way sign : Int) : Int := N / U + if near way (N / U) (N % U) U sign then 1 else 0
/-- the coefficient of what is rounded -/
def rndC (c s t way : Int) : Int := if s ≤ t then c * P10 (t - s) else sgn c * rdU (mag c) (P10 (s - t)) way (sgn c)
/-- is there room? -/
def rndOk (c s t : Int) : Prop := s ≤ t → mag c * P10 (t - s) ≤ 1000000000000000
instance (c s t : Int) : Decidable (rndOk c s t) := by unfold rndOk; infer_instance
theorem ways (w : Int) (h0 : 1 ≤ w) (h1 : w ≤ 5) : w = 1 ∨ w = 2 ∨ w = 3 ∨ w = 4 ∨ w = 5 := by omega
/-- what is rounded off -/
theorem near_facts (c s t way : Int) (hc : -1000000000000000 ≤ c ∧ c ≤ 1000000000000000) (s1 : s ≤ 9) (t0 : 0 ≤ t) (ht : t < s) (h0 : 1 ≤ way) (h1 : way ≤ 5) :
    -100000000000001 ≤ rndC c s t way ∧ rndC c s t way ≤ 100000000000001 ∧
    mag (c - rndC c s t way * P10 (s - t)) < P10 (s - t) ∧
    ((way = 4 ∨ way = 5) → 2 * mag (c - rndC c s t way * P10 (s - t)) ≤ P10 (s - t)) ∧
    (way = 5 → 2 * mag (c - rndC c s t way * P10 (s - t)) = P10 (s - t) → (rndC c s t way) % 2 = 0) ∧
    (way = 2 → 0 ≤ c - rndC c s t way * P10 (s - t)) ∧ (way = 3 → c - rndC c s t way * P10 (s - t) ≤ 0) ∧
    (way = 1 → (0 ≤ c ∧ 0 ≤ c - rndC c s t way * P10 (s - t)) ∨ (c ≤ 0 ∧ c - rndC c s t way * P10 (s - t) ≤ 0)) := by
  obtain ⟨k, hk⟩ : ∃ k, k = s - t := ⟨_, rfl⟩
  unfold rndC; rw [if_neg (by omega), ← hk]
  have k1 : k = 1 ∨ k = 2 ∨ k = 3 ∨ k = 4 ∨ k = 5 ∨ k = 6 ∨ k = 7 ∨ k = 8 ∨ k = 9 := by omega
  clear hk s1 t0 ht
  unfold rdU sgn mag near
  rcases k1 with rfl | rfl | rfl | rfl | rfl | rfl | rfl | rfl | rfl <;> simp only [P10, Int.reduceLE, Int.reduceEq, if_true, if_false] <;>
    rcases ways way h0 h1 with rfl | rfl | rfl | rfl | rfl <;> simp only [Int.reduceEq, if_true, if_false, Bool.and_eq_true, Bool.or_eq_true, decide_eq_true_eq, Bool.false_eq_true, false_implies, true_implies, or_false, false_or, and_true, true_and] <;>
    by_cases hA : c < 0 <;> (try simp only [hA, if_true, if_false]) <;> (repeat' split) <;> omega
/-- the sum's coefficient, and how many digits it has behind the point -/
def addC (a s b t : Int) : Int := if s ≤ t then a * P10 (t - s) + b else b * P10 (s - t) + a
def addS (s t : Int) : Int := if s ≤ t then t else s
/-- what is added, in the walk's own way -/
theorem sum_quo (a b U : Int) (_hU : 1 ≤ U) : (a + b.tdiv U) * U + b.tmod U = a * U + b := by
  have := Int.mul_tdiv_add_tmod b U
  rw [Int.mul_comm] at this
  rw [Int.add_mul]; omega
theorem tdiv_bd (b U : Int) (_hU : 1 ≤ U) (hb : -1000000000000000 ≤ b ∧ b ≤ 1000000000000000) : -1000000000000000 ≤ b.tdiv U ∧ b.tdiv U ≤ 1000000000000000 := by
  have h1 := Int.natAbs_tdiv_le_natAbs b U
  omega
theorem tmod_bd (b U : Int) (hU : 1 ≤ U) : -U < b.tmod U ∧ b.tmod U < U := by
  have h1 := Int.tmod_lt_of_pos b (by omega : 0 < U)
  have h2 := Int.tmod_lt_of_pos (-b) (by omega : 0 < U)
  rw [Int.neg_tmod] at h2
  omega
/-- the sum that is no sum: far off -/
theorem sum_far (S r U : Int) (hU : 1 ≤ U) (hr : -U < r ∧ r < U) (hS : 2000000000000000 / U + 1 < S ∨ S < -(2000000000000000 / U) - 1) : 1000000000000000 < S * U + r ∨ S * U + r < -1000000000000000 := by
  have h1 : 2000000000000000 / U * U + 2000000000000000 % U = 2000000000000000 := by rw [Int.mul_comm]; exact Int.mul_ediv_add_emod _ _
  have h2 := Int.emod_lt_of_pos 2000000000000000 (by omega : 0 < U)
  rcases hS with h | h
  · have : (2000000000000000 / U + 1 + 1) * U ≤ S * U := Int.mul_le_mul_of_nonneg_right (by omega) (by omega)
    rw [Int.add_mul, Int.add_mul] at this; omega
  · have : S * U ≤ (-(2000000000000000 / U) - 1 - 1) * U := Int.mul_le_mul_of_nonneg_right (by omega) (by omega)
    rw [Int.sub_mul, Int.sub_mul, Int.neg_mul] at this; omega
theorem sum_near (S U : Int) (hU : 1 ≤ U) (hU1 : U ≤ 1000000000) (hS : ¬ 2000000000000000 / U + 1 < S ∧ ¬ S < -(2000000000000000 / U) - 1) : -2000001000000000 ≤ S * U ∧ S * U ≤ 2000001000000000 := by
  have h1 : 2000000000000000 / U * U + 2000000000000000 % U = 2000000000000000 := by rw [Int.mul_comm]; exact Int.mul_ediv_add_emod _ _
  have h2 := Int.emod_nonneg 2000000000000000 (by omega : U ≠ 0)
  constructor
  · have : (-(2000000000000000 / U) - 1) * U ≤ S * U := Int.mul_le_mul_of_nonneg_right (by omega) (by omega)
    rw [Int.sub_mul, Int.neg_mul] at this; omega
  · have : S * U ≤ (2000000000000000 / U + 1) * U := Int.mul_le_mul_of_nonneg_right (by omega) (by omega)
    rw [Int.add_mul] at this; omega
/-- noughts at the end struck: how many digits are left, and they -/
def strip : Nat → Int → Nat × Int
  | 0, t => (0, t)
  | w + 1, t => if t % 10 = 0 then strip w (t / 10) else (w + 1, t)
theorem strip_le : ∀ (w : Nat) (t : Int), (strip w t).1 ≤ w
  | 0, _ => Nat.le_refl _
  | w + 1, t => by unfold strip; split; exact Nat.le_succ_of_le (strip_le w _); exact Nat.le_refl _
theorem strip_end : ∀ (w : Nat) (t : Int), (strip w t).1 = 0 ∨ (strip w t).2 % 10 ≠ 0
  | 0, _ => .inl rfl
  | w + 1, t => by
    unfold strip; split
    · exact strip_end w _
    · rename_i h; exact .inr h
theorem strip_mul : ∀ (w : Nat) (t : Int), w ≤ 9 → (strip w t).2 * P10 (w - (strip w t).1) = t
  | 0, t, _ => by simp [strip, P10]
  | w + 1, t, h => by
    unfold strip; split
    · rename_i h0
      have := strip_mul w (t / 10) (by omega)
      have hl := strip_le w (t / 10)
      have e : ((w + 1 : Nat) : Int) - ((strip w (t / 10)).1 : Int) = ((w : Int) - ((strip w (t / 10)).1 : Int)) + 1 := by omega
      rw [e, P10_succ _ (by omega) (by omega), ← Int.mul_assoc, this]; omega
    · simp [P10]
end Go.Proofs.YtjlchookakbomaaGreatDoor.Dcm
namespace Byt
open Go Go.Lib
open Go.Proofs.YtjlchookakbomaaGreatDoor.Dcm (P10 okD mag)

/-- digits as a number, behind acc -/
def foldD (acc : Nat) : List UInt8 → Nat
  | [] => acc
  | c :: r => foldD (10 * acc + (c.toNat - 48)) r
theorem foldD_app (x y : List UInt8) : ∀ a : Nat, foldD a (x ++ y) = foldD (foldD a x) y := by
  induction x with
  | nil => intro a; rfl
  | cons c r ih => intro a; exact ih _
theorem foldD_dec : ∀ (k u : Nat), u < k → foldD 0 (decDigits u) = u
  | 0, u, h => by omega
  | k + 1, u, h => by
    by_cases hu : u < 10
    · rw [Dtx.dd1 hu]
      show 10 * 0 + ((UInt8.ofNat (48 + u)).toNat - 48) = u
      rw [dig_byte hu]; omega
    · rw [Dtx.dd2 hu, foldD_app, foldD_dec k (u / 10) (by omega)]
      show 10 * (u / 10) + ((UInt8.ofNat (48 + u % 10)).toNat - 48) = u
      rw [dig_byte (by omega)]; omega
theorem foldD_digits (u : Nat) : foldD 0 (decDigits u) = u := foldD_dec (u + 1) u (by omega)
def isDig (c : UInt8) : Bool := decide (48 ≤ (c.toNat : Int)) && decide ((c.toNat : Int) ≤ 57)
theorem isDig_iff {c : UInt8} : isDig c = true ↔ 48 ≤ c.toNat ∧ c.toNat ≤ 57 := by
  unfold isDig
  rw [Bool.and_eq_true, decide_eq_true_eq, decide_eq_true_eq]; omega
/-- what linguisterref1.NumberOf tells -/
def numP (l : List UInt8) : Int :=
  if l.length = 0 ∨ 16 < l.length then -1
  else if l.all isDig = true then (if decDigits (foldD 0 l) = l ∧ (foldD 0 l : Int) ≤ 1000000000000000 then (foldD 0 l : Int) else -1) else -1
theorem numP_dec (u : Nat) (h : u ≤ 1000000000000000) : numP (decDigits u) = u := by
  unfold numP
  have h1 := List.length_pos_iff.2 (digits_ne u)
  have h2 := digits_short 16 u (by omega) (by omega)
  rw [if_neg (by omega), if_pos (List.all_eq_true.2 fun c hc => isDig_iff.2 (digits_all u c hc)), foldD_digits, if_pos ⟨rfl, by omega⟩]
theorem numP_some {l : List UInt8} (h : 0 ≤ numP l) : decDigits (numP l).toNat = l ∧ numP l ≤ 1000000000000000 := by
  unfold numP at *
  split at h
  · omega
  · rename_i h1
    rw [if_neg h1]
    split at h
    · rename_i h2
      rw [if_pos h2]
      split at h
      · rename_i h3
        rw [if_pos h3]
        exact ⟨by rw [Int.toNat_natCast]; exact h3.1, h3.2⟩
      · omega
    · omega
theorem numP_bd (l : List UInt8) : -1 ≤ numP l ∧ numP l ≤ 1000000000000000 := by
  unfold numP
  split
  · omega
  · split
    · split
      · rename_i h; omega
      · omega
    · omega
/-- without the minus ahead -/
def bare (t : List UInt8) : List UInt8 := if t.take 1 = [45] then t.drop 1 else t
end Byt
namespace Go.Proofs.YtjlchookakbomaaGreatDoor
open Go.RowKit Go.Lib

end Go.Proofs.YtjlchookakbomaaGreatDoor
namespace Go.Proofs.YtjlchookakbomaaGreatDoor
open Go.RowKit

end Go.Proofs.YtjlchookakbomaaGreatDoor
namespace Go.Proofs.YtjlchookakbomaaGreatDoor
open Go.RowKit

end Go.Proofs.YtjlchookakbomaaGreatDoor
