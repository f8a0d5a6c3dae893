/- Plain law: what linguisterref1.NumberOf, DecText and DecOf tell: digits as a number, a number's text in two pieces, there and back. No program. -/
import Derived.Test.YtdmenoimamnldaaGreatDoorDz8
import Derived.Lib.Join
import Derived.Lib.SplitLaws
import Derived.Lib.Replace
import Derived.Test.YtdmenoimamnldaaGreatDoorDz9
import Derived.Test.YtdmenoimamnldaaGreatDoorDz1
namespace Byt
open Go Go.Lib
theorem split_cons {c : UInt8} {X : List UInt8} (Y : List UInt8) (h : c ∉ X) : split (X ++ c :: Y) [c] = X :: split Y [c] := by
  unfold split
  have e : count (X ++ c :: Y) [c] = count Y [c] + 1 := by
    rw [count_one, count_one, List.count_append, List.count_cons_self, List.count_eq_zero.2 h]; omega
  rw [e, splitK_hit _ _ h]
theorem split_none {c : UInt8} {X : List UInt8} (h : c ∉ X) : split X [c] = [X] := splitK_miss _ h
theorem split_join (c : UInt8) : ∀ {l : List (List UInt8)}, l ≠ [] → (∀ p ∈ l, c ∉ p) → split (join l [c]) [c] = l
  | [], h, _ => absurd rfl h
  | [x], _, h => by rw [join_one]; exact split_none (h x (by simp))
  | x :: y :: r, _, h => by
    have e : join (x :: y :: r) [c] = x ++ c :: join (y :: r) [c] := by
      rw [join_cons, join_cons]; unfold joinTail; simp
    rw [e, split_cons _ (h x (by simp)), split_join c (by simp) (fun p hp => h p (by simp at hp ⊢; exact .inr hp))]
theorem replaceK_one {c : UInt8} : ∀ (k : Nat) (s : List UInt8), s.count c = k → replaceK [c] [] k s = s.filter (· != c)
  | 0, s, h => by
    rw [replaceK]
    exact (List.filter_eq_self.2 fun x hx => by simp; exact fun e => (List.count_eq_zero.1 h) (e ▸ hx)).symm
  | k + 1, s, h => by
    have hc : c ∈ s := List.count_pos_iff.1 (by omega)
    obtain ⟨X, Y, rfl, hX⟩ := part hc
    rw [replaceK, idx_hit Y hX]
    rw [List.count_append, List.count_cons_self, List.count_eq_zero.2 hX] at h
    have e1 : (X ++ c :: Y).take (X.length : Int).toNat = X := by simp
    have e2 : (X ++ c :: Y).drop ((X.length : Int).toNat + [c].length) = Y := by rw [Int.toNat_natCast, ← List.drop_drop, List.drop_left]; rfl
    simp only [e1, e2]
    rw [replaceK_one k Y (by omega), List.filter_append]
    have f1 : X.filter (· != c) = X := List.filter_eq_self.2 fun x hx => by simp; exact fun e => hX (e ▸ hx)
    rw [f1]; simp
theorem replaceAll_one (c : UInt8) (s : List UInt8) : replaceAll s [c] [] = s.filter (· != c) := by
  unfold replaceAll replace replaceNum
  rw [if_neg (by simp), if_pos (by left; decide), count_one]
  exact replaceK_one _ s rfl
end Byt
namespace Byt
open Go Go.Lib
open Go.Proofs.YtdmenoimamnldaaGreatDoor.Dcm (P10 okD mag)

/-- digits as a number, behind acc -/
def foldD (acc : Nat) : List UInt8 → Nat
  | [] => acc
  | c :: r => foldD (10 * acc + (c.toNat - 48)) r
theorem foldD_app (x y : List UInt8) : ∀ a : Nat, foldD a (x ++ y) = foldD (foldD a x) y := by
  induction x with
  | nil => intro a; rfl
  | cons c r ih => intro a; exact ih _
theorem foldD_step (a x P S : Nat) : (10 * a + x) * P + S = a * (P * 10) + (x * P + S) := by
  have e : (10 * a + x) * P = a * (P * 10) + x * P := by rw [Nat.add_mul, Nat.mul_comm 10 a, Nat.mul_assoc, Nat.mul_comm 10 P]
  rw [e, Nat.add_assoc]
theorem foldD_pow : ∀ (l : List UInt8) (a : Nat), foldD a l = a * 10 ^ l.length + foldD 0 l
  | [], a => (Nat.mul_one a).symm
  | c :: r, a => by
    have h1 := foldD_pow r (10 * a + (c.toNat - 48))
    have h2 := foldD_pow r (10 * 0 + (c.toNat - 48))
    have h3 : 10 ^ (c :: r).length = 10 ^ r.length * 10 := Nat.pow_succ 10 r.length
    rw [h3]
    have e1 : foldD a (c :: r) = foldD (10 * a + (c.toNat - 48)) r := rfl
    have e2 : foldD 0 (c :: r) = foldD (10 * 0 + (c.toNat - 48)) r := rfl
    rw [e1, e2, h1, h2, Nat.mul_zero, Nat.zero_add]
    exact foldD_step _ _ _ _
theorem foldD_rep (k : Nat) (l : List UInt8) : foldD 0 (List.replicate k 48 ++ l) = foldD 0 l := by
  induction k with
  | zero => rfl
  | succ k ih =>
    rw [List.replicate_succ]
    exact ih
theorem foldD_dec : ∀ (k u : Nat), u < k → foldD 0 (decDigits u) = u
  | 0, u, h => by omega
  | k + 1, u, h => by
    by_cases hu : u < 10
    · rw [Dtx.dd1 hu]
      show 10 * 0 + ((UInt8.ofNat (48 + u)).toNat - 48) = u
      rw [dig_byte hu]; omega
    · rw [Dtx.dd2 hu, foldD_app, foldD_dec k (u / 10) (by omega)]
      show 10 * (u / 10) + ((UInt8.ofNat (48 + u % 10)).toNat - 48) = u
      rw [dig_byte (by omega)]; omega
theorem foldD_digits (u : Nat) : foldD 0 (decDigits u) = u := foldD_dec (u + 1) u (by omega)
theorem foldD_pad (k u : Nat) : foldD 0 (Dtx.pad k u) = u := by
  unfold Dtx.pad
  rw [foldD_rep, foldD_digits]
def isDig (c : UInt8) : Bool := decide (48 ≤ (c.toNat : Int)) && decide ((c.toNat : Int) ≤ 57)
theorem isDig_iff {c : UInt8} : isDig c = true ↔ 48 ≤ c.toNat ∧ c.toNat ≤ 57 := by
  unfold isDig
  rw [Bool.and_eq_true, decide_eq_true_eq, decide_eq_true_eq]; omega
/-- what linguisterref1.NumberOf tells -/
def numP (l : List UInt8) : Int :=
  if l.length = 0 ∨ 16 < l.length then -1
  else if l.all isDig = true then (if decDigits (foldD 0 l) = l ∧ (foldD 0 l : Int) ≤ 1000000000000000 then (foldD 0 l : Int) else -1) else -1
theorem numP_dec (u : Nat) (h : u ≤ 1000000000000000) : numP (decDigits u) = u := by
  unfold numP
  have h1 := List.length_pos_iff.2 (digits_ne u)
  have h2 := digits_short 16 u (by omega) (by omega)
  rw [if_neg (by omega), if_pos (List.all_eq_true.2 fun c hc => isDig_iff.2 (digits_all u c hc)), foldD_digits, if_pos ⟨rfl, by omega⟩]
theorem numP_some {l : List UInt8} (h : 0 ≤ numP l) : decDigits (numP l).toNat = l ∧ numP l ≤ 1000000000000000 := by
  unfold numP at *
  split at h
  · omega
  · rename_i h1
    rw [if_neg h1]
    split at h
    · rename_i h2
      rw [if_pos h2]
      split at h
      · rename_i h3
        rw [if_pos h3]
        exact ⟨by rw [Int.toNat_natCast]; exact h3.1, h3.2⟩
      · omega
    · omega
theorem numP_bd (l : List UInt8) : -1 ≤ numP l ∧ numP l ≤ 1000000000000000 := by
  unfold numP
  split
  · omega
  · split
    · split
      · rename_i h; omega
      · omega
    · omega
theorem foldD_bd : ∀ (l : List UInt8), (∀ c ∈ l, 48 ≤ c.toNat ∧ c.toNat ≤ 57) → foldD 0 l < 10 ^ l.length := by
  intro l
  induction l with
  | nil => intro _; decide
  | cons c r ih =>
    intro h
    have h1 := ih fun x hx => h x (List.mem_cons_of_mem _ hx)
    have h2 := h c List.mem_cons_self
    show foldD (10 * 0 + (c.toNat - 48)) r < _
    rw [foldD_pow, List.length_cons, Nat.pow_succ]
    generalize 10 ^ r.length = P at *
    have : (10 * 0 + (c.toNat - 48)) * P ≤ 9 * P := Nat.mul_le_mul_right P (by omega)
    omega

theorem pad_succ (k u : Nat) (hk : 0 < k) : Dtx.pad (k + 1) u = Dtx.pad k (u / 10) ++ [UInt8.ofNat (48 + u % 10)] := by
  unfold Dtx.pad
  by_cases h : u < 10
  · obtain ⟨j, rfl⟩ : ∃ j, k = j + 1 := ⟨k - 1, by omega⟩
    rw [Dtx.dd1 h, show u / 10 = 0 by omega, Dtx.dd1 (show 0 < 10 by omega), Nat.mod_eq_of_lt h]
    show List.replicate (j + 1) 48 ++ _ = List.replicate j 48 ++ [48] ++ _
    rw [List.replicate_succ']
  · rw [Dtx.dd2 h, List.length_append, List.length_singleton, show k + 1 - ((decDigits (u / 10)).length + 1) = k - (decDigits (u / 10)).length by omega, List.append_assoc]
theorem pad_len {k u : Nat} (hk : 0 < k) (h : u < 10 ^ k) : (Dtx.pad k u).length = k := by
  have := digits_short k u h hk
  unfold Dtx.pad
  rw [List.length_append, List.length_replicate]; omega
theorem pad_one (u : Nat) : Dtx.pad 1 u = decDigits u := by
  have := List.length_pos_iff.2 (digits_ne u)
  unfold Dtx.pad
  rw [show 1 - (decDigits u).length = 0 by omega]; rfl
theorem pad_split : ∀ (s u : Nat), 0 < s → Dtx.pad (s + 1) u = decDigits (u / 10 ^ s) ++ Dtx.pad s (u % 10 ^ s)
  | 0, u, h => by omega
  | 1, u, _ => by
    rw [pad_succ 1 u (by omega), pad_one, pad_one, Nat.pow_one, Dtx.dd1 (show u % 10 < 10 by omega)]
  | s + 2, u, _ => by
    rw [pad_succ (s + 2) u (by omega), pad_split (s + 1) (u / 10) (by omega), pad_succ (s + 1) (u % 10 ^ (s + 2)) (by omega)]
    have e : 10 ^ (s + 2) = 10 ^ (s + 1) * 10 := Nat.pow_succ 10 (s + 1)
    rw [e, Nat.mod_mul_left_div_self, Nat.mod_mul_left_mod, Nat.div_div_eq_div_mul, Nat.mul_comm 10 (10 ^ (s + 1)), List.append_assoc]
theorem P10_pow (s : Nat) (h : s ≤ 9) : P10 (s : Int) = ((10 ^ s : Nat) : Int) := by
  have : s = 0 ∨ s = 1 ∨ s = 2 ∨ s = 3 ∨ s = 4 ∨ s = 5 ∨ s = 6 ∨ s = 7 ∨ s = 8 ∨ s = 9 := by omega
  rcases this with rfl | rfl | rfl | rfl | rfl | rfl | rfl | rfl | rfl | rfl <;> rfl
theorem mag_abs (c : Int) : mag c = (c.natAbs : Int) := by unfold mag; split <;> omega
/-- a number's text in two pieces -/
def magT (n s : Int) : List UInt8 := if s ≤ 0 then decDigits n.toNat else decDigits (n / P10 s).toNat ++ 46 :: Dtx.pad s.toNat (n % P10 s).toNat
theorem decText_two (c s : Int) (h : okD c s) : decText c s = sgn c ++ magT (mag c) s := by
  obtain ⟨s0, s9, _, _⟩ := h
  unfold decText magT
  by_cases hs : s ≤ 0
  · rw [if_pos hs, if_pos hs, mag_abs, Int.toNat_natCast]
  · rw [if_neg hs, if_neg hs]
    obtain ⟨k, rfl⟩ : ∃ k : Nat, s = (k : Int) := ⟨s.toNat, by omega⟩
    have e : zdig (zn c k) c.natAbs = decDigits (c.natAbs / 10 ^ k) ++ Dtx.pad k (c.natAbs % 10 ^ k) := pad_split k c.natAbs (by omega)
    have hp : 0 < 10 ^ k := Nat.pow_pos (by omega)
    have l := pad_len (k := k) (u := c.natAbs % 10 ^ k) (by omega) (Nat.mod_lt _ hp)
    rw [e, Int.toNat_natCast, mag_abs, P10_pow k (by omega)]
    rw [← Int.natCast_ediv, ← Int.natCast_emod, Int.toNat_natCast, Int.toNat_natCast]
    generalize Dtx.pad k (c.natAbs % 10 ^ k) = P at *
    generalize decDigits (c.natAbs / 10 ^ k) = D at *
    rw [List.length_append, l, Nat.add_sub_cancel, List.take_left, List.drop_left]
    simp
/-- without the minus ahead -/
def bare (t : List UInt8) : List UInt8 := if t.take 1 = [45] then t.drop 1 else t
def neg (t : List UInt8) : Bool := t.take 1 == [45]
theorem magT_head (n s : Int) : (magT n s).take 1 ≠ [45] := by
  have key : ∀ (u : Nat) (Y : List UInt8), (decDigits u ++ Y).take 1 ≠ [45] := fun u Y e => by
    cases hd : decDigits u with
    | nil => exact digits_ne u hd
    | cons c r =>
      rw [hd] at e
      simp at e
      have := digits_all u c (by rw [hd]; exact List.mem_cons_self)
      rw [e] at this
      exact absurd this.1 (by decide)
  unfold magT
  split
  · have := key n.toNat []
    rwa [List.append_nil] at this
  · exact key _ _
theorem bare_text (c s : Int) (h : okD c s) : bare (decText c s) = magT (mag c) s ∧ neg (decText c s) = decide (c < 0) := by
  rw [decText_two c s h]
  have hm := magT_head (mag c) s
  unfold bare neg sgn
  by_cases hc : c < 0
  · rw [if_pos hc]
    simp [hc]
  · rw [if_neg hc, List.nil_append, if_neg hm]
    exact ⟨rfl, by rw [beq_eq_false_iff_ne.2 hm]; simp [hc]⟩
def digs : List UInt8 := [48, 49, 50, 51, 52, 53, 54, 55, 56, 57]
/-- what linguisterref1.DecOf tells, but for its last look -/
def decOfP (t : List UInt8) : Option (Int × Int) :=
  match split (bare t) [46] with
  | [a] => if numP a < 0 then none else some (if neg t then 0 - numP a else numP a, 0)
  | [a, b] => if numP a < 0 then none else if (b.all fun c => digs.contains c) = true ∧ 1 ≤ b.length ∧ b.length ≤ 9 ∧ numP a ≤ 1000000000000000 / P10 b.length then some (if neg t then 0 - (foldD (numP a).toNat b : Int) else (foldD (numP a).toNat b : Int), b.length) else none
  | _ => none
theorem digs_of {c : UInt8} (h : 48 ≤ c.toNat ∧ c.toNat ≤ 57) : digs.contains c = true := by
  have : c.toNat = 48 ∨ c.toNat = 49 ∨ c.toNat = 50 ∨ c.toNat = 51 ∨ c.toNat = 52 ∨ c.toNat = 53 ∨ c.toNat = 54 ∨ c.toNat = 55 ∨ c.toNat = 56 ∨ c.toNat = 57 := by omega
  have e : c = UInt8.ofNat c.toNat := by simp
  rcases this with g | g | g | g | g | g | g | g | g | g <;> (rw [e, g]; decide)
theorem of_digs {c : UInt8} (h : digs.contains c = true) : 48 ≤ c.toNat ∧ c.toNat ≤ 57 := by
  simp [digs] at h
  rcases h with rfl | rfl | rfl | rfl | rfl | rfl | rfl | rfl | rfl | rfl <;> decide
theorem pad_all (k u : Nat) : AllDig (Dtx.pad k u) := fun c hc => by
  unfold Dtx.pad at hc
  rcases List.mem_append.1 hc with hc | hc
  · rw [(List.mem_replicate.1 hc).2]; decide
  · exact digits_all u c hc
theorem decOf_text (c s : Int) (h : okD c s) : decOfP (decText c s) = some (c, s) := by
  obtain ⟨e1, e2⟩ := bare_text c s h
  obtain ⟨s0, s9, c0, c1⟩ := h
  have hm : mag c = (c.natAbs : Int) := mag_abs c
  unfold decOfP
  rw [e1, e2]
  unfold magT
  by_cases hs : s ≤ 0
  · rw [if_pos hs, split_none (no_point (digits_all _)), hm, Int.toNat_natCast]
    dsimp only
    rw [numP_dec _ (by omega), if_neg (by omega)]
    have : s = 0 := by omega
    subst this
    congr 2
    by_cases hc : c < 0
    · simp [hc]; omega
    · simp [hc]; omega
  · rw [if_neg hs, split_cons _ (no_point (digits_all _)), split_none (no_point (pad_all _ _))]
    obtain ⟨k, rfl⟩ : ∃ k : Nat, s = (k : Int) := ⟨s.toNat, by omega⟩
    rw [Int.toNat_natCast, hm, P10_pow k (by omega), ← Int.natCast_ediv, ← Int.natCast_emod, Int.toNat_natCast, Int.toNat_natCast]
    dsimp only
    have hp : 0 < 10 ^ k := Nat.pow_pos (by omega)
    have l := pad_len (k := k) (u := c.natAbs % 10 ^ k) (by omega) (Nat.mod_lt _ hp)
    have q1 : c.natAbs / 10 ^ k ≤ c.natAbs := Nat.div_le_self _ _
    have q2 : c.natAbs / 10 ^ k ≤ 1000000000000000 / 10 ^ k := Nat.div_le_div_right (by omega)
    rw [numP_dec _ (by omega), if_neg (Int.not_lt.2 (Int.natCast_nonneg _)), l, P10_pow k (by omega), if_pos ⟨List.all_eq_true.2 fun c hc => digs_of (pad_all _ _ c hc), by omega, by omega, by
      rw [show (1000000000000000 : Int) = ((1000000000000000 : Nat) : Int) by rfl, ← Int.natCast_ediv]; exact Int.ofNat_le.2 q2⟩, Int.toNat_natCast, foldD_pow, l, foldD_pad]
    have e3 : c.natAbs / 10 ^ k * 10 ^ k + c.natAbs % 10 ^ k = c.natAbs := by rw [Nat.mul_comm]; exact Nat.div_add_mod _ _
    rw [e3]
    congr 2
    by_cases hc : c < 0
    · rw [if_pos (by simpa using hc)]; omega
    · rw [if_neg (by simpa using hc)]; omega
/-- what linguisterref1.DecOf tells: a number whose text it is, or none -/
theorem decOf_iff (t : List UInt8) : (∃ c s, decOfP t = some (c, s) ∧ okD c s ∧ decText c s = t) ∨ ((∀ c s, decOfP t = some (c, s) → ¬ (okD c s ∧ decText c s = t)) ∧ ∀ c s, okD c s → decText c s ≠ t) := by
  by_cases h : ∃ c s, decOfP t = some (c, s) ∧ okD c s ∧ decText c s = t
  · exact .inl h
  · exact .inr ⟨fun c s e g => h ⟨c, s, e, g⟩, fun c s hk e => h ⟨c, s, by rw [← e]; exact decOf_text c s hk, hk, e⟩⟩
end Byt
