/- The walk of linguisterref1.DecFault: is it no number? -/
import Derived.Test.YtaijjffnamjhiaaGreatDoorDecText
import Derived.Test.YtaijjffnamjhiaaGreatDoorBys
import Derived.Test.YtaijjffnamjhiaaGreatDoorDcm
import Derived.Test.YtaijjffnamjhiaaGreatDoorProg
import Derived.Test.YtaijjffnamjhiaaGreatDoorBox
import Derived.Test.YtaijjffnamjhiaaGreatDoorDtx
import Derived.Test.YtaijjffnamjhiaaGreatDoorStr
import Derived.Lib.ItoaLen
import Derived.Test.YtaijjffnamjhiaaGreatDoorDec
import Derived.Test.YtaijjffnamjhiaaGreatDoorHeld
import Derived.Test.YtaijjffnamjhiaaGreatDoorDecRndC
import Derived.Lib.Split
import Derived.Test.YtaijjffnamjhiaaGreatDoorRead
import Derived.OwnWalk
import Derived.LoopTactic
import Derived.Test.YtaijjffnamjhiaaGreatDoorOnly
namespace Byt
open Go Go.Lib
open Go.Proofs.YtaijjffnamjhiaaGreatDoor.Dcm (P10 okD mag)

/-- digits as a number, behind acc -/
def foldD (acc : Nat) : List UInt8 → Nat
  | [] => acc
  | c :: r => foldD (10 * acc + (c.toNat - 48)) r
theorem foldD_app (x y : List UInt8) : ∀ a : Nat, foldD a (x ++ y) = foldD (foldD a x) y := by
  induction x with
  | nil => intro a; rfl
  | cons c r ih => intro a; exact ih _
theorem foldD_step (a x P S : Nat) : (10 * a + x) * P + S = a * (P * 10) + (x * P + S) := by
  have e : (10 * a + x) * P = a * (P * 10) + x * P := by rw [Nat.add_mul, Nat.mul_comm 10 a, Nat.mul_assoc, Nat.mul_comm 10 P]
  rw [e, Nat.add_assoc]
theorem foldD_pow : ∀ (l : List UInt8) (a : Nat), foldD a l = a * 10 ^ l.length + foldD 0 l
  | [], a => (Nat.mul_one a).symm
  | c :: r, a => by
    have h1 := foldD_pow r (10 * a + (c.toNat - 48))
    have h2 := foldD_pow r (10 * 0 + (c.toNat - 48))
    have h3 : 10 ^ (c :: r).length = 10 ^ r.length * 10 := Nat.pow_succ 10 r.length
    rw [h3]
    have e1 : foldD a (c :: r) = foldD (10 * a + (c.toNat - 48)) r := rfl
    have e2 : foldD 0 (c :: r) = foldD (10 * 0 + (c.toNat - 48)) r := rfl
    rw [e1, e2, h1, h2, Nat.mul_zero, Nat.zero_add]
    exact foldD_step _ _ _ _
theorem foldD_rep (k : Nat) (l : List UInt8) : foldD 0 (List.replicate k 48 ++ l) = foldD 0 l := by
  induction k with
  | zero => rfl
  | succ k ih =>
    rw [List.replicate_succ]
    exact ih
theorem foldD_dec : ∀ (k u : Nat), u < k → foldD 0 (decDigits u) = u
  | 0, u, h => by omega
  | k + 1, u, h => by
    by_cases hu : u < 10
    · rw [Dtx.dd1 hu]
      show 10 * 0 + ((UInt8.ofNat (48 + u)).toNat - 48) = u
      rw [dig_byte hu]; omega
    · rw [Dtx.dd2 hu, foldD_app, foldD_dec k (u / 10) (by omega)]
      show 10 * (u / 10) + ((UInt8.ofNat (48 + u % 10)).toNat - 48) = u
      rw [dig_byte (by omega)]; omega
theorem foldD_digits (u : Nat) : foldD 0 (decDigits u) = u := foldD_dec (u + 1) u (by omega)
theorem foldD_pad (k u : Nat) : foldD 0 (Dtx.pad k u) = u := by
  unfold Dtx.pad
  rw [foldD_rep, foldD_digits]
def isDig (c : UInt8) : Bool := decide (48 ≤ (c.toNat : Int)) && decide ((c.toNat : Int) ≤ 57)
theorem isDig_iff {c : UInt8} : isDig c = true ↔ 48 ≤ c.toNat ∧ c.toNat ≤ 57 := by
  unfold isDig
  rw [Bool.and_eq_true, decide_eq_true_eq, decide_eq_true_eq]; omega
/-- what linguisterref1.NumberOf tells -/
def numP (l : List UInt8) : Int :=
  if l.length = 0 ∨ 16 < l.length then -1
  else if l.all isDig = true then (if decDigits (foldD 0 l) = l ∧ (foldD 0 l : Int) ≤ 1000000000000000 then (foldD 0 l : Int) else -1) else -1
theorem numP_dec (u : Nat) (h : u ≤ 1000000000000000) : numP (decDigits u) = u := by
  unfold numP
  have h1 := List.length_pos_iff.2 (digits_ne u)
  have h2 := digits_short 16 u (by omega) (by omega)
  rw [if_neg (by omega), if_pos (List.all_eq_true.2 fun c hc => isDig_iff.2 (digits_all u c hc)), foldD_digits, if_pos ⟨rfl, by omega⟩]
theorem numP_some {l : List UInt8} (h : 0 ≤ numP l) : decDigits (numP l).toNat = l ∧ numP l ≤ 1000000000000000 := by
  unfold numP at *
  split at h
  · omega
  · rename_i h1
    rw [if_neg h1]
    split at h
    · rename_i h2
      rw [if_pos h2]
      split at h
      · rename_i h3
        rw [if_pos h3]
        exact ⟨by rw [Int.toNat_natCast]; exact h3.1, h3.2⟩
      · omega
    · omega
theorem numP_bd (l : List UInt8) : -1 ≤ numP l ∧ numP l ≤ 1000000000000000 := by
  unfold numP
  split
  · omega
  · split
    · split
      · rename_i h; omega
      · omega
    · omega
theorem foldD_bd : ∀ (l : List UInt8), (∀ c ∈ l, 48 ≤ c.toNat ∧ c.toNat ≤ 57) → foldD 0 l < 10 ^ l.length := by
  intro l
  induction l with
  | nil => intro _; decide
  | cons c r ih =>
    intro h
    have h1 := ih fun x hx => h x (List.mem_cons_of_mem _ hx)
    have h2 := h c List.mem_cons_self
    show foldD (10 * 0 + (c.toNat - 48)) r < _
    rw [foldD_pow, List.length_cons, Nat.pow_succ]
    generalize 10 ^ r.length = P at *
    have : (10 * 0 + (c.toNat - 48)) * P ≤ 9 * P := Nat.mul_le_mul_right P (by omega)
    omega

theorem pad_succ (k u : Nat) (hk : 0 < k) : Dtx.pad (k + 1) u = Dtx.pad k (u / 10) ++ [UInt8.ofNat (48 + u % 10)] := by
  unfold Dtx.pad
  by_cases h : u < 10
  · obtain ⟨j, rfl⟩ : ∃ j, k = j + 1 := ⟨k - 1, by omega⟩
    rw [Dtx.dd1 h, show u / 10 = 0 by omega, Dtx.dd1 (show 0 < 10 by omega), Nat.mod_eq_of_lt h]
    show List.replicate (j + 1) 48 ++ _ = List.replicate j 48 ++ [48] ++ _
    rw [List.replicate_succ']
  · rw [Dtx.dd2 h, List.length_append, List.length_singleton, show k + 1 - ((decDigits (u / 10)).length + 1) = k - (decDigits (u / 10)).length by omega, List.append_assoc]
theorem pad_len {k u : Nat} (hk : 0 < k) (h : u < 10 ^ k) : (Dtx.pad k u).length = k := by
  have := digits_short k u h hk
  unfold Dtx.pad
  rw [List.length_append, List.length_replicate]; omega
theorem pad_one (u : Nat) : Dtx.pad 1 u = decDigits u := by
  have := List.length_pos_iff.2 (digits_ne u)
  unfold Dtx.pad
  rw [show 1 - (decDigits u).length = 0 by omega]; rfl
theorem pad_split : ∀ (s u : Nat), 0 < s → Dtx.pad (s + 1) u = decDigits (u / 10 ^ s) ++ Dtx.pad s (u % 10 ^ s)
  | 0, u, h => by omega
  | 1, u, _ => by
    rw [pad_succ 1 u (by omega), pad_one, pad_one, Nat.pow_one, Dtx.dd1 (show u % 10 < 10 by omega)]
  | s + 2, u, _ => by
    rw [pad_succ (s + 2) u (by omega), pad_split (s + 1) (u / 10) (by omega), pad_succ (s + 1) (u % 10 ^ (s + 2)) (by omega)]
    have e : 10 ^ (s + 2) = 10 ^ (s + 1) * 10 := Nat.pow_succ 10 (s + 1)
    rw [e, Nat.mod_mul_left_div_self, Nat.mod_mul_left_mod, Nat.div_div_eq_div_mul, Nat.mul_comm 10 (10 ^ (s + 1)), List.append_assoc]
theorem P10_pow (s : Nat) (h : s ≤ 9) : P10 (s : Int) = ((10 ^ s : Nat) : Int) := by
  have : s = 0 ∨ s = 1 ∨ s = 2 ∨ s = 3 ∨ s = 4 ∨ s = 5 ∨ s = 6 ∨ s = 7 ∨ s = 8 ∨ s = 9 := by omega
  rcases this with rfl | rfl | rfl | rfl | rfl | rfl | rfl | rfl | rfl | rfl <;> rfl
theorem mag_abs (c : Int) : mag c = (c.natAbs : Int) := by unfold mag; split <;> omega
/-- a number's text in two pieces -/
def magT (n s : Int) : List UInt8 := if s ≤ 0 then decDigits n.toNat else decDigits (n / P10 s).toNat ++ 46 :: Dtx.pad s.toNat (n % P10 s).toNat
theorem decText_two (c s : Int) (h : okD c s) : decText c s = sgn c ++ magT (mag c) s := by
  obtain ⟨s0, s9, _, _⟩ := h
  unfold decText magT
  by_cases hs : s ≤ 0
  · rw [if_pos hs, if_pos hs, mag_abs, Int.toNat_natCast]
  · rw [if_neg hs, if_neg hs]
    obtain ⟨k, rfl⟩ : ∃ k : Nat, s = (k : Int) := ⟨s.toNat, by omega⟩
    have e : zdig (zn c k) c.natAbs = decDigits (c.natAbs / 10 ^ k) ++ Dtx.pad k (c.natAbs % 10 ^ k) := pad_split k c.natAbs (by omega)
    have hp : 0 < 10 ^ k := Nat.pow_pos (by omega)
    have l := pad_len (k := k) (u := c.natAbs % 10 ^ k) (by omega) (Nat.mod_lt _ hp)
    rw [e, Int.toNat_natCast, mag_abs, P10_pow k (by omega)]
    rw [← Int.natCast_ediv, ← Int.natCast_emod, Int.toNat_natCast, Int.toNat_natCast]
    generalize Dtx.pad k (c.natAbs % 10 ^ k) = P at *
    generalize decDigits (c.natAbs / 10 ^ k) = D at *
    rw [List.length_append, l, Nat.add_sub_cancel, List.take_left, List.drop_left]
    simp
/-- without the minus ahead -/
def bare (t : List UInt8) : List UInt8 := if t.take 1 = [45] then t.drop 1 else t
def neg (t : List UInt8) : Bool := t.take 1 == [45]
theorem magT_head (n s : Int) : (magT n s).take 1 ≠ [45] := by
  have key : ∀ (u : Nat) (Y : List UInt8), (decDigits u ++ Y).take 1 ≠ [45] := fun u Y e => by
    cases hd : decDigits u with
    | nil => exact digits_ne u hd
    | cons c r =>
      rw [hd] at e
      simp at e
      have := digits_all u c (by rw [hd]; exact List.mem_cons_self)
      rw [e] at this
      exact absurd this.1 (by decide)
  unfold magT
  split
  · have := key n.toNat []
    rwa [List.append_nil] at this
  · exact key _ _
theorem bare_text (c s : Int) (h : okD c s) : bare (decText c s) = magT (mag c) s ∧ neg (decText c s) = decide (c < 0) := by
  rw [decText_two c s h]
  have hm := magT_head (mag c) s
  unfold bare neg sgn
  by_cases hc : c < 0
  · rw [if_pos hc]
    simp [hc]
  · rw [if_neg hc, List.nil_append, if_neg hm]
    exact ⟨rfl, by rw [beq_eq_false_iff_ne.2 hm]; simp [hc]⟩
def digs : List UInt8 := [48, 49, 50, 51, 52, 53, 54, 55, 56, 57]
/-- what linguisterref1.DecOf tells, but for its last look -/
def decOfP (t : List UInt8) : Option (Int × Int) :=
  match split (bare t) [46] with
  | [a] => if numP a < 0 then none else some (if neg t then 0 - numP a else numP a, 0)
  | [a, b] => if numP a < 0 then none else if (b.all fun c => digs.contains c) = true ∧ 1 ≤ b.length ∧ b.length ≤ 9 ∧ numP a ≤ 1000000000000000 / P10 b.length then some (if neg t then 0 - (foldD (numP a).toNat b : Int) else (foldD (numP a).toNat b : Int), b.length) else none
  | _ => none
theorem digs_of {c : UInt8} (h : 48 ≤ c.toNat ∧ c.toNat ≤ 57) : digs.contains c = true := by
  have : c.toNat = 48 ∨ c.toNat = 49 ∨ c.toNat = 50 ∨ c.toNat = 51 ∨ c.toNat = 52 ∨ c.toNat = 53 ∨ c.toNat = 54 ∨ c.toNat = 55 ∨ c.toNat = 56 ∨ c.toNat = 57 := by omega
  have e : c = UInt8.ofNat c.toNat := by simp
  rcases this with g | g | g | g | g | g | g | g | g | g <;> (rw [e, g]; decide)
theorem of_digs {c : UInt8} (h : digs.contains c = true) : 48 ≤ c.toNat ∧ c.toNat ≤ 57 := by
  simp [digs] at h
  rcases h with rfl | rfl | rfl | rfl | rfl | rfl | rfl | rfl | rfl | rfl <;> decide
theorem pad_all (k u : Nat) : AllDig (Dtx.pad k u) := fun c hc => by
  unfold Dtx.pad at hc
  rcases List.mem_append.1 hc with hc | hc
  · rw [(List.mem_replicate.1 hc).2]; decide
  · exact digits_all u c hc
theorem decOf_text (c s : Int) (h : okD c s) : decOfP (decText c s) = some (c, s) := by
  obtain ⟨e1, e2⟩ := bare_text c s h
  obtain ⟨s0, s9, c0, c1⟩ := h
  have hm : mag c = (c.natAbs : Int) := mag_abs c
  unfold decOfP
  rw [e1, e2]
  unfold magT
  by_cases hs : s ≤ 0
  · rw [if_pos hs, split_none (no_point (digits_all _)), hm, Int.toNat_natCast]
    dsimp only
    rw [numP_dec _ (by omega), if_neg (by omega)]
    have : s = 0 := by omega
    subst this
    congr 2
    by_cases hc : c < 0
    · simp [hc]; omega
    · simp [hc]; omega
  · rw [if_neg hs, split_cons _ (no_point (digits_all _)), split_none (no_point (pad_all _ _))]
    obtain ⟨k, rfl⟩ : ∃ k : Nat, s = (k : Int) := ⟨s.toNat, by omega⟩
    rw [Int.toNat_natCast, hm, P10_pow k (by omega), ← Int.natCast_ediv, ← Int.natCast_emod, Int.toNat_natCast, Int.toNat_natCast]
    dsimp only
    have hp : 0 < 10 ^ k := Nat.pow_pos (by omega)
    have l := pad_len (k := k) (u := c.natAbs % 10 ^ k) (by omega) (Nat.mod_lt _ hp)
    have q1 : c.natAbs / 10 ^ k ≤ c.natAbs := Nat.div_le_self _ _
    have q2 : c.natAbs / 10 ^ k ≤ 1000000000000000 / 10 ^ k := Nat.div_le_div_right (by omega)
    rw [numP_dec _ (by omega), if_neg (Int.not_lt.2 (Int.natCast_nonneg _)), l, P10_pow k (by omega), if_pos ⟨List.all_eq_true.2 fun c hc => digs_of (pad_all _ _ c hc), by omega, by omega, by
      rw [show (1000000000000000 : Int) = ((1000000000000000 : Nat) : Int) by rfl, ← Int.natCast_ediv]; exact Int.ofNat_le.2 q2⟩, Int.toNat_natCast, foldD_pow, l, foldD_pad]
    have e3 : c.natAbs / 10 ^ k * 10 ^ k + c.natAbs % 10 ^ k = c.natAbs := by rw [Nat.mul_comm]; exact Nat.div_add_mod _ _
    rw [e3]
    congr 2
    by_cases hc : c < 0
    · rw [if_pos (by simpa using hc)]; omega
    · rw [if_neg (by simpa using hc)]; omega
/-- what linguisterref1.DecOf tells: a number whose text it is, or none -/
theorem decOf_iff (t : List UInt8) : (∃ c s, decOfP t = some (c, s) ∧ okD c s ∧ decText c s = t) ∨ ((∀ c s, decOfP t = some (c, s) → ¬ (okD c s ∧ decText c s = t)) ∧ ∀ c s, okD c s → decText c s ≠ t) := by
  by_cases h : ∃ c s, decOfP t = some (c, s) ∧ okD c s ∧ decText c s = t
  · exact .inl h
  · exact .inr ⟨fun c s e g => h ⟨c, s, e, g⟩, fun c s hk e => h ⟨c, s, by rw [← e]; exact decOf_text c s hk, hk, e⟩⟩
end Byt
namespace Go.Proofs.YtaijjffnamjhiaaGreatDoor
open Go.RowKit Go.Lib

set_option maxRecDepth 100000 in
set_option maxHeartbeats 1000000 in
theorem digits_lead (l : Int) (D : List UInt8) (l0 : 0 ≤ l) (l1 : l ≤ 1000) (hD : D.length ≤ 1000) (k : Nat) (hk : k ≤ l.toNat - D.length) (h : ¬ ((k : Int) + D.length < l)) : List.replicate k 48 ++ D = List.replicate (l.toNat - D.length) 48 ++ D := by
  rw [show k = l.toNat - D.length by omega]

set_option maxRecDepth 100000 in
set_option maxHeartbeats 1000000 in
theorem digits_by (k : Nat) : ∀ (n l : Int) (w : World), n.toNat < k → 0 ≤ n → n ≤ 9223372036854775807 → 0 ≤ l → l ≤ 1000 →
    Calls Tryz.prog 108 #[.int .i64 n, .int .i64 l] w fun e w' => e = .returned (.string ⟨(Dtx.pad l.toNat n.toNat).toArray⟩) ∧ Below w.heap.size w w' := by
  induction k with
  | zero => intro n l w hk; omega
  | succ k ih =>
    intro n l w hk n0 n1 l0 l1
    have hd20 : (decDigits n.toNat).length ≤ 20 := by rw [decDigits_length]; exact nDigits_le20 _ (by omega)
    have CV := conv_one (P := Tryz.prog) 140 9 5 Tryz.underlying140 Tryz.underlying5 Tryz.underlying9 (48 + n % 10) w (by omega) (by omega)
    have G := Lib.hid (show Dtx.pad l.toNat n.toNat = List.replicate (l.toNat - (decDigits n.toNat).length) 48 ++ decDigits n.toNat from rfl)
    generalize hg : Dtx.pad l.toNat n.toNat = R at *
    clear hg
    by_cases h10 : n < 10
    · have e : [UInt8.ofNat (48 + n % 10).toNat] = decDigits n.toNat := by rw [decDigits_one (by omega)]; congr 2; omega
      rw [e] at CV
      clear e
      generalize decDigits n.toNat = D at *
      go_enter Tryz.func108, Tryz.ntmps108
      go_wp2_with fail
      clear CV
      have B := Lib.hid (blw_alloc w (.cells #[.int .u8 (48 + n % 10)] 5))
      generalize w.alloc (.cells #[.int .u8 (48 + n % 10)] 5) = w1 at *
      go_loop [5] (fun s => ∃ k : Nat, k ≤ l.toNat - D.length ∧ s = .string ⟨(List.replicate k 48 ++ D).toArray⟩) (fun s => l.toNat - strLen s)
      case atStart => exact ⟨0, Nat.zero_le _, by simp⟩
      case round =>
        obtain ⟨k, hk, rfl⟩ := hrel
        by_cases hlt : (k : Int) + D.length < l
        · have AD := fun w => add_str (P := Tryz.prog) [48] (List.replicate k 48 ++ D) (by simp; omega) w
          have K1 := Lib.hid (show k + 1 ≤ l.toNat - D.length ∧ l.toNat - (k + 1 + D.length) < l.toNat - (k + D.length) by omega)
          go_wp2_with fail
          go_round
          case rel => exact ⟨k + 1, K1.out.1, by simp [List.replicate_succ]⟩
          case measure => rw [strLen_mk, strLen_mk]; have := K1.out.2; simp; omega
        · have E := Lib.hid (digits_lead l D l0 l1 (by omega) k hk hlt)
          go_wp2_with fail
          go_ret
          exact ⟨ret_str (by rw [G.out, E.out]), B.out⟩
    · have e : decDigits n.toNat = decDigits (n / 10).toNat ++ [UInt8.ofNat (48 + n % 10).toNat] := by
        rw [Dtx.dd2 (by omega)]
        congr 2
        · congr 1; omega
        · congr 2; omega
      have C : Hid (∀ w, Calls Tryz.prog 108 #[.int .i64 (n / 10), .int .i64 0] w fun e w' => e = .returned (.string ⟨(decDigits (n / 10).toNat).toArray⟩) ∧ Below w.heap.size w w') := by
        refine Lib.hid fun w => ?_
        have c := ih (n / 10) 0 w (by omega) (by omega) (by omega) (by omega) (by omega)
        have z : Dtx.pad (0 : Int).toNat (n / 10).toNat = decDigits (n / 10).toNat := by unfold Dtx.pad; simp
        rw [z] at c
        exact c
      have hl : (decDigits (n / 10).toNat).length + 1 = (decDigits n.toNat).length := by rw [e]; simp
      have AD := fun w => add_str (P := Tryz.prog) (decDigits (n / 10).toNat) [UInt8.ofNat (48 + n % 10).toNat] (by simp; omega) w
      rw [← e] at AD
      clear e ih
      generalize decDigits n.toNat = D at *
      generalize decDigits (n / 10).toNat = D0 at *
      go_enter Tryz.func108, Tryz.ntmps108
      go_wp2_with fail
      clear CV
      have B := Lib.hid (blw_alloc w (.cells #[.int .u8 (48 + n % 10)] 5))
      refine (C.out _).mono ?_
      rintro e w1 ⟨rfl, hb⟩
      have B1 := Lib.hid (blw_trans B.out hb)
      clear hb B
      go_wp2_with fail
      clear AD
      go_loop [5] (fun s => ∃ k : Nat, k ≤ l.toNat - D.length ∧ s = .string ⟨(List.replicate k 48 ++ D).toArray⟩) (fun s => l.toNat - strLen s)
      case atStart => exact ⟨0, Nat.zero_le _, by simp⟩
      case round =>
        obtain ⟨k, hk, rfl⟩ := hrel
        by_cases hlt : (k : Int) + D.length < l
        · have AD := fun w => add_str (P := Tryz.prog) [48] (List.replicate k 48 ++ D) (by simp; omega) w
          have K1 := Lib.hid (show k + 1 ≤ l.toNat - D.length ∧ l.toNat - (k + 1 + D.length) < l.toNat - (k + D.length) by omega)
          go_wp2_with fail
          go_round
          case rel => exact ⟨k + 1, K1.out.1, by simp [List.replicate_succ]⟩
          case measure => rw [strLen_mk, strLen_mk]; have := K1.out.2; simp; omega
        · have E := Lib.hid (digits_lead l D l0 l1 (by omega) k hk hlt)
          go_wp2_with fail
          go_ret
          exact ⟨ret_str (by rw [G.out, E.out]), B1.out⟩
theorem digits_any (n l : Int) (w : World) (n0 : 0 ≤ n) (n1 : n ≤ 9223372036854775807) (l0 : 0 ≤ l) (l1 : l ≤ 1000) :
    Calls Tryz.prog 108 #[.int .i64 n, .int .i64 l] w fun e w' => e = .returned (.string ⟨(Dtx.pad l.toNat n.toNat).toArray⟩) ∧ Below w.heap.size w w' :=
  digits_by (n.toNat + 1) n l w (by omega) n0 n1 l0 l1
theorem digits_none (n : Int) (w : World) (n0 : 0 ≤ n) (n1 : n ≤ 9223372036854775807) :
    Calls Tryz.prog 108 #[.int .i64 n, .int .i64 0] w fun e w' => e = .returned (.string ⟨(decDigits n.toNat).toArray⟩) ∧ Below w.heap.size w w' := by
  have c := digits_any n 0 w n0 n1 (by omega) (by omega)
  have z : Dtx.pad (0 : Int).toNat n.toNat = decDigits n.toNat := by unfold Dtx.pad; simp
  rw [z] at c
  exact c
end Go.Proofs.YtaijjffnamjhiaaGreatDoor
namespace Go.Proofs.YtaijjffnamjhiaaGreatDoor
open Go.RowKit
open Dcm (P10 okD nrm)

set_option maxHeartbeats 400000 in
theorem ten_any (n : Int) (w : World) (h0 : 0 ≤ n) (h1 : n ≤ 9) :
    Calls Tryz.prog 121 #[.int .i64 n] w fun e w' => e = .returned (.int .i64 (P10 n)) ∧ w = w' := by
  go_enter Tryz.func121, Tryz.ntmps121
  go_wp2
  go_loop [3, 4] (fun t i => ∃ k : Int, 0 ≤ k ∧ k ≤ n ∧ i = .int .i64 k ∧ t = .int .i64 (P10 k)) (fun _ i => (n - intOf i).toNat)
  case atStart => exact ⟨0, by omega, by omega, rfl, rfl⟩
  case round =>
    obtain ⟨k, k0, k1, rfl, rfl⟩ := hrel
    have hb := Dcm.P10_bd k
    by_cases hlt : k < n
    · have hs := Lib.hid (Dcm.P10_succ k k0 (by omega))
      go_wp2
      go_round
      case rel => exact ⟨k + 1, by omega, by omega, by go_num, by rw [hs.out]⟩
      case measure => simp [intOf]; omega
    · obtain rfl : k = n := by omega
      go_wp2
      go_ret
      exact ⟨rfl, rfl⟩
set_option maxHeartbeats 400000 in
theorem size_any (n : Int) (w : World) (h0 : -9223372036854775807 ≤ n) (h1 : n ≤ 9223372036854775807) :
    Calls Tryz.prog 97 #[.int .i64 n] w fun e w' => e = .returned (.int .i64 (Dcm.mag n)) ∧ w = w' := by
  by_cases h : n < 0
  · have e : Dcm.mag n = -n := by unfold Dcm.mag; rw [if_pos h]
    have E := Lib.hid e
    clear e
    go_enter Tryz.func97, Tryz.ntmps97
    go_wp2
    go_ret
    exact ⟨ret_int (by rw [E.out]), rfl⟩
  · have e : Dcm.mag n = n := by unfold Dcm.mag; rw [if_neg h]
    have E := Lib.hid e
    clear e
    go_enter Tryz.func97, Tryz.ntmps97
    go_wp2
    go_ret
    exact ⟨ret_int (by rw [E.out]), rfl⟩

end Go.Proofs.YtaijjffnamjhiaaGreatDoor
namespace Go.Proofs.YtaijjffnamjhiaaGreatDoor
open Go.RowKit
open Dcm (P10 okD mag)

theorem ten_bel (n : Int) (w : World) (h0 : 0 ≤ n) (h1 : n ≤ 9) : Calls Tryz.prog 121 #[.int .i64 n] w fun e w' => e = .returned (.int .i64 (P10 n)) ∧ Below w.heap.size w w' :=
  (ten_any n w h0 h1).mono fun _ _ h => ⟨h.1, by rw [← h.2]; exact Below.refl _ _⟩

set_option maxRecDepth 100000 in
set_option maxHeartbeats 2000000 in
theorem rdect_whole (c s : Int) (w : World) (h : okD c s) (hs : s = 0) (g : List UInt8) (hg : Byt.sgn c = g) (hcg : (c < 0 ∧ g = [45]) ∨ (¬ c < 0 ∧ g = [])) :
    Calls Tryz.prog 96 #[.agg #[.int .i64 c, .int .i64 s]] w fun e w' => e = .returned (.string ⟨(Byt.decText c s).toArray⟩) ∧ Below w.heap.size w w' := by
  have e2 := Byt.decText_two c s h
  have dl := Byt.dec_len c s h
  obtain ⟨s0, s9, c0, c1⟩ := h
  have hm : 0 ≤ mag c ∧ mag c ≤ 1000000000000000 := by unfold mag; split <;> omega
  have hP := Dcm.P10_bd s
  have q0 : 0 ≤ mag c / P10 s := Int.ediv_nonneg hm.1 (by omega)
  have q1 : mag c / P10 s ≤ mag c := Int.ediv_le_self _ hm.1
  subst hs
  have ew : Byt.magT (mag c) 0 = Lib.decDigits (mag c / P10 0).toNat := by
    rw [show mag c / P10 0 = mag c from Int.ediv_one _]; exact if_pos (Int.le_refl 0)
  rw [hg, ew] at e2
  have CD := Lib.hid fun w => digits_none (mag c / P10 0) w q0 (by omega)
  generalize Lib.decDigits (mag c / P10 0).toNat = M at *
  have HX := Lib.hid e2
  rw [e2, List.length_append] at dl
  have AD : ∀ w, (Op.stringOp .add ⟨#[45]⟩ ⟨M.toArray⟩).run Tryz.prog w = .ok (.string ⟨([45] ++ M).toArray⟩) w := fun w => add_str (P := Tryz.prog) [45] M (by simp; omega) w
  generalize Byt.decText c 0 = X at *
  clear e2 ew hg dl
  obtain ⟨Y, hY⟩ : ∃ Y, [45] ++ M = Y := ⟨_, rfl⟩
  rw [hY] at AD
  have HY := Lib.hid hY
  clear hY
  rcases hcg with ⟨hc, rfl⟩ | ⟨hc, rfl⟩
  · have dc : decide (c < 0) = true := dec_yes hc
    go_enter Tryz.func96, Tryz.ntmps96
    go_wp2_with fail
    refine (size_any _ _ (by omega) (by omega)).mono ?_
    rintro e w' ⟨rfl, rfl⟩
    go_wp2_with fail
    refine (ten_any _ _ (by omega) (by omega)).mono ?_
    rintro e w' ⟨rfl, rfl⟩
    go_wp2_with fail
    refine (CD.out _).mono ?_
    rintro e w1 ⟨rfl, hb⟩
    have B1_d := Boxed.below (Boxed.made _ #[.int .i64 c, .int .i64 0] 37) hb
    have W1 := Lib.hid (blw_trans (blw_trans (Below.refl w.heap.size w) (blw_alloc _ _)) hb)
    clear hb 
    have kd0 := B1_d.cell 0 _ rfl
    have kd1 := B1_d.cell 1 _ rfl
    have kdl := B1_d.lt
    try simp at kd0 kd1 kdl
    go_wp2_with fail
    go_ret
    exact ⟨ret_str (by rw [HX.out, HY.out]), W1.out⟩
  · have dc : decide (c < 0) = false := dec_no hc
    go_enter Tryz.func96, Tryz.ntmps96
    go_wp2_with fail
    refine (size_any _ _ (by omega) (by omega)).mono ?_
    rintro e w' ⟨rfl, rfl⟩
    go_wp2_with fail
    refine (ten_any _ _ (by omega) (by omega)).mono ?_
    rintro e w' ⟨rfl, rfl⟩
    go_wp2_with fail
    refine (CD.out _).mono ?_
    rintro e w1 ⟨rfl, hb⟩
    have B1_d := Boxed.below (Boxed.made _ #[.int .i64 c, .int .i64 0] 37) hb
    have W1 := Lib.hid (blw_trans (blw_trans (Below.refl w.heap.size w) (blw_alloc _ _)) hb)
    clear hb 
    have kd0 := B1_d.cell 0 _ rfl
    have kd1 := B1_d.cell 1 _ rfl
    have kdl := B1_d.lt
    try simp at kd0 kd1 kdl
    go_wp2_with fail
    go_ret
    exact ⟨ret_str (by rw [HX.out, List.nil_append]), W1.out⟩

set_option maxRecDepth 100000 in
set_option maxHeartbeats 2000000 in
theorem rdect_point (c s : Int) (w : World) (h : okD c s) (hs : 0 < s) (g : List UInt8) (hg : Byt.sgn c = g) (hcg : (c < 0 ∧ g = [45]) ∨ (¬ c < 0 ∧ g = [])) :
    Calls Tryz.prog 96 #[.agg #[.int .i64 c, .int .i64 s]] w fun e w' => e = .returned (.string ⟨(Byt.decText c s).toArray⟩) ∧ Below w.heap.size w w' := by
  have e2 := Byt.decText_two c s h
  have dl := Byt.dec_len c s h
  obtain ⟨s0, s9, c0, c1⟩ := h
  have hm : 0 ≤ mag c ∧ mag c ≤ 1000000000000000 := by unfold mag; split <;> omega
  have hP := Dcm.P10_bd s
  have q0 : 0 ≤ mag c / P10 s := Int.ediv_nonneg hm.1 (by omega)
  have q1 : mag c / P10 s ≤ mag c := Int.ediv_le_self _ hm.1
  have r0 : 0 ≤ mag c % P10 s := Int.emod_nonneg _ (by omega)
  have r1 : mag c % P10 s < P10 s := Int.emod_lt_of_pos _ (by omega)
  have ew : Byt.magT (mag c) s = Lib.decDigits (mag c / P10 s).toNat ++ 46 :: Dtx.pad s.toNat (mag c % P10 s).toNat := if_neg (by omega)
  rw [hg, ew] at e2
  have CD := Lib.hid fun w => digits_none (mag c / P10 s) w q0 (by omega)
  have CP := Lib.hid fun w => digits_any (mag c % P10 s) s w r0 (by omega) s0 (by omega)
  generalize Lib.decDigits (mag c / P10 s).toNat = D at *
  generalize Dtx.pad s.toNat (mag c % P10 s).toNat = P at *
  have HX := Lib.hid e2
  rw [e2, List.length_append, List.length_append, List.length_cons] at dl
  generalize Byt.decText c s = X at *
  obtain ⟨X1, hX1⟩ : ∃ Y, D ++ [46] = Y := ⟨_, rfl⟩
  obtain ⟨M, hM⟩ : ∃ Y, X1 ++ P = Y := ⟨_, rfl⟩
  have lX : X1.length = D.length + 1 := by rw [← hX1]; simp
  have lM : M.length = D.length + 1 + P.length := by rw [← hM, List.length_append, lX]
  have A1 : ∀ w, (Op.stringOp .add ⟨D.toArray⟩ ⟨#[46]⟩).run Tryz.prog w = .ok (.string ⟨X1.toArray⟩) w := fun w => by rw [← hX1]; exact add_str (P := Tryz.prog) D [46] (by simp; omega) w
  have A2 : ∀ w, (Op.stringOp .add ⟨X1.toArray⟩ ⟨P.toArray⟩).run Tryz.prog w = .ok (.string ⟨M.toArray⟩) w := fun w => by rw [← hM]; exact add_str (P := Tryz.prog) X1 P (by omega) w
  obtain ⟨Y, hY⟩ : ∃ Y, [45] ++ M = Y := ⟨_, rfl⟩
  have AD : ∀ w, (Op.stringOp .add ⟨#[45]⟩ ⟨M.toArray⟩).run Tryz.prog w = .ok (.string ⟨Y.toArray⟩) w := fun w => by rw [← hY]; exact add_str (P := Tryz.prog) [45] M (by simp; omega) w
  have HY := Lib.hid hY
  have HMM := Lib.hid (show D ++ 46 :: P = M by rw [← hM, ← hX1]; simp)
  have d0 : decide (0 < s) = true := dec_yes hs
  have pn : P10 s ≠ 0 := by omega
  have tm : (mag c).tmod (P10 s) = mag c % P10 s := Int.tmod_eq_emod_of_nonneg hm.1
  clear e2 ew hg dl hX1 hM hY lX lM
  obtain ⟨m0, m1⟩ := hm
  rcases hcg with ⟨hc, rfl⟩ | ⟨hc, rfl⟩
  · have dc : decide (c < 0) = true := dec_yes hc
    go_enter Tryz.func96, Tryz.ntmps96
    go_wp2_with fail
    refine (size_any _ _ (by omega) (by omega)).mono ?_
    rintro e w' ⟨rfl, rfl⟩
    go_wp2_with fail
    refine (ten_any _ _ (by omega) (by omega)).mono ?_
    rintro e w' ⟨rfl, rfl⟩
    go_wp2_with fail
    refine (CD.out _).mono ?_
    rintro e w1 ⟨rfl, hb⟩
    have B1_d := Boxed.below (Boxed.made _ #[.int .i64 c, .int .i64 s] 37) hb
    have W1 := Lib.hid (blw_trans (blw_trans (Below.refl w.heap.size w) (blw_alloc _ _)) hb)
    clear hb 
    have kd0 := B1_d.cell 0 _ rfl
    have kd1 := B1_d.cell 1 _ rfl
    have kdl := B1_d.lt
    try simp at kd0 kd1 kdl
    go_wp2_with fail
    refine wp_region_held_drew (S := fun w' => w'.cell? ⟨w.heap.size, 0, none⟩ = some (.int .i64 c) ∧ w'.cell? ⟨w.heap.size, 1, none⟩ = some (.int .i64 s) ∧ Hid (Below w.heap.size w w')) (by kernel_rfl) (by exact ⟨by simpa using kd0, by simpa using kd1, Lib.hid (blw_drewN W1.out 1)⟩) (fun hHeld => ?_)
    refine take_run (d := (some 17)) (v := ?v1) 0 rfl rfl (by kernel_rfl) (by kernel_rfl) (by kernel_rfl) (fun _ _ _ h => h) (by rfl) hHeld ?hy1 ?rs1
    case hy1 => (intro w hSw; (try dsimp only at hSw); go_simp) <;> (try with_reducible rfl)
    (try simp only [Act.put, List.setIfInBounds_toArray, List.set_cons_zero, List.set_cons_succ])
    refine take_run (d := (some 18)) (v := ?v2) 1 rfl rfl (by kernel_rfl) (by kernel_rfl) (by kernel_rfl) (fun _ _ _ h => h) (by rfl) hHeld ?hy2 ?rs2
    case hy2 => (intro w hSw; (try dsimp only at hSw); go_simp) <;> (try with_reducible rfl)
    (try simp only [Act.put, List.setIfInBounds_toArray, List.set_cons_zero, List.set_cons_succ])
    refine take_run (d := (some 19)) (v := ?v3) 2 rfl rfl (by kernel_rfl) (by kernel_rfl) (by kernel_rfl) (fun _ _ _ h => h) (by rfl) hHeld ?hy3 ?rs3
    case hy3 => (intro w hSw; (try dsimp only at hSw); go_simp) <;> (try with_reducible rfl)
    (try simp only [Act.put, List.setIfInBounds_toArray, List.set_cons_zero, List.set_cons_succ])
    refine take_run (d := (some 20)) (v := ?v4) 3 rfl rfl (by kernel_rfl) (by kernel_rfl) (by kernel_rfl) (fun _ _ _ h => h) (by rfl) hHeld ?hy4 ?rs4
    case hy4 => (intro w hSw; (try dsimp only at hSw); go_simp) <;> (try with_reducible rfl)
    (try simp only [Act.put, List.setIfInBounds_toArray, List.set_cons_zero, List.set_cons_succ])
    refine take_run (d := (some 21)) (v := ?v5) 4 rfl rfl (by kernel_rfl) (by kernel_rfl) (by kernel_rfl) (fun _ _ _ h => h) (by rfl) hHeld ?hy5 ?rs5
    case hy5 => (intro w hSw; (try dsimp only at hSw); go_simp) <;> (try with_reducible rfl)
    (try simp only [Act.put, List.setIfInBounds_toArray, List.set_cons_zero, List.set_cons_succ])
    refine take_run (d := (some 24)) (v := ?v6) 7 rfl rfl (by kernel_rfl) (by kernel_rfl) (by kernel_rfl) (fun _ _ _ h => h) (by rfl) hHeld ?hy6 ?rs6
    case hy6 => (intro w hSw; (try dsimp only at hSw); go_simp) <;> (try with_reducible rfl)
    (try simp only [Act.put, List.setIfInBounds_toArray, List.set_cons_zero, List.set_cons_succ])
    refine take_run (d := (some 25)) (v := ?v7) 8 rfl rfl (by kernel_rfl) (by kernel_rfl) (by kernel_rfl) (fun _ _ _ h => h) (by rfl) hHeld ?hy7 ?rs7
    case hy7 => (intro w hSw; (try dsimp only at hSw); go_simp) <;> (try with_reducible rfl)
    (try simp only [Act.put, List.setIfInBounds_toArray, List.set_cons_zero, List.set_cons_succ])
    refine take_call 5 rfl (by kernel_rfl) (by rfl) (fun K hK => ?_)
    go_simp
    refine (ten_bel _ _ (by omega) (by omega)).mono ?_
    rintro e w' ⟨rfl, hb⟩
    refine hK.out _ _ (by obtain ⟨h0, h1, hw⟩ := hHeld; exact ⟨cell_keep h0 hb, cell_keep h1 hb, Lib.hid (blw_trans hw.out hb)⟩) (fun hHeld => ?_)
    clear hK K
    (try simp only [Act.put, List.setIfInBounds_toArray, List.set_cons_zero, List.set_cons_succ])
    refine take_run (d := (some 23)) (v := ?v9) 6 rfl rfl (by kernel_rfl) (by kernel_rfl) (by kernel_rfl) (fun _ _ _ h => h) (by rfl) hHeld ?hy9 ?rs9
    case hy9 => (intro w hSw; (try dsimp only at hSw); go_simp) <;> (try with_reducible rfl)
    (try simp only [Act.put, List.setIfInBounds_toArray, List.set_cons_zero, List.set_cons_succ])
    refine take_call 9 rfl (by kernel_rfl) (by rfl) (fun K hK => ?_)
    go_simp
    refine (CP.out _).mono ?_
    rintro e w' ⟨rfl, hb⟩
    refine hK.out _ _ (by obtain ⟨h0, h1, hw⟩ := hHeld; exact ⟨cell_keep h0 hb, cell_keep h1 hb, Lib.hid (blw_trans hw.out hb)⟩) (fun hHeld => ?_)
    clear hK K
    (try simp only [Act.put, List.setIfInBounds_toArray, List.set_cons_zero, List.set_cons_succ])
    refine take_run (d := (some 27)) (v := ?v11) 10 rfl rfl (by kernel_rfl) (by kernel_rfl) (by kernel_rfl) (fun _ _ _ h => h) (by rfl) hHeld ?hy11 ?rs11
    case hy11 => (intro w hSw; (try dsimp only at hSw); go_simp) <;> (try with_reducible rfl)
    (try simp only [Act.put, List.setIfInBounds_toArray, List.set_cons_zero, List.set_cons_succ])
    refine take_run (d := (some 4)) (v := ?v12) 11 rfl rfl (by kernel_rfl) (by kernel_rfl) (by kernel_rfl) (fun _ _ _ h => h) (by rfl) hHeld ?hy12 ?rs12
    case hy12 => (intro w hSw; (try dsimp only at hSw); go_simp) <;> (try with_reducible rfl)
    (try simp only [Act.put, List.setIfInBounds_toArray, List.set_cons_zero, List.set_cons_succ])
    refine wpAnyH_done (by kernel_rfl) ?_ _
    obtain ⟨z0, z1, zW⟩ := hHeld
    clear kd0 kd1 kdl W1 B1_d
    go_wp2_with fail
    go_ret
    exact ⟨ret_str (by rw [HX.out, HMM.out, HY.out]), zW.out⟩
  · have dc : decide (c < 0) = false := dec_no hc
    go_enter Tryz.func96, Tryz.ntmps96
    go_wp2_with fail
    refine (size_any _ _ (by omega) (by omega)).mono ?_
    rintro e w' ⟨rfl, rfl⟩
    go_wp2_with fail
    refine (ten_any _ _ (by omega) (by omega)).mono ?_
    rintro e w' ⟨rfl, rfl⟩
    go_wp2_with fail
    refine (CD.out _).mono ?_
    rintro e w1 ⟨rfl, hb⟩
    have B1_d := Boxed.below (Boxed.made _ #[.int .i64 c, .int .i64 s] 37) hb
    have W1 := Lib.hid (blw_trans (blw_trans (Below.refl w.heap.size w) (blw_alloc _ _)) hb)
    clear hb 
    have kd0 := B1_d.cell 0 _ rfl
    have kd1 := B1_d.cell 1 _ rfl
    have kdl := B1_d.lt
    try simp at kd0 kd1 kdl
    go_wp2_with fail
    refine wp_region_held_drew (S := fun w' => w'.cell? ⟨w.heap.size, 0, none⟩ = some (.int .i64 c) ∧ w'.cell? ⟨w.heap.size, 1, none⟩ = some (.int .i64 s) ∧ Hid (Below w.heap.size w w')) (by kernel_rfl) (by exact ⟨by simpa using kd0, by simpa using kd1, Lib.hid (blw_drewN W1.out 1)⟩) (fun hHeld => ?_)
    refine take_run (d := (some 17)) (v := ?v13) 0 rfl rfl (by kernel_rfl) (by kernel_rfl) (by kernel_rfl) (fun _ _ _ h => h) (by rfl) hHeld ?hy13 ?rs13
    case hy13 => (intro w hSw; (try dsimp only at hSw); go_simp) <;> (try with_reducible rfl)
    (try simp only [Act.put, List.setIfInBounds_toArray, List.set_cons_zero, List.set_cons_succ])
    refine take_run (d := (some 18)) (v := ?v14) 1 rfl rfl (by kernel_rfl) (by kernel_rfl) (by kernel_rfl) (fun _ _ _ h => h) (by rfl) hHeld ?hy14 ?rs14
    case hy14 => (intro w hSw; (try dsimp only at hSw); go_simp) <;> (try with_reducible rfl)
    (try simp only [Act.put, List.setIfInBounds_toArray, List.set_cons_zero, List.set_cons_succ])
    refine take_run (d := (some 19)) (v := ?v15) 2 rfl rfl (by kernel_rfl) (by kernel_rfl) (by kernel_rfl) (fun _ _ _ h => h) (by rfl) hHeld ?hy15 ?rs15
    case hy15 => (intro w hSw; (try dsimp only at hSw); go_simp) <;> (try with_reducible rfl)
    (try simp only [Act.put, List.setIfInBounds_toArray, List.set_cons_zero, List.set_cons_succ])
    refine take_run (d := (some 20)) (v := ?v16) 3 rfl rfl (by kernel_rfl) (by kernel_rfl) (by kernel_rfl) (fun _ _ _ h => h) (by rfl) hHeld ?hy16 ?rs16
    case hy16 => (intro w hSw; (try dsimp only at hSw); go_simp) <;> (try with_reducible rfl)
    (try simp only [Act.put, List.setIfInBounds_toArray, List.set_cons_zero, List.set_cons_succ])
    refine take_run (d := (some 21)) (v := ?v17) 4 rfl rfl (by kernel_rfl) (by kernel_rfl) (by kernel_rfl) (fun _ _ _ h => h) (by rfl) hHeld ?hy17 ?rs17
    case hy17 => (intro w hSw; (try dsimp only at hSw); go_simp) <;> (try with_reducible rfl)
    (try simp only [Act.put, List.setIfInBounds_toArray, List.set_cons_zero, List.set_cons_succ])
    refine take_run (d := (some 24)) (v := ?v18) 7 rfl rfl (by kernel_rfl) (by kernel_rfl) (by kernel_rfl) (fun _ _ _ h => h) (by rfl) hHeld ?hy18 ?rs18
    case hy18 => (intro w hSw; (try dsimp only at hSw); go_simp) <;> (try with_reducible rfl)
    (try simp only [Act.put, List.setIfInBounds_toArray, List.set_cons_zero, List.set_cons_succ])
    refine take_run (d := (some 25)) (v := ?v19) 8 rfl rfl (by kernel_rfl) (by kernel_rfl) (by kernel_rfl) (fun _ _ _ h => h) (by rfl) hHeld ?hy19 ?rs19
    case hy19 => (intro w hSw; (try dsimp only at hSw); go_simp) <;> (try with_reducible rfl)
    (try simp only [Act.put, List.setIfInBounds_toArray, List.set_cons_zero, List.set_cons_succ])
    refine take_call 5 rfl (by kernel_rfl) (by rfl) (fun K hK => ?_)
    go_simp
    refine (ten_bel _ _ (by omega) (by omega)).mono ?_
    rintro e w' ⟨rfl, hb⟩
    refine hK.out _ _ (by obtain ⟨h0, h1, hw⟩ := hHeld; exact ⟨cell_keep h0 hb, cell_keep h1 hb, Lib.hid (blw_trans hw.out hb)⟩) (fun hHeld => ?_)
    clear hK K
    (try simp only [Act.put, List.setIfInBounds_toArray, List.set_cons_zero, List.set_cons_succ])
    refine take_run (d := (some 23)) (v := ?v21) 6 rfl rfl (by kernel_rfl) (by kernel_rfl) (by kernel_rfl) (fun _ _ _ h => h) (by rfl) hHeld ?hy21 ?rs21
    case hy21 => (intro w hSw; (try dsimp only at hSw); go_simp) <;> (try with_reducible rfl)
    (try simp only [Act.put, List.setIfInBounds_toArray, List.set_cons_zero, List.set_cons_succ])
    refine take_call 9 rfl (by kernel_rfl) (by rfl) (fun K hK => ?_)
    go_simp
    refine (CP.out _).mono ?_
    rintro e w' ⟨rfl, hb⟩
    refine hK.out _ _ (by obtain ⟨h0, h1, hw⟩ := hHeld; exact ⟨cell_keep h0 hb, cell_keep h1 hb, Lib.hid (blw_trans hw.out hb)⟩) (fun hHeld => ?_)
    clear hK K
    (try simp only [Act.put, List.setIfInBounds_toArray, List.set_cons_zero, List.set_cons_succ])
    refine take_run (d := (some 27)) (v := ?v23) 10 rfl rfl (by kernel_rfl) (by kernel_rfl) (by kernel_rfl) (fun _ _ _ h => h) (by rfl) hHeld ?hy23 ?rs23
    case hy23 => (intro w hSw; (try dsimp only at hSw); go_simp) <;> (try with_reducible rfl)
    (try simp only [Act.put, List.setIfInBounds_toArray, List.set_cons_zero, List.set_cons_succ])
    refine take_run (d := (some 4)) (v := ?v24) 11 rfl rfl (by kernel_rfl) (by kernel_rfl) (by kernel_rfl) (fun _ _ _ h => h) (by rfl) hHeld ?hy24 ?rs24
    case hy24 => (intro w hSw; (try dsimp only at hSw); go_simp) <;> (try with_reducible rfl)
    (try simp only [Act.put, List.setIfInBounds_toArray, List.set_cons_zero, List.set_cons_succ])
    refine wpAnyH_done (by kernel_rfl) ?_ _
    obtain ⟨z0, z1, zW⟩ := hHeld
    clear kd0 kd1 kdl W1 B1_d
    go_wp2_with fail
    go_ret
    exact ⟨ret_str (by rw [HX.out, HMM.out, List.nil_append]), zW.out⟩

theorem rdect_any (c s : Int) (w : World) (h : okD c s) : Calls Tryz.prog 96 #[.agg #[.int .i64 c, .int .i64 s]] w fun e w' => e = .returned (.string ⟨(Byt.decText c s).toArray⟩) ∧ Below w.heap.size w w' := by
  have hcg : (c < 0 ∧ Byt.sgn c = [45]) ∨ (¬ c < 0 ∧ Byt.sgn c = []) := by
    by_cases hc : c < 0
    · exact .inl ⟨hc, if_pos hc⟩
    · exact .inr ⟨hc, if_neg hc⟩
  by_cases hs : s = 0
  · exact rdect_whole c s w h hs _ rfl hcg
  · exact rdect_point c s w h (by have := h.1; omega) _ rfl hcg
end Go.Proofs.YtaijjffnamjhiaaGreatDoor
namespace Go.Proofs.YtaijjffnamjhiaaGreatDoor.Dcm

/-- the greatest whole number that is no greater -/
def flo (c s : Int) : Int := c / P10 s
/-- what is left of a number behind that -/
def lef (c s : Int) : Int := c % P10 s
theorem flo_lef (c s : Int) : c = flo c s * P10 s + lef c s := by
  have := Int.emod_add_mul_ediv c (P10 s)
  unfold flo lef
  rw [Int.mul_comm]; omega
theorem lef_bd (c s : Int) : 0 ≤ lef c s ∧ lef c s < P10 s :=
  ⟨Int.emod_nonneg _ (by have := P10_pos s; omega), Int.emod_lt_of_pos _ (P10_pos s)⟩
theorem flo_bd (c s : Int) (h : -1000000000000000 ≤ c ∧ c ≤ 1000000000000000) : -1000000000000000 ≤ flo c s ∧ flo c s ≤ 1000000000000000 := by
  have h1 := flo_lef c s
  have h2 := lef_bd c s
  have h3 := P10_pos s
  generalize flo c s = x at *
  generalize lef c s = r at *
  generalize P10 s = U at *
  constructor
  · rcases Int.lt_or_le x (-1000000000000000) with g | g
    · have : (x + 1) * U ≤ (-1000000000000000) * 1 := by
        have : (-(x + 1)) * U ≥ 1000000000000000 * 1 := Int.mul_le_mul (by omega) (by omega) (by omega) (by omega)
        rw [Int.neg_mul] at this; omega
      rw [Int.add_mul] at this; omega
    · exact g
  · rcases Int.lt_or_le 1000000000000000 x with g | g
    · have : x * U ≥ 1000000000000001 * 1 := Int.mul_le_mul (by omega) (by omega) (by omega) (by omega)
      omega
    · exact g
/-- so far in a greater unit -/
theorem lef_scale (c s S : Int) (s0 : 0 ≤ s) (h : s ≤ S) (S9 : S ≤ 9) : c * P10 (S - s) = flo c s * P10 S + lef c s * P10 (S - s) ∧ 0 ≤ lef c s * P10 (S - s) ∧ lef c s * P10 (S - s) < P10 S := by
  have h1 := flo_lef c s
  have h2 := lef_bd c s
  have e : P10 s * P10 (S - s) = P10 S := by rw [P10_mul s (S - s) s0 (by omega) (by omega)]; congr 1; omega
  have h3 := P10_pos (S - s)
  generalize flo c s = x at *
  generalize lef c s = r at *
  generalize P10 (S - s) = V at *
  refine ⟨?_, Int.mul_nonneg h2.1 (by omega), ?_⟩
  · rw [h1, Int.add_mul, Int.mul_assoc, e]
  · rw [← e]; exact Int.mul_lt_mul_of_pos_right h2.2 h3
def ordV (a s b t : Int) : Int := if flo a s = flo b t then lef a s * P10 (9 - s) - lef b t * P10 (9 - t) else flo a s - flo b t
theorem ordV_nrm {a s b t : Int} (ha : okD a s) (hb : okD b t) : (ordV a s b t < 0 ↔ nrm a s < nrm b t) ∧ (ordV a s b t = 0 ↔ nrm a s = nrm b t) := by
  have e1 := lef_scale a s 9 ha.1 ha.2.1 (by omega)
  have e2 := lef_scale b t 9 hb.1 hb.2.1 (by omega)
  have e9 : P10 9 = 1000000000 := rfl
  rw [e9] at e1 e2
  unfold ordV nrm
  generalize a * P10 (9 - s) = A at *
  generalize b * P10 (9 - t) = B at *
  generalize lef a s * P10 (9 - s) = p at *
  generalize lef b t * P10 (9 - t) = q at *
  generalize flo a s = x at *
  generalize flo b t = y at *
  split <;> constructor <;> constructor <;> omega

/-- is it rounded up from the lesser one? -/
def upB (way low rest U c : Int) : Bool :=
  if way = 1 then decide (0 < rest) && decide (c < 0)
  else if way = 3 then decide (0 < rest)
  else if way = 4 then decide (U < 2 * rest) || decide (2 * rest = U) && decide (0 < c)
  else if way = 5 then decide (U < 2 * rest) || decide (2 * rest = U) && decide (mag low % 2 = 1)
  else false
theorem upB1 (low rest U c : Int) : upB 1 low rest U c = (decide (0 < rest) && decide (c < 0)) := rfl
theorem upB2 (low rest U c : Int) : upB 2 low rest U c = false := rfl
theorem upB3 (low rest U c : Int) : upB 3 low rest U c = decide (0 < rest) := rfl
theorem upB4 (low rest U c : Int) : upB 4 low rest U c = (decide (U < 2 * rest) || decide (2 * rest = U) && decide (0 < c)) := rfl
theorem upB5 (low rest U c : Int) : upB 5 low rest U c = (decide (U < 2 * rest) || decide (2 * rest = U) && decide (mag low % 2 = 1)) := rfl
def rndF (c U way : Int) : Int := c / U + if upB way (c / U) (c % U) U c then 1 else 0
theorem neg_parts (n U : Int) (hU : 0 < U) : ((-n) / U = -(n / U) ∧ (-n) % U = 0 ∧ n % U = 0) ∨ ((-n) / U = -(n / U) - 1 ∧ (-n) % U = U - n % U ∧ 0 < n % U) := by
  have h1 := Int.emod_add_mul_ediv n U
  have h2 := Int.emod_nonneg n (show U ≠ 0 by omega)
  have h3 := Int.emod_lt_of_pos n hU
  by_cases h : n % U = 0
  · left
    have := (Int.ediv_emod_unique (a := -n) (b := U) (r := 0) (q := -(n / U)) hU).2 ⟨by rw [Int.mul_neg]; omega, by omega, hU⟩
    exact ⟨this.1, this.2, h⟩
  · right
    have := (Int.ediv_emod_unique (a := -n) (b := U) (r := U - n % U) (q := -(n / U) - 1) hU).2 ⟨by rw [Int.mul_sub, Int.mul_neg]; omega, by omega, by omega⟩
    exact ⟨this.1, this.2, by omega⟩
theorem rndC_F (c s t way : Int) (h : t < s) (h0 : 1 ≤ way) (h1 : way ≤ 5) : rndC c s t way = rndF c (P10 (s - t)) way := by
  have hU := P10_pos (s - t)
  unfold rndC rndF
  rw [if_neg (by omega)]
  generalize P10 (s - t) = U at *
  unfold rdU
  by_cases hc : c < 0
  · have e1 : mag c = -c := by unfold mag; rw [if_pos hc]
    have e2 : sgn c = -1 := by unfold sgn; rw [if_pos hc]
    obtain ⟨n, rfl⟩ : ∃ n, c = -n := ⟨-c, by omega⟩
    rw [e1, e2, Int.neg_neg]
    have hn : 0 < n := by omega
    have g1 := Int.emod_add_mul_ediv n U
    have g2 := Int.emod_nonneg n (show U ≠ 0 by omega)
    have g3 := Int.emod_lt_of_pos n hU
    have g4 : 0 ≤ n / U := Int.ediv_nonneg (by omega) (by omega)
    have np := neg_parts n U hU
    clear g1 e1 e2
    generalize n / U = q at *
    generalize n % U = r at *
    have m1 : mag (-q) = q := by unfold mag; split <;> omega
    have m2 : mag (-q - 1) = q + 1 := by unfold mag; split <;> omega
    rcases np with ⟨a, b, d⟩ | ⟨a, b, d⟩
    · rw [a, b, d]
      rcases ways way h0 h1 with rfl | rfl | rfl | rfl | rfl
      all_goals
        simp only [near, upB]
        simp
        try omega
    · rw [a, b]
      rcases ways way h0 h1 with rfl | rfl | rfl | rfl | rfl
      · simp [near, upB]; omega
      · simp [near, upB]; omega
      · simp [near, upB]; omega
      · simp only [near, upB]
        by_cases k : U ≤ 2 * r
        · simp [show ¬ U < 2 * (U - r) by omega, k]; omega
        · simp [show U < 2 * (U - r) by omega, k]
      · simp only [near, upB, m2]
        by_cases k : U < 2 * r
        · simp [show ¬ U < 2 * (U - r) by omega, k, show ¬ 2 * (U - r) = U by omega]; omega
        · by_cases k2 : 2 * r = U
          · have e : 2 * (U - r) = U := by omega
            by_cases k3 : q % 2 = 1
            · simp [k2, e, k3, show ¬ (q + 1) % 2 = 1 by omega]; omega
            · simp [k2, e, k3, show (q + 1) % 2 = 1 by omega]
          · simp [show U < 2 * (U - r) by omega, k, k2]
  · have e1 : mag c = c := by unfold mag; rw [if_neg hc]
    have e2 : sgn c = 1 ∨ c = 0 := by unfold sgn; rw [if_neg hc]; first | (left; rfl) | (split <;> omega)
    rw [e1]
    have g2 := Int.emod_nonneg c (show U ≠ 0 by omega)
    have g3 := Int.emod_lt_of_pos c hU
    have g4 : 0 ≤ c / U := Int.ediv_nonneg (by omega) (by omega)
    have m : mag (c / U) = c / U := by unfold mag; split <;> omega
    rcases e2 with e2 | rfl
    · rw [e2]
      rcases ways way h0 h1 with rfl | rfl | rfl | rfl | rfl
      · simp [near, upB, hc]
      · simp [near, upB]
      · simp [near, upB]
      · simp only [near, upB]
        generalize hr : c % U = r at *
        by_cases k : U < 2 * r
        · simp [k, show U ≤ 2 * r by omega]
        · by_cases k2 : 2 * r = U
          · have cp : 0 < c := by
              rcases Int.lt_or_le 0 c with g | g
              · exact g
              · exfalso
                have h0 : c = 0 := by omega
                have h1 : r = 0 := by rw [← hr, h0, Int.zero_emod]
                omega
            simp [k2, cp]
          · simp [k, k2, show ¬ U ≤ 2 * r by omega]
      · simp [near, upB, m]
    · simp [near, upB]
      first | done | (repeat' split) <;> omega
/-- the sum, and if there is room -/
theorem addC_F (a s b t : Int) (ha : okD a s) (hb : okD b t) :
    (flo a s + flo b t) * P10 (addS s t) + lef a s * P10 (addS s t - s) + lef b t * P10 (addS s t - t) = addC a s b t ∧
    0 ≤ lef a s * P10 (addS s t - s) ∧ lef a s * P10 (addS s t - s) < P10 (addS s t) ∧ 0 ≤ lef b t * P10 (addS s t - t) ∧ lef b t * P10 (addS s t - t) < P10 (addS s t) := by
  obtain ⟨s0, s9, _, _⟩ := ha
  obtain ⟨t0, t9, _, _⟩ := hb
  have hS : s ≤ addS s t ∧ t ≤ addS s t ∧ addS s t ≤ 9 := by unfold addS; split <;> omega
  have e1 := lef_scale a s (addS s t) s0 hS.1 hS.2.2
  have e2 := lef_scale b t (addS s t) t0 hS.2.1 hS.2.2
  refine ⟨?_, e1.2.1, e1.2.2, e2.2.1, e2.2.2⟩
  have e3 : addC a s b t = a * P10 (addS s t - s) + b * P10 (addS s t - t) := by
    unfold addC addS
    by_cases h : s ≤ t
    · rw [if_pos h, if_pos h, Int.sub_self, P10_0]; omega
    · rw [if_neg h, if_neg h, Int.sub_self, P10_0]; omega
  rw [e3, e1.1, e2.1, Int.add_mul]; omega
theorem add_far (x y p q u : Int) (hu : 1 ≤ u) (hp : 0 ≤ p ∧ p < u) (hq : 0 ≤ q ∧ q < u) (h : 1000000000000000 / u + 2 < mag (x + y)) : 1000000000000000 < mag ((x + y) * u + p + q) := by
  have h1 : (1000000000000000 / u) * u + 1000000000000000 % u = 1000000000000000 := by rw [Int.mul_comm]; exact Int.mul_ediv_add_emod _ _
  have h2 := Int.emod_lt_of_pos 1000000000000000 (show 0 < u by omega)
  generalize 1000000000000000 / u = M at *
  generalize x + y = z at *
  unfold mag at h
  split at h
  · have : (M + 3) * u ≤ (-z) * u := Int.mul_le_mul_of_nonneg_right (by omega) (by omega)
    rw [Int.add_mul, Int.neg_mul] at this
    unfold mag; split <;> omega
  · have : (M + 3) * u ≤ z * u := Int.mul_le_mul_of_nonneg_right (by omega) (by omega)
    rw [Int.add_mul] at this
    unfold mag; split <;> omega
theorem add_near (x y u : Int) (hu : 1 ≤ u) (hu1 : u ≤ 1000000000) (h : ¬ 1000000000000000 / u + 2 < mag (x + y)) : -1000002000000000 ≤ (x + y) * u ∧ (x + y) * u ≤ 1000002000000000 ∧ -1000000000000002 ≤ x + y ∧ x + y ≤ 1000000000000002 := by
  have h1 : (1000000000000000 / u) * u + 1000000000000000 % u = 1000000000000000 := by rw [Int.mul_comm]; exact Int.mul_ediv_add_emod _ _
  have h2 := Int.emod_nonneg 1000000000000000 (show u ≠ 0 by omega)
  have h3 : 1000000000000000 / u ≤ 1000000000000000 := Int.ediv_le_self _ (by omega)
  generalize 1000000000000000 / u = M at *
  generalize x + y = z at *
  have b : -(M + 2) ≤ z ∧ z ≤ M + 2 := by unfold mag at h; split at h <;> omega
  have g1 : z * u ≤ (M + 2) * u := Int.mul_le_mul_of_nonneg_right b.2 (by omega)
  have g2 : (-(M + 2)) * u ≤ z * u := Int.mul_le_mul_of_nonneg_right b.1 (by omega)
  rw [Int.neg_mul] at g2
  rw [Int.add_mul] at g1 g2
  omega
end Go.Proofs.YtaijjffnamjhiaaGreatDoor.Dcm
namespace Go.Proofs.YtaijjffnamjhiaaGreatDoor
open Go.RowKit
open Dcm (P10 okD nrm mag flo lef)

theorem tdiv_flo (c U : Int) (hU : 1 ≤ U) (hc : c < 0) : (c < c.tdiv U * U ∧ c / U = c.tdiv U - 1) ∨ (c.tdiv U * U = c ∧ c / U = c.tdiv U) := by
  obtain ⟨n, rfl⟩ : ∃ n, c = -n := ⟨-c, by omega⟩
  have h1 := Int.emod_add_mul_ediv n U
  rw [Int.neg_tdiv, Int.tdiv_eq_ediv_of_nonneg (by omega), Int.neg_mul, Int.mul_comm]
  rcases Dcm.neg_parts n U (by omega) with ⟨a, _, b⟩ | ⟨a, _, b⟩
  · right; omega
  · left; omega

set_option maxRecDepth 100000 in
set_option maxHeartbeats 400000 in
theorem floor_any (c s : Int) (w : World) (h : okD c s) :
    Calls Tryz.prog 147 #[.agg #[.int .i64 c, .int .i64 s]] w fun e w' => e = .returned (.int .i64 (flo c s)) ∧ Below w.heap.size w w' := by
  obtain ⟨s0, s9, c0, c1⟩ := h
  have CT := Lib.hid fun w => ten_any s w s0 s9
  have hU := Dcm.P10_bd s
  have hF : flo c s = c / P10 s := rfl
  generalize P10 s = U at *
  by_cases hc : 0 ≤ c
  · have h1 := Int.emod_add_mul_ediv c U
    have h2 := Int.emod_nonneg c (show U ≠ 0 by omega)
    have h3 : 0 ≤ c / U := Int.ediv_nonneg hc (by omega)
    have h4 : c / U ≤ c := Int.ediv_le_self _ hc
    rw [Int.mul_comm] at h1
    have h5 : c / U * U ≤ c := by omega
    have h6 : 0 ≤ c / U * U := Int.mul_nonneg h3 (by omega)
    have d1 : decide (c < c / U * U) = false := dec_no (by omega)
    have HF := Lib.hid hF
    clear hF h1 h2
    obtain ⟨T, hT⟩ : ∃ T, c / U = T := ⟨_, rfl⟩
    have HT := Lib.hid hT
    rw [hT] at h3 h4 h5 h6 d1
    go_enter Tryz.func147, Tryz.ntmps147
    go_wp2_with (go_at_call 121; refine (CT.out _).mono ?_; rintro e w' ⟨rfl, rfl⟩)
    go_ret
    exact ⟨ret_int (by rw [HF.out, HT.out]), blw_alloc _ _⟩
  · have tb := Dcm.tdiv_bd c U hU.1 ⟨c0, c1⟩
    have hT0 := tdiv_flo c U hU.1 (by omega)
    have HF := Lib.hid hF
    clear hF
    obtain ⟨T, hT⟩ : ∃ T, c.tdiv U = T := ⟨_, rfl⟩
    rw [hT] at hT0 tb
    have hm : -1000000000000000 ≤ T * U ∧ T * U ≤ 0 := by
      have e := Dcm.sum_quo 0 c U hU.1
      have m := Dcm.tmod_bd c U hU.1
      rcases hT0 with h | h
      · refine ⟨by omega, ?_⟩
        have : T ≤ 0 := by
          rw [← hT]
          obtain ⟨n, rfl⟩ : ∃ n, c = -n := ⟨-c, by omega⟩
          rw [Int.neg_tdiv, Int.tdiv_eq_ediv_of_nonneg (by omega)]
          have := Int.ediv_nonneg (show 0 ≤ n by omega) (show 0 ≤ U by omega)
          omega
        have h2 : (-T) * U ≥ 0 := Int.mul_nonneg (by omega) (by omega)
        rw [Int.neg_mul] at h2; omega
      · omega
    obtain ⟨m0, m1⟩ := hm
    rcases hT0 with ⟨h1, h2⟩ | ⟨h1, h2⟩
    · have d1 : decide (c < T * U) = true := dec_yes h1
      have HE := Lib.hid h2
      clear h2
      go_enter Tryz.func147, Tryz.ntmps147
      go_wp2_with (go_at_call 121; refine (CT.out _).mono ?_; rintro e w' ⟨rfl, rfl⟩)
      go_ret
      exact ⟨ret_int (by rw [HF.out, HE.out]), blw_alloc _ _⟩
    · have d1 : decide (c < T * U) = false := dec_no (by omega)
      have HE := Lib.hid h2
      clear h1 h2
      go_enter Tryz.func147, Tryz.ntmps147
      go_wp2_with (go_at_call 121; refine (CT.out _).mono ?_; rintro e w' ⟨rfl, rfl⟩)
      go_ret
      exact ⟨ret_int (by rw [HF.out, HE.out]), blw_alloc _ _⟩
end Go.Proofs.YtaijjffnamjhiaaGreatDoor
namespace Go.Proofs.YtaijjffnamjhiaaGreatDoor
open Go.RowKit
open Dcm (P10 okD nrm mag flo lef)

set_option maxRecDepth 100000 in
set_option maxHeartbeats 1000000 in
theorem rof_up_yes (c s t way : Int) (w : World) (ha : okD c s) (t9 : t ≤ 9) (hst : s ≤ t) (hr : mag c * P10 (t - s) ≤ 1000000000000000) :
    Calls Tryz.prog 95 #[.agg #[.int .i64 c, .int .i64 s], .int .i64 t, .int .i64 way] w fun e w' => e = .returned (.tuple #[.agg #[.int .i64 (c * P10 (t - s)), .int .i64 t], .bool true]) ∧ Below w.heap.size w w' := by
  obtain ⟨s0, s9, c0, c1⟩ := ha
  have hU := Dcm.P10_bd (t - s)
  have hq : mag c ≤ 1000000000000000 / P10 (t - s) := (Int.le_ediv_iff_mul_le (by omega)).2 hr
  have hm : -1000000000000000 ≤ c ∧ c ≤ 1000000000000000 := ⟨c0, c1⟩
  have d1 : decide (1000000000000000 / P10 (t - s) < mag c) = false := dec_no (by omega)
  have hcu : -1000000000000000 ≤ c * P10 (t - s) ∧ c * P10 (t - s) ≤ 1000000000000000 := by
    unfold mag at hr
    split at hr
    · rw [Int.neg_mul] at hr; have := Int.mul_nonneg (show 0 ≤ -c by omega) (show 0 ≤ P10 (t - s) by omega); rw [Int.neg_mul] at this; omega
    · have := Int.mul_nonneg (show 0 ≤ c by omega) (show 0 ≤ P10 (t - s) by omega); omega
  obtain ⟨u0, u1⟩ := hcu
  clear hq hr
  go_enter Tryz.func95, Tryz.ntmps95
  go_wp2_with (go_at_call 121; refine (ten_any _ _ (by omega) (by omega)).mono ?_; rintro e w' ⟨rfl, rfl⟩)
  go_big_quiet ((first | (go_at_call 121; exact quiet_left (ten_any _ _ (by omega) (by omega))) | (go_at_call 97; exact quiet_left (size_any _ _ (by omega) (by omega)))))
  go_wp2_with fail
  refine bodyPost_ret (v := .tuple #[.agg #[.int .i64 (c * P10 (t - s)), .int .i64 t], .bool true]) (by simp [results, Tryz.results95, go_sem]) rfl ⟨rfl, ?_⟩
  repeat (first | exact Below.refl _ _ | refine blw_drewN ?_ _ | refine Below.setCell ?_ (by simp) _ | refine Below.alloc ?_ (by first | (simp; done) | (simp; omega)) _)

set_option maxRecDepth 100000 in
set_option maxHeartbeats 1000000 in
theorem rof_up_no (c s t way : Int) (w : World) (ha : okD c s) (t9 : t ≤ 9) (hst : s ≤ t) (hr : ¬ mag c * P10 (t - s) ≤ 1000000000000000) :
    Calls Tryz.prog 95 #[.agg #[.int .i64 c, .int .i64 s], .int .i64 t, .int .i64 way] w fun e w' => e = .returned (.tuple #[.agg #[.int .i64 0, .int .i64 0], .bool false]) ∧ Below w.heap.size w w' := by
  obtain ⟨s0, s9, c0, c1⟩ := ha
  have hU := Dcm.P10_bd (t - s)
  have hq : ¬ mag c ≤ 1000000000000000 / P10 (t - s) := fun g => hr ((Int.le_ediv_iff_mul_le (by omega)).1 g)
  have hm : -1000000000000000 ≤ c ∧ c ≤ 1000000000000000 := ⟨c0, c1⟩
  have d1 : decide (1000000000000000 / P10 (t - s) < mag c) = true := dec_yes (by omega)
  clear hq hr
  go_enter Tryz.func95, Tryz.ntmps95
  go_wp2_with (go_at_call 121; refine (ten_any _ _ (by omega) (by omega)).mono ?_; rintro e w' ⟨rfl, rfl⟩)
  go_big_quiet ((first | (go_at_call 121; exact quiet_left (ten_any _ _ (by omega) (by omega))) | (go_at_call 97; exact quiet_left (size_any _ _ (by omega) (by omega)))))
  go_wp2_with fail
  refine bodyPost_ret (v := .tuple #[.agg #[.int .i64 0, .int .i64 0], .bool false]) (by simp [results, Tryz.results95, go_sem]) rfl ⟨rfl, ?_⟩
  repeat (first | exact Below.refl _ _ | refine blw_drewN ?_ _ | refine Below.setCell ?_ (by simp) _ | refine Below.alloc ?_ (by first | (simp; done) | (simp; omega)) _)

set_option maxRecDepth 100000 in
set_option maxHeartbeats 1000000 in
theorem rof_dn1a (c s t L r U : Int) (w : World) (ha : okD c s) (t0 : 0 ≤ t) (hst : t < s) (hU : P10 (s - t) = U) (hL : flo c (s - t) = L) (hr : lef c (s - t) = r) (h0 : ¬ (0 < r)) :
    Calls Tryz.prog 95 #[.agg #[.int .i64 c, .int .i64 s], .int .i64 t, .int .i64 1] w fun e w' => e = .returned (.tuple #[.agg #[.int .i64 (L), .int .i64 t], .bool true]) ∧ Below w.heap.size w w' := by
  have C1 := Lib.hid fun w => floor_any c (s - t) w ⟨by omega, by have := ha.2.1; omega, ha.2.2.1, ha.2.2.2⟩
  have C2 := Lib.hid fun w => ten_any (s - t) w (by omega) (by have := ha.2.1; omega)
  have fb := Dcm.flo_bd c (s - t) ⟨ha.2.2.1, ha.2.2.2⟩
  have fl := Dcm.flo_lef c (s - t)
  have lb := Dcm.lef_bd c (s - t)
  have hU1 := Dcm.P10_bd (s - t)
  rw [hL] at C1 fb fl
  rw [hU] at C2 fl lb hU1
  rw [hr] at fl lb
  clear hL hU hr
  obtain ⟨s0, s9, c0, c1⟩ := ha
  have mb := Dcm.mag_bd L
  have em : c - L * U = r := by omega
  have hl1 : -1000002000000000 ≤ L * U := by omega
  have hl2 : L * U ≤ 1000002000000000 := by omega
  have hem := Lib.hid em
  have d0 : decide (0 < r) = false := dec_no h0
  clear em fl 
  go_enter Tryz.func95, Tryz.ntmps95
  go_wp2_with fail
  refine (C1.out _).mono ?_
  rintro e w1 ⟨rfl, hb⟩
  have B1_a := Boxed.below (Boxed.alloc (Boxed.made _ #[.int .i64 c, .int .i64 s] 37) _) hb
  have B1_z := Boxed.below (Boxed.made _ #[.int .i64 0, .int .i64 0] 37) hb
  have W1 := Lib.hid (blw_trans (blw_trans (blw_trans (Below.refl w.heap.size w) (blw_alloc _ _)) (blw_alloc _ _)) hb)
  clear hb 
  have ka0 := B1_a.cell 0 _ rfl
  have ka1 := B1_a.cell 1 _ rfl
  have kal := B1_a.lt
  try simp at ka0 ka1 kal
  have kz0 := B1_z.cell 0 _ rfl
  have kz1 := B1_z.cell 1 _ rfl
  have kzl := B1_z.lt
  try simp at kz0 kz1 kzl
  have zf0 := B1_z.free 0 (by simp)
  have zf1 := B1_z.free 1 (by simp)
  try simp at zf0 zf1
  go_wp2_with fail
  refine (C2.out _).mono ?_
  rintro e w2 ⟨rfl, rfl⟩
  have hem' := hem.out
  go_wp2_with (go_at_call 97; refine (size_any _ _ (by omega) (by omega)).mono ?_; rintro e w' ⟨rfl, rfl⟩)
  refine bodyPost_ret (v := .tuple #[.agg #[.int .i64 (L), .int .i64 t], .bool true]) (by simp [results, Tryz.results95, go_sem, kz0, kz1]) rfl ⟨rfl, ?_⟩
  repeat (first | exact W1.out | refine blw_drewN ?_ _ | refine Below.setCell ?_ (by simp) _ | refine Below.alloc ?_ (by first | (simp; done) | (simp; omega)) _)

set_option maxRecDepth 100000 in
set_option maxHeartbeats 1000000 in
theorem rof_dn1b (c s t L r U : Int) (w : World) (ha : okD c s) (t0 : 0 ≤ t) (hst : t < s) (hU : P10 (s - t) = U) (hL : flo c (s - t) = L) (hr : lef c (s - t) = r) (h0 : 0 < r) (h1 : c < 0) :
    Calls Tryz.prog 95 #[.agg #[.int .i64 c, .int .i64 s], .int .i64 t, .int .i64 1] w fun e w' => e = .returned (.tuple #[.agg #[.int .i64 (L + 1), .int .i64 t], .bool true]) ∧ Below w.heap.size w w' := by
  have C1 := Lib.hid fun w => floor_any c (s - t) w ⟨by omega, by have := ha.2.1; omega, ha.2.2.1, ha.2.2.2⟩
  have C2 := Lib.hid fun w => ten_any (s - t) w (by omega) (by have := ha.2.1; omega)
  have fb := Dcm.flo_bd c (s - t) ⟨ha.2.2.1, ha.2.2.2⟩
  have fl := Dcm.flo_lef c (s - t)
  have lb := Dcm.lef_bd c (s - t)
  have hU1 := Dcm.P10_bd (s - t)
  rw [hL] at C1 fb fl
  rw [hU] at C2 fl lb hU1
  rw [hr] at fl lb
  clear hL hU hr
  obtain ⟨s0, s9, c0, c1⟩ := ha
  have mb := Dcm.mag_bd L
  have em : c - L * U = r := by omega
  have hl1 : -1000002000000000 ≤ L * U := by omega
  have hl2 : L * U ≤ 1000002000000000 := by omega
  have hem := Lib.hid em
  have d0 : decide (0 < r) = true := dec_yes h0
  have d1 : decide (c < 0) = true := dec_yes h1
  clear em fl 
  go_enter Tryz.func95, Tryz.ntmps95
  go_wp2_with fail
  refine (C1.out _).mono ?_
  rintro e w1 ⟨rfl, hb⟩
  have B1_a := Boxed.below (Boxed.alloc (Boxed.made _ #[.int .i64 c, .int .i64 s] 37) _) hb
  have B1_z := Boxed.below (Boxed.made _ #[.int .i64 0, .int .i64 0] 37) hb
  have W1 := Lib.hid (blw_trans (blw_trans (blw_trans (Below.refl w.heap.size w) (blw_alloc _ _)) (blw_alloc _ _)) hb)
  clear hb 
  have ka0 := B1_a.cell 0 _ rfl
  have ka1 := B1_a.cell 1 _ rfl
  have kal := B1_a.lt
  try simp at ka0 ka1 kal
  have kz0 := B1_z.cell 0 _ rfl
  have kz1 := B1_z.cell 1 _ rfl
  have kzl := B1_z.lt
  try simp at kz0 kz1 kzl
  have zf0 := B1_z.free 0 (by simp)
  have zf1 := B1_z.free 1 (by simp)
  try simp at zf0 zf1
  go_wp2_with fail
  refine (C2.out _).mono ?_
  rintro e w2 ⟨rfl, rfl⟩
  have hem' := hem.out
  go_wp2_with (go_at_call 97; refine (size_any _ _ (by omega) (by omega)).mono ?_; rintro e w' ⟨rfl, rfl⟩)
  refine bodyPost_ret (v := .tuple #[.agg #[.int .i64 (L + 1), .int .i64 t], .bool true]) (by simp [results, Tryz.results95, go_sem, kz0, kz1]) rfl ⟨rfl, ?_⟩
  repeat (first | exact W1.out | refine blw_drewN ?_ _ | refine Below.setCell ?_ (by simp) _ | refine Below.alloc ?_ (by first | (simp; done) | (simp; omega)) _)

set_option maxRecDepth 100000 in
set_option maxHeartbeats 1000000 in
theorem rof_dn1c (c s t L r U : Int) (w : World) (ha : okD c s) (t0 : 0 ≤ t) (hst : t < s) (hU : P10 (s - t) = U) (hL : flo c (s - t) = L) (hr : lef c (s - t) = r) (h0 : 0 < r) (h1 : ¬ (c < 0)) :
    Calls Tryz.prog 95 #[.agg #[.int .i64 c, .int .i64 s], .int .i64 t, .int .i64 1] w fun e w' => e = .returned (.tuple #[.agg #[.int .i64 (L), .int .i64 t], .bool true]) ∧ Below w.heap.size w w' := by
  have C1 := Lib.hid fun w => floor_any c (s - t) w ⟨by omega, by have := ha.2.1; omega, ha.2.2.1, ha.2.2.2⟩
  have C2 := Lib.hid fun w => ten_any (s - t) w (by omega) (by have := ha.2.1; omega)
  have fb := Dcm.flo_bd c (s - t) ⟨ha.2.2.1, ha.2.2.2⟩
  have fl := Dcm.flo_lef c (s - t)
  have lb := Dcm.lef_bd c (s - t)
  have hU1 := Dcm.P10_bd (s - t)
  rw [hL] at C1 fb fl
  rw [hU] at C2 fl lb hU1
  rw [hr] at fl lb
  clear hL hU hr
  obtain ⟨s0, s9, c0, c1⟩ := ha
  have mb := Dcm.mag_bd L
  have em : c - L * U = r := by omega
  have hl1 : -1000002000000000 ≤ L * U := by omega
  have hl2 : L * U ≤ 1000002000000000 := by omega
  have hem := Lib.hid em
  have d0 : decide (0 < r) = true := dec_yes h0
  have d1 : decide (c < 0) = false := dec_no h1
  clear em fl 
  go_enter Tryz.func95, Tryz.ntmps95
  go_wp2_with fail
  refine (C1.out _).mono ?_
  rintro e w1 ⟨rfl, hb⟩
  have B1_a := Boxed.below (Boxed.alloc (Boxed.made _ #[.int .i64 c, .int .i64 s] 37) _) hb
  have B1_z := Boxed.below (Boxed.made _ #[.int .i64 0, .int .i64 0] 37) hb
  have W1 := Lib.hid (blw_trans (blw_trans (blw_trans (Below.refl w.heap.size w) (blw_alloc _ _)) (blw_alloc _ _)) hb)
  clear hb 
  have ka0 := B1_a.cell 0 _ rfl
  have ka1 := B1_a.cell 1 _ rfl
  have kal := B1_a.lt
  try simp at ka0 ka1 kal
  have kz0 := B1_z.cell 0 _ rfl
  have kz1 := B1_z.cell 1 _ rfl
  have kzl := B1_z.lt
  try simp at kz0 kz1 kzl
  have zf0 := B1_z.free 0 (by simp)
  have zf1 := B1_z.free 1 (by simp)
  try simp at zf0 zf1
  go_wp2_with fail
  refine (C2.out _).mono ?_
  rintro e w2 ⟨rfl, rfl⟩
  have hem' := hem.out
  go_wp2_with (go_at_call 97; refine (size_any _ _ (by omega) (by omega)).mono ?_; rintro e w' ⟨rfl, rfl⟩)
  refine bodyPost_ret (v := .tuple #[.agg #[.int .i64 (L), .int .i64 t], .bool true]) (by simp [results, Tryz.results95, go_sem, kz0, kz1]) rfl ⟨rfl, ?_⟩
  repeat (first | exact W1.out | refine blw_drewN ?_ _ | refine Below.setCell ?_ (by simp) _ | refine Below.alloc ?_ (by first | (simp; done) | (simp; omega)) _)

set_option maxRecDepth 100000 in
set_option maxHeartbeats 1000000 in
theorem rof_dn2a (c s t L r U : Int) (w : World) (ha : okD c s) (t0 : 0 ≤ t) (hst : t < s) (hU : P10 (s - t) = U) (hL : flo c (s - t) = L) (hr : lef c (s - t) = r) (h0 : ¬ (0 < r)) :
    Calls Tryz.prog 95 #[.agg #[.int .i64 c, .int .i64 s], .int .i64 t, .int .i64 2] w fun e w' => e = .returned (.tuple #[.agg #[.int .i64 (L), .int .i64 t], .bool true]) ∧ Below w.heap.size w w' := by
  have C1 := Lib.hid fun w => floor_any c (s - t) w ⟨by omega, by have := ha.2.1; omega, ha.2.2.1, ha.2.2.2⟩
  have C2 := Lib.hid fun w => ten_any (s - t) w (by omega) (by have := ha.2.1; omega)
  have fb := Dcm.flo_bd c (s - t) ⟨ha.2.2.1, ha.2.2.2⟩
  have fl := Dcm.flo_lef c (s - t)
  have lb := Dcm.lef_bd c (s - t)
  have hU1 := Dcm.P10_bd (s - t)
  rw [hL] at C1 fb fl
  rw [hU] at C2 fl lb hU1
  rw [hr] at fl lb
  clear hL hU hr
  obtain ⟨s0, s9, c0, c1⟩ := ha
  have mb := Dcm.mag_bd L
  have em : c - L * U = r := by omega
  have hl1 : -1000002000000000 ≤ L * U := by omega
  have hl2 : L * U ≤ 1000002000000000 := by omega
  have hem := Lib.hid em
  have d0 : decide (0 < r) = false := dec_no h0
  clear em fl 
  go_enter Tryz.func95, Tryz.ntmps95
  go_wp2_with fail
  refine (C1.out _).mono ?_
  rintro e w1 ⟨rfl, hb⟩
  have B1_a := Boxed.below (Boxed.alloc (Boxed.made _ #[.int .i64 c, .int .i64 s] 37) _) hb
  have B1_z := Boxed.below (Boxed.made _ #[.int .i64 0, .int .i64 0] 37) hb
  have W1 := Lib.hid (blw_trans (blw_trans (blw_trans (Below.refl w.heap.size w) (blw_alloc _ _)) (blw_alloc _ _)) hb)
  clear hb 
  have ka0 := B1_a.cell 0 _ rfl
  have ka1 := B1_a.cell 1 _ rfl
  have kal := B1_a.lt
  try simp at ka0 ka1 kal
  have kz0 := B1_z.cell 0 _ rfl
  have kz1 := B1_z.cell 1 _ rfl
  have kzl := B1_z.lt
  try simp at kz0 kz1 kzl
  have zf0 := B1_z.free 0 (by simp)
  have zf1 := B1_z.free 1 (by simp)
  try simp at zf0 zf1
  go_wp2_with fail
  refine (C2.out _).mono ?_
  rintro e w2 ⟨rfl, rfl⟩
  have hem' := hem.out
  go_wp2_with (go_at_call 97; refine (size_any _ _ (by omega) (by omega)).mono ?_; rintro e w' ⟨rfl, rfl⟩)
  refine bodyPost_ret (v := .tuple #[.agg #[.int .i64 (L), .int .i64 t], .bool true]) (by simp [results, Tryz.results95, go_sem, kz0, kz1]) rfl ⟨rfl, ?_⟩
  repeat (first | exact W1.out | refine blw_drewN ?_ _ | refine Below.setCell ?_ (by simp) _ | refine Below.alloc ?_ (by first | (simp; done) | (simp; omega)) _)

set_option maxRecDepth 100000 in
set_option maxHeartbeats 1000000 in
theorem rof_dn2b (c s t L r U : Int) (w : World) (ha : okD c s) (t0 : 0 ≤ t) (hst : t < s) (hU : P10 (s - t) = U) (hL : flo c (s - t) = L) (hr : lef c (s - t) = r) (h0 : 0 < r) :
    Calls Tryz.prog 95 #[.agg #[.int .i64 c, .int .i64 s], .int .i64 t, .int .i64 2] w fun e w' => e = .returned (.tuple #[.agg #[.int .i64 (L), .int .i64 t], .bool true]) ∧ Below w.heap.size w w' := by
  have C1 := Lib.hid fun w => floor_any c (s - t) w ⟨by omega, by have := ha.2.1; omega, ha.2.2.1, ha.2.2.2⟩
  have C2 := Lib.hid fun w => ten_any (s - t) w (by omega) (by have := ha.2.1; omega)
  have fb := Dcm.flo_bd c (s - t) ⟨ha.2.2.1, ha.2.2.2⟩
  have fl := Dcm.flo_lef c (s - t)
  have lb := Dcm.lef_bd c (s - t)
  have hU1 := Dcm.P10_bd (s - t)
  rw [hL] at C1 fb fl
  rw [hU] at C2 fl lb hU1
  rw [hr] at fl lb
  clear hL hU hr
  obtain ⟨s0, s9, c0, c1⟩ := ha
  have mb := Dcm.mag_bd L
  have em : c - L * U = r := by omega
  have hl1 : -1000002000000000 ≤ L * U := by omega
  have hl2 : L * U ≤ 1000002000000000 := by omega
  have hem := Lib.hid em
  have d0 : decide (0 < r) = true := dec_yes h0
  clear em fl 
  go_enter Tryz.func95, Tryz.ntmps95
  go_wp2_with fail
  refine (C1.out _).mono ?_
  rintro e w1 ⟨rfl, hb⟩
  have B1_a := Boxed.below (Boxed.alloc (Boxed.made _ #[.int .i64 c, .int .i64 s] 37) _) hb
  have B1_z := Boxed.below (Boxed.made _ #[.int .i64 0, .int .i64 0] 37) hb
  have W1 := Lib.hid (blw_trans (blw_trans (blw_trans (Below.refl w.heap.size w) (blw_alloc _ _)) (blw_alloc _ _)) hb)
  clear hb 
  have ka0 := B1_a.cell 0 _ rfl
  have ka1 := B1_a.cell 1 _ rfl
  have kal := B1_a.lt
  try simp at ka0 ka1 kal
  have kz0 := B1_z.cell 0 _ rfl
  have kz1 := B1_z.cell 1 _ rfl
  have kzl := B1_z.lt
  try simp at kz0 kz1 kzl
  have zf0 := B1_z.free 0 (by simp)
  have zf1 := B1_z.free 1 (by simp)
  try simp at zf0 zf1
  go_wp2_with fail
  refine (C2.out _).mono ?_
  rintro e w2 ⟨rfl, rfl⟩
  have hem' := hem.out
  go_wp2_with (go_at_call 97; refine (size_any _ _ (by omega) (by omega)).mono ?_; rintro e w' ⟨rfl, rfl⟩)
  refine bodyPost_ret (v := .tuple #[.agg #[.int .i64 (L), .int .i64 t], .bool true]) (by simp [results, Tryz.results95, go_sem, kz0, kz1]) rfl ⟨rfl, ?_⟩
  repeat (first | exact W1.out | refine blw_drewN ?_ _ | refine Below.setCell ?_ (by simp) _ | refine Below.alloc ?_ (by first | (simp; done) | (simp; omega)) _)

set_option maxRecDepth 100000 in
set_option maxHeartbeats 1000000 in
theorem rof_dn3a (c s t L r U : Int) (w : World) (ha : okD c s) (t0 : 0 ≤ t) (hst : t < s) (hU : P10 (s - t) = U) (hL : flo c (s - t) = L) (hr : lef c (s - t) = r) (h0 : ¬ (0 < r)) :
    Calls Tryz.prog 95 #[.agg #[.int .i64 c, .int .i64 s], .int .i64 t, .int .i64 3] w fun e w' => e = .returned (.tuple #[.agg #[.int .i64 (L), .int .i64 t], .bool true]) ∧ Below w.heap.size w w' := by
  have C1 := Lib.hid fun w => floor_any c (s - t) w ⟨by omega, by have := ha.2.1; omega, ha.2.2.1, ha.2.2.2⟩
  have C2 := Lib.hid fun w => ten_any (s - t) w (by omega) (by have := ha.2.1; omega)
  have fb := Dcm.flo_bd c (s - t) ⟨ha.2.2.1, ha.2.2.2⟩
  have fl := Dcm.flo_lef c (s - t)
  have lb := Dcm.lef_bd c (s - t)
  have hU1 := Dcm.P10_bd (s - t)
  rw [hL] at C1 fb fl
  rw [hU] at C2 fl lb hU1
  rw [hr] at fl lb
  clear hL hU hr
  obtain ⟨s0, s9, c0, c1⟩ := ha
  have mb := Dcm.mag_bd L
  have em : c - L * U = r := by omega
  have hl1 : -1000002000000000 ≤ L * U := by omega
  have hl2 : L * U ≤ 1000002000000000 := by omega
  have hem := Lib.hid em
  have d0 : decide (0 < r) = false := dec_no h0
  clear em fl 
  go_enter Tryz.func95, Tryz.ntmps95
  go_wp2_with fail
  refine (C1.out _).mono ?_
  rintro e w1 ⟨rfl, hb⟩
  have B1_a := Boxed.below (Boxed.alloc (Boxed.made _ #[.int .i64 c, .int .i64 s] 37) _) hb
  have B1_z := Boxed.below (Boxed.made _ #[.int .i64 0, .int .i64 0] 37) hb
  have W1 := Lib.hid (blw_trans (blw_trans (blw_trans (Below.refl w.heap.size w) (blw_alloc _ _)) (blw_alloc _ _)) hb)
  clear hb 
  have ka0 := B1_a.cell 0 _ rfl
  have ka1 := B1_a.cell 1 _ rfl
  have kal := B1_a.lt
  try simp at ka0 ka1 kal
  have kz0 := B1_z.cell 0 _ rfl
  have kz1 := B1_z.cell 1 _ rfl
  have kzl := B1_z.lt
  try simp at kz0 kz1 kzl
  have zf0 := B1_z.free 0 (by simp)
  have zf1 := B1_z.free 1 (by simp)
  try simp at zf0 zf1
  go_wp2_with fail
  refine (C2.out _).mono ?_
  rintro e w2 ⟨rfl, rfl⟩
  have hem' := hem.out
  go_wp2_with (go_at_call 97; refine (size_any _ _ (by omega) (by omega)).mono ?_; rintro e w' ⟨rfl, rfl⟩)
  refine bodyPost_ret (v := .tuple #[.agg #[.int .i64 (L), .int .i64 t], .bool true]) (by simp [results, Tryz.results95, go_sem, kz0, kz1]) rfl ⟨rfl, ?_⟩
  repeat (first | exact W1.out | refine blw_drewN ?_ _ | refine Below.setCell ?_ (by simp) _ | refine Below.alloc ?_ (by first | (simp; done) | (simp; omega)) _)

set_option maxRecDepth 100000 in
set_option maxHeartbeats 1000000 in
theorem rof_dn3b (c s t L r U : Int) (w : World) (ha : okD c s) (t0 : 0 ≤ t) (hst : t < s) (hU : P10 (s - t) = U) (hL : flo c (s - t) = L) (hr : lef c (s - t) = r) (h0 : 0 < r) :
    Calls Tryz.prog 95 #[.agg #[.int .i64 c, .int .i64 s], .int .i64 t, .int .i64 3] w fun e w' => e = .returned (.tuple #[.agg #[.int .i64 (L + 1), .int .i64 t], .bool true]) ∧ Below w.heap.size w w' := by
  have C1 := Lib.hid fun w => floor_any c (s - t) w ⟨by omega, by have := ha.2.1; omega, ha.2.2.1, ha.2.2.2⟩
  have C2 := Lib.hid fun w => ten_any (s - t) w (by omega) (by have := ha.2.1; omega)
  have fb := Dcm.flo_bd c (s - t) ⟨ha.2.2.1, ha.2.2.2⟩
  have fl := Dcm.flo_lef c (s - t)
  have lb := Dcm.lef_bd c (s - t)
  have hU1 := Dcm.P10_bd (s - t)
  rw [hL] at C1 fb fl
  rw [hU] at C2 fl lb hU1
  rw [hr] at fl lb
  clear hL hU hr
  obtain ⟨s0, s9, c0, c1⟩ := ha
  have mb := Dcm.mag_bd L
  have em : c - L * U = r := by omega
  have hl1 : -1000002000000000 ≤ L * U := by omega
  have hl2 : L * U ≤ 1000002000000000 := by omega
  have hem := Lib.hid em
  have d0 : decide (0 < r) = true := dec_yes h0
  clear em fl 
  go_enter Tryz.func95, Tryz.ntmps95
  go_wp2_with fail
  refine (C1.out _).mono ?_
  rintro e w1 ⟨rfl, hb⟩
  have B1_a := Boxed.below (Boxed.alloc (Boxed.made _ #[.int .i64 c, .int .i64 s] 37) _) hb
  have B1_z := Boxed.below (Boxed.made _ #[.int .i64 0, .int .i64 0] 37) hb
  have W1 := Lib.hid (blw_trans (blw_trans (blw_trans (Below.refl w.heap.size w) (blw_alloc _ _)) (blw_alloc _ _)) hb)
  clear hb 
  have ka0 := B1_a.cell 0 _ rfl
  have ka1 := B1_a.cell 1 _ rfl
  have kal := B1_a.lt
  try simp at ka0 ka1 kal
  have kz0 := B1_z.cell 0 _ rfl
  have kz1 := B1_z.cell 1 _ rfl
  have kzl := B1_z.lt
  try simp at kz0 kz1 kzl
  have zf0 := B1_z.free 0 (by simp)
  have zf1 := B1_z.free 1 (by simp)
  try simp at zf0 zf1
  go_wp2_with fail
  refine (C2.out _).mono ?_
  rintro e w2 ⟨rfl, rfl⟩
  have hem' := hem.out
  go_wp2_with (go_at_call 97; refine (size_any _ _ (by omega) (by omega)).mono ?_; rintro e w' ⟨rfl, rfl⟩)
  refine bodyPost_ret (v := .tuple #[.agg #[.int .i64 (L + 1), .int .i64 t], .bool true]) (by simp [results, Tryz.results95, go_sem, kz0, kz1]) rfl ⟨rfl, ?_⟩
  repeat (first | exact W1.out | refine blw_drewN ?_ _ | refine Below.setCell ?_ (by simp) _ | refine Below.alloc ?_ (by first | (simp; done) | (simp; omega)) _)

set_option maxRecDepth 100000 in
set_option maxHeartbeats 1000000 in
theorem rof_dn4a (c s t L r U : Int) (w : World) (ha : okD c s) (t0 : 0 ≤ t) (hst : t < s) (hU : P10 (s - t) = U) (hL : flo c (s - t) = L) (hr : lef c (s - t) = r) (h0 : ¬ (0 < r)) (h1 : ¬ (U < 2 * r)) (h2 : ¬ (2 * r = U)) :
    Calls Tryz.prog 95 #[.agg #[.int .i64 c, .int .i64 s], .int .i64 t, .int .i64 4] w fun e w' => e = .returned (.tuple #[.agg #[.int .i64 (L), .int .i64 t], .bool true]) ∧ Below w.heap.size w w' := by
  have C1 := Lib.hid fun w => floor_any c (s - t) w ⟨by omega, by have := ha.2.1; omega, ha.2.2.1, ha.2.2.2⟩
  have C2 := Lib.hid fun w => ten_any (s - t) w (by omega) (by have := ha.2.1; omega)
  have fb := Dcm.flo_bd c (s - t) ⟨ha.2.2.1, ha.2.2.2⟩
  have fl := Dcm.flo_lef c (s - t)
  have lb := Dcm.lef_bd c (s - t)
  have hU1 := Dcm.P10_bd (s - t)
  rw [hL] at C1 fb fl
  rw [hU] at C2 fl lb hU1
  rw [hr] at fl lb
  clear hL hU hr
  obtain ⟨s0, s9, c0, c1⟩ := ha
  have mb := Dcm.mag_bd L
  have em : c - L * U = r := by omega
  have hl1 : -1000002000000000 ≤ L * U := by omega
  have hl2 : L * U ≤ 1000002000000000 := by omega
  have hem := Lib.hid em
  have d0 : decide (0 < r) = false := dec_no h0
  have d1 : decide (U < 2 * r) = false := dec_no h1
  have d2 : (2 * r == U) = false := beq_no h2
  clear em fl h2
  go_enter Tryz.func95, Tryz.ntmps95
  go_wp2_with fail
  refine (C1.out _).mono ?_
  rintro e w1 ⟨rfl, hb⟩
  have B1_a := Boxed.below (Boxed.alloc (Boxed.made _ #[.int .i64 c, .int .i64 s] 37) _) hb
  have B1_z := Boxed.below (Boxed.made _ #[.int .i64 0, .int .i64 0] 37) hb
  have W1 := Lib.hid (blw_trans (blw_trans (blw_trans (Below.refl w.heap.size w) (blw_alloc _ _)) (blw_alloc _ _)) hb)
  clear hb 
  have ka0 := B1_a.cell 0 _ rfl
  have ka1 := B1_a.cell 1 _ rfl
  have kal := B1_a.lt
  try simp at ka0 ka1 kal
  have kz0 := B1_z.cell 0 _ rfl
  have kz1 := B1_z.cell 1 _ rfl
  have kzl := B1_z.lt
  try simp at kz0 kz1 kzl
  have zf0 := B1_z.free 0 (by simp)
  have zf1 := B1_z.free 1 (by simp)
  try simp at zf0 zf1
  go_wp2_with fail
  refine (C2.out _).mono ?_
  rintro e w2 ⟨rfl, rfl⟩
  have hem' := hem.out
  go_wp2_with (go_at_call 97; refine (size_any _ _ (by omega) (by omega)).mono ?_; rintro e w' ⟨rfl, rfl⟩)
  refine bodyPost_ret (v := .tuple #[.agg #[.int .i64 (L), .int .i64 t], .bool true]) (by simp [results, Tryz.results95, go_sem, kz0, kz1]) rfl ⟨rfl, ?_⟩
  repeat (first | exact W1.out | refine blw_drewN ?_ _ | refine Below.setCell ?_ (by simp) _ | refine Below.alloc ?_ (by first | (simp; done) | (simp; omega)) _)

set_option maxRecDepth 100000 in
set_option maxHeartbeats 1000000 in
theorem rof_dn5a (c s t L r U : Int) (w : World) (ha : okD c s) (t0 : 0 ≤ t) (hst : t < s) (hU : P10 (s - t) = U) (hL : flo c (s - t) = L) (hr : lef c (s - t) = r) (h0 : ¬ (0 < r)) (h1 : ¬ (U < 2 * r)) (h2 : ¬ (2 * r = U)) :
    Calls Tryz.prog 95 #[.agg #[.int .i64 c, .int .i64 s], .int .i64 t, .int .i64 5] w fun e w' => e = .returned (.tuple #[.agg #[.int .i64 (L), .int .i64 t], .bool true]) ∧ Below w.heap.size w w' := by
  have C1 := Lib.hid fun w => floor_any c (s - t) w ⟨by omega, by have := ha.2.1; omega, ha.2.2.1, ha.2.2.2⟩
  have C2 := Lib.hid fun w => ten_any (s - t) w (by omega) (by have := ha.2.1; omega)
  have fb := Dcm.flo_bd c (s - t) ⟨ha.2.2.1, ha.2.2.2⟩
  have fl := Dcm.flo_lef c (s - t)
  have lb := Dcm.lef_bd c (s - t)
  have hU1 := Dcm.P10_bd (s - t)
  rw [hL] at C1 fb fl
  rw [hU] at C2 fl lb hU1
  rw [hr] at fl lb
  clear hL hU hr
  obtain ⟨s0, s9, c0, c1⟩ := ha
  have mb := Dcm.mag_bd L
  have em : c - L * U = r := by omega
  have hl1 : -1000002000000000 ≤ L * U := by omega
  have hl2 : L * U ≤ 1000002000000000 := by omega
  have hem := Lib.hid em
  have d0 : decide (0 < r) = false := dec_no h0
  have d1 : decide (U < 2 * r) = false := dec_no h1
  have d2 : (2 * r == U) = false := beq_no h2
  clear em fl h2
  go_enter Tryz.func95, Tryz.ntmps95
  go_wp2_with fail
  refine (C1.out _).mono ?_
  rintro e w1 ⟨rfl, hb⟩
  have B1_a := Boxed.below (Boxed.alloc (Boxed.made _ #[.int .i64 c, .int .i64 s] 37) _) hb
  have B1_z := Boxed.below (Boxed.made _ #[.int .i64 0, .int .i64 0] 37) hb
  have W1 := Lib.hid (blw_trans (blw_trans (blw_trans (Below.refl w.heap.size w) (blw_alloc _ _)) (blw_alloc _ _)) hb)
  clear hb 
  have ka0 := B1_a.cell 0 _ rfl
  have ka1 := B1_a.cell 1 _ rfl
  have kal := B1_a.lt
  try simp at ka0 ka1 kal
  have kz0 := B1_z.cell 0 _ rfl
  have kz1 := B1_z.cell 1 _ rfl
  have kzl := B1_z.lt
  try simp at kz0 kz1 kzl
  have zf0 := B1_z.free 0 (by simp)
  have zf1 := B1_z.free 1 (by simp)
  try simp at zf0 zf1
  go_wp2_with fail
  refine (C2.out _).mono ?_
  rintro e w2 ⟨rfl, rfl⟩
  have hem' := hem.out
  go_wp2_with (go_at_call 97; refine (size_any _ _ (by omega) (by omega)).mono ?_; rintro e w' ⟨rfl, rfl⟩)
  refine bodyPost_ret (v := .tuple #[.agg #[.int .i64 (L), .int .i64 t], .bool true]) (by simp [results, Tryz.results95, go_sem, kz0, kz1]) rfl ⟨rfl, ?_⟩
  repeat (first | exact W1.out | refine blw_drewN ?_ _ | refine Below.setCell ?_ (by simp) _ | refine Below.alloc ?_ (by first | (simp; done) | (simp; omega)) _)

set_option maxRecDepth 100000 in
set_option maxHeartbeats 1000000 in
theorem rof_dn4b (c s t L r U : Int) (w : World) (ha : okD c s) (t0 : 0 ≤ t) (hst : t < s) (hU : P10 (s - t) = U) (hL : flo c (s - t) = L) (hr : lef c (s - t) = r) (h0 : 0 < r) (h1 : U < 2 * r) :
    Calls Tryz.prog 95 #[.agg #[.int .i64 c, .int .i64 s], .int .i64 t, .int .i64 4] w fun e w' => e = .returned (.tuple #[.agg #[.int .i64 (L + 1), .int .i64 t], .bool true]) ∧ Below w.heap.size w w' := by
  have C1 := Lib.hid fun w => floor_any c (s - t) w ⟨by omega, by have := ha.2.1; omega, ha.2.2.1, ha.2.2.2⟩
  have C2 := Lib.hid fun w => ten_any (s - t) w (by omega) (by have := ha.2.1; omega)
  have fb := Dcm.flo_bd c (s - t) ⟨ha.2.2.1, ha.2.2.2⟩
  have fl := Dcm.flo_lef c (s - t)
  have lb := Dcm.lef_bd c (s - t)
  have hU1 := Dcm.P10_bd (s - t)
  rw [hL] at C1 fb fl
  rw [hU] at C2 fl lb hU1
  rw [hr] at fl lb
  clear hL hU hr
  obtain ⟨s0, s9, c0, c1⟩ := ha
  have mb := Dcm.mag_bd L
  have em : c - L * U = r := by omega
  have hl1 : -1000002000000000 ≤ L * U := by omega
  have hl2 : L * U ≤ 1000002000000000 := by omega
  have hem := Lib.hid em
  have d0 : decide (0 < r) = true := dec_yes h0
  have d1 : decide (U < 2 * r) = true := dec_yes h1
  clear em fl 
  go_enter Tryz.func95, Tryz.ntmps95
  go_wp2_with fail
  refine (C1.out _).mono ?_
  rintro e w1 ⟨rfl, hb⟩
  have B1_a := Boxed.below (Boxed.alloc (Boxed.made _ #[.int .i64 c, .int .i64 s] 37) _) hb
  have B1_z := Boxed.below (Boxed.made _ #[.int .i64 0, .int .i64 0] 37) hb
  have W1 := Lib.hid (blw_trans (blw_trans (blw_trans (Below.refl w.heap.size w) (blw_alloc _ _)) (blw_alloc _ _)) hb)
  clear hb 
  have ka0 := B1_a.cell 0 _ rfl
  have ka1 := B1_a.cell 1 _ rfl
  have kal := B1_a.lt
  try simp at ka0 ka1 kal
  have kz0 := B1_z.cell 0 _ rfl
  have kz1 := B1_z.cell 1 _ rfl
  have kzl := B1_z.lt
  try simp at kz0 kz1 kzl
  have zf0 := B1_z.free 0 (by simp)
  have zf1 := B1_z.free 1 (by simp)
  try simp at zf0 zf1
  go_wp2_with fail
  refine (C2.out _).mono ?_
  rintro e w2 ⟨rfl, rfl⟩
  have hem' := hem.out
  go_wp2_with (go_at_call 97; refine (size_any _ _ (by omega) (by omega)).mono ?_; rintro e w' ⟨rfl, rfl⟩)
  refine bodyPost_ret (v := .tuple #[.agg #[.int .i64 (L + 1), .int .i64 t], .bool true]) (by simp [results, Tryz.results95, go_sem, kz0, kz1]) rfl ⟨rfl, ?_⟩
  repeat (first | exact W1.out | refine blw_drewN ?_ _ | refine Below.setCell ?_ (by simp) _ | refine Below.alloc ?_ (by first | (simp; done) | (simp; omega)) _)

set_option maxRecDepth 100000 in
set_option maxHeartbeats 1000000 in
theorem rof_dn4c (c s t L r U : Int) (w : World) (ha : okD c s) (t0 : 0 ≤ t) (hst : t < s) (hU : P10 (s - t) = U) (hL : flo c (s - t) = L) (hr : lef c (s - t) = r) (h0 : 0 < r) (h1 : ¬ (U < 2 * r)) (h2 : ¬ (2 * r = U)) :
    Calls Tryz.prog 95 #[.agg #[.int .i64 c, .int .i64 s], .int .i64 t, .int .i64 4] w fun e w' => e = .returned (.tuple #[.agg #[.int .i64 (L), .int .i64 t], .bool true]) ∧ Below w.heap.size w w' := by
  have C1 := Lib.hid fun w => floor_any c (s - t) w ⟨by omega, by have := ha.2.1; omega, ha.2.2.1, ha.2.2.2⟩
  have C2 := Lib.hid fun w => ten_any (s - t) w (by omega) (by have := ha.2.1; omega)
  have fb := Dcm.flo_bd c (s - t) ⟨ha.2.2.1, ha.2.2.2⟩
  have fl := Dcm.flo_lef c (s - t)
  have lb := Dcm.lef_bd c (s - t)
  have hU1 := Dcm.P10_bd (s - t)
  rw [hL] at C1 fb fl
  rw [hU] at C2 fl lb hU1
  rw [hr] at fl lb
  clear hL hU hr
  obtain ⟨s0, s9, c0, c1⟩ := ha
  have mb := Dcm.mag_bd L
  have em : c - L * U = r := by omega
  have hl1 : -1000002000000000 ≤ L * U := by omega
  have hl2 : L * U ≤ 1000002000000000 := by omega
  have hem := Lib.hid em
  have d0 : decide (0 < r) = true := dec_yes h0
  have d1 : decide (U < 2 * r) = false := dec_no h1
  have d2 : (2 * r == U) = false := beq_no h2
  clear em fl h2
  go_enter Tryz.func95, Tryz.ntmps95
  go_wp2_with fail
  refine (C1.out _).mono ?_
  rintro e w1 ⟨rfl, hb⟩
  have B1_a := Boxed.below (Boxed.alloc (Boxed.made _ #[.int .i64 c, .int .i64 s] 37) _) hb
  have B1_z := Boxed.below (Boxed.made _ #[.int .i64 0, .int .i64 0] 37) hb
  have W1 := Lib.hid (blw_trans (blw_trans (blw_trans (Below.refl w.heap.size w) (blw_alloc _ _)) (blw_alloc _ _)) hb)
  clear hb 
  have ka0 := B1_a.cell 0 _ rfl
  have ka1 := B1_a.cell 1 _ rfl
  have kal := B1_a.lt
  try simp at ka0 ka1 kal
  have kz0 := B1_z.cell 0 _ rfl
  have kz1 := B1_z.cell 1 _ rfl
  have kzl := B1_z.lt
  try simp at kz0 kz1 kzl
  have zf0 := B1_z.free 0 (by simp)
  have zf1 := B1_z.free 1 (by simp)
  try simp at zf0 zf1
  go_wp2_with fail
  refine (C2.out _).mono ?_
  rintro e w2 ⟨rfl, rfl⟩
  have hem' := hem.out
  go_wp2_with (go_at_call 97; refine (size_any _ _ (by omega) (by omega)).mono ?_; rintro e w' ⟨rfl, rfl⟩)
  refine bodyPost_ret (v := .tuple #[.agg #[.int .i64 (L), .int .i64 t], .bool true]) (by simp [results, Tryz.results95, go_sem, kz0, kz1]) rfl ⟨rfl, ?_⟩
  repeat (first | exact W1.out | refine blw_drewN ?_ _ | refine Below.setCell ?_ (by simp) _ | refine Below.alloc ?_ (by first | (simp; done) | (simp; omega)) _)

set_option maxRecDepth 100000 in
set_option maxHeartbeats 1000000 in
theorem rof_dn4d (c s t L r U : Int) (w : World) (ha : okD c s) (t0 : 0 ≤ t) (hst : t < s) (hU : P10 (s - t) = U) (hL : flo c (s - t) = L) (hr : lef c (s - t) = r) (h0 : 0 < r) (h1 : ¬ (U < 2 * r)) (h2 : 2 * r = U) (h3 : 0 < c) :
    Calls Tryz.prog 95 #[.agg #[.int .i64 c, .int .i64 s], .int .i64 t, .int .i64 4] w fun e w' => e = .returned (.tuple #[.agg #[.int .i64 (L + 1), .int .i64 t], .bool true]) ∧ Below w.heap.size w w' := by
  have C1 := Lib.hid fun w => floor_any c (s - t) w ⟨by omega, by have := ha.2.1; omega, ha.2.2.1, ha.2.2.2⟩
  have C2 := Lib.hid fun w => ten_any (s - t) w (by omega) (by have := ha.2.1; omega)
  have fb := Dcm.flo_bd c (s - t) ⟨ha.2.2.1, ha.2.2.2⟩
  have fl := Dcm.flo_lef c (s - t)
  have lb := Dcm.lef_bd c (s - t)
  have hU1 := Dcm.P10_bd (s - t)
  rw [hL] at C1 fb fl
  rw [hU] at C2 fl lb hU1
  rw [hr] at fl lb
  clear hL hU hr
  obtain ⟨s0, s9, c0, c1⟩ := ha
  have mb := Dcm.mag_bd L
  have em : c - L * U = r := by omega
  have hl1 : -1000002000000000 ≤ L * U := by omega
  have hl2 : L * U ≤ 1000002000000000 := by omega
  have hem := Lib.hid em
  have d0 : decide (0 < r) = true := dec_yes h0
  have d1 : decide (U < 2 * r) = false := dec_no h1
  have d2 : (2 * r == U) = true := beq_yes h2
  have d3 : decide (0 < c) = true := dec_yes h3
  clear em fl h2
  go_enter Tryz.func95, Tryz.ntmps95
  go_wp2_with fail
  refine (C1.out _).mono ?_
  rintro e w1 ⟨rfl, hb⟩
  have B1_a := Boxed.below (Boxed.alloc (Boxed.made _ #[.int .i64 c, .int .i64 s] 37) _) hb
  have B1_z := Boxed.below (Boxed.made _ #[.int .i64 0, .int .i64 0] 37) hb
  have W1 := Lib.hid (blw_trans (blw_trans (blw_trans (Below.refl w.heap.size w) (blw_alloc _ _)) (blw_alloc _ _)) hb)
  clear hb 
  have ka0 := B1_a.cell 0 _ rfl
  have ka1 := B1_a.cell 1 _ rfl
  have kal := B1_a.lt
  try simp at ka0 ka1 kal
  have kz0 := B1_z.cell 0 _ rfl
  have kz1 := B1_z.cell 1 _ rfl
  have kzl := B1_z.lt
  try simp at kz0 kz1 kzl
  have zf0 := B1_z.free 0 (by simp)
  have zf1 := B1_z.free 1 (by simp)
  try simp at zf0 zf1
  go_wp2_with fail
  refine (C2.out _).mono ?_
  rintro e w2 ⟨rfl, rfl⟩
  have hem' := hem.out
  go_wp2_with (go_at_call 97; refine (size_any _ _ (by omega) (by omega)).mono ?_; rintro e w' ⟨rfl, rfl⟩)
  refine bodyPost_ret (v := .tuple #[.agg #[.int .i64 (L + 1), .int .i64 t], .bool true]) (by simp [results, Tryz.results95, go_sem, kz0, kz1]) rfl ⟨rfl, ?_⟩
  repeat (first | exact W1.out | refine blw_drewN ?_ _ | refine Below.setCell ?_ (by simp) _ | refine Below.alloc ?_ (by first | (simp; done) | (simp; omega)) _)

set_option maxRecDepth 100000 in
set_option maxHeartbeats 1000000 in
theorem rof_dn4e (c s t L r U : Int) (w : World) (ha : okD c s) (t0 : 0 ≤ t) (hst : t < s) (hU : P10 (s - t) = U) (hL : flo c (s - t) = L) (hr : lef c (s - t) = r) (h0 : 0 < r) (h1 : ¬ (U < 2 * r)) (h2 : 2 * r = U) (h3 : ¬ (0 < c)) :
    Calls Tryz.prog 95 #[.agg #[.int .i64 c, .int .i64 s], .int .i64 t, .int .i64 4] w fun e w' => e = .returned (.tuple #[.agg #[.int .i64 (L), .int .i64 t], .bool true]) ∧ Below w.heap.size w w' := by
  have C1 := Lib.hid fun w => floor_any c (s - t) w ⟨by omega, by have := ha.2.1; omega, ha.2.2.1, ha.2.2.2⟩
  have C2 := Lib.hid fun w => ten_any (s - t) w (by omega) (by have := ha.2.1; omega)
  have fb := Dcm.flo_bd c (s - t) ⟨ha.2.2.1, ha.2.2.2⟩
  have fl := Dcm.flo_lef c (s - t)
  have lb := Dcm.lef_bd c (s - t)
  have hU1 := Dcm.P10_bd (s - t)
  rw [hL] at C1 fb fl
  rw [hU] at C2 fl lb hU1
  rw [hr] at fl lb
  clear hL hU hr
  obtain ⟨s0, s9, c0, c1⟩ := ha
  have mb := Dcm.mag_bd L
  have em : c - L * U = r := by omega
  have hl1 : -1000002000000000 ≤ L * U := by omega
  have hl2 : L * U ≤ 1000002000000000 := by omega
  have hem := Lib.hid em
  have d0 : decide (0 < r) = true := dec_yes h0
  have d1 : decide (U < 2 * r) = false := dec_no h1
  have d2 : (2 * r == U) = true := beq_yes h2
  have d3 : decide (0 < c) = false := dec_no h3
  clear em fl h2
  go_enter Tryz.func95, Tryz.ntmps95
  go_wp2_with fail
  refine (C1.out _).mono ?_
  rintro e w1 ⟨rfl, hb⟩
  have B1_a := Boxed.below (Boxed.alloc (Boxed.made _ #[.int .i64 c, .int .i64 s] 37) _) hb
  have B1_z := Boxed.below (Boxed.made _ #[.int .i64 0, .int .i64 0] 37) hb
  have W1 := Lib.hid (blw_trans (blw_trans (blw_trans (Below.refl w.heap.size w) (blw_alloc _ _)) (blw_alloc _ _)) hb)
  clear hb 
  have ka0 := B1_a.cell 0 _ rfl
  have ka1 := B1_a.cell 1 _ rfl
  have kal := B1_a.lt
  try simp at ka0 ka1 kal
  have kz0 := B1_z.cell 0 _ rfl
  have kz1 := B1_z.cell 1 _ rfl
  have kzl := B1_z.lt
  try simp at kz0 kz1 kzl
  have zf0 := B1_z.free 0 (by simp)
  have zf1 := B1_z.free 1 (by simp)
  try simp at zf0 zf1
  go_wp2_with fail
  refine (C2.out _).mono ?_
  rintro e w2 ⟨rfl, rfl⟩
  have hem' := hem.out
  go_wp2_with (go_at_call 97; refine (size_any _ _ (by omega) (by omega)).mono ?_; rintro e w' ⟨rfl, rfl⟩)
  refine bodyPost_ret (v := .tuple #[.agg #[.int .i64 (L), .int .i64 t], .bool true]) (by simp [results, Tryz.results95, go_sem, kz0, kz1]) rfl ⟨rfl, ?_⟩
  repeat (first | exact W1.out | refine blw_drewN ?_ _ | refine Below.setCell ?_ (by simp) _ | refine Below.alloc ?_ (by first | (simp; done) | (simp; omega)) _)

set_option maxRecDepth 100000 in
set_option maxHeartbeats 1000000 in
theorem rof_dn5b (c s t L r U : Int) (w : World) (ha : okD c s) (t0 : 0 ≤ t) (hst : t < s) (hU : P10 (s - t) = U) (hL : flo c (s - t) = L) (hr : lef c (s - t) = r) (h0 : 0 < r) (h1 : U < 2 * r) :
    Calls Tryz.prog 95 #[.agg #[.int .i64 c, .int .i64 s], .int .i64 t, .int .i64 5] w fun e w' => e = .returned (.tuple #[.agg #[.int .i64 (L + 1), .int .i64 t], .bool true]) ∧ Below w.heap.size w w' := by
  have C1 := Lib.hid fun w => floor_any c (s - t) w ⟨by omega, by have := ha.2.1; omega, ha.2.2.1, ha.2.2.2⟩
  have C2 := Lib.hid fun w => ten_any (s - t) w (by omega) (by have := ha.2.1; omega)
  have fb := Dcm.flo_bd c (s - t) ⟨ha.2.2.1, ha.2.2.2⟩
  have fl := Dcm.flo_lef c (s - t)
  have lb := Dcm.lef_bd c (s - t)
  have hU1 := Dcm.P10_bd (s - t)
  rw [hL] at C1 fb fl
  rw [hU] at C2 fl lb hU1
  rw [hr] at fl lb
  clear hL hU hr
  obtain ⟨s0, s9, c0, c1⟩ := ha
  have mb := Dcm.mag_bd L
  have em : c - L * U = r := by omega
  have hl1 : -1000002000000000 ≤ L * U := by omega
  have hl2 : L * U ≤ 1000002000000000 := by omega
  have hem := Lib.hid em
  have d0 : decide (0 < r) = true := dec_yes h0
  have d1 : decide (U < 2 * r) = true := dec_yes h1
  clear em fl 
  go_enter Tryz.func95, Tryz.ntmps95
  go_wp2_with fail
  refine (C1.out _).mono ?_
  rintro e w1 ⟨rfl, hb⟩
  have B1_a := Boxed.below (Boxed.alloc (Boxed.made _ #[.int .i64 c, .int .i64 s] 37) _) hb
  have B1_z := Boxed.below (Boxed.made _ #[.int .i64 0, .int .i64 0] 37) hb
  have W1 := Lib.hid (blw_trans (blw_trans (blw_trans (Below.refl w.heap.size w) (blw_alloc _ _)) (blw_alloc _ _)) hb)
  clear hb 
  have ka0 := B1_a.cell 0 _ rfl
  have ka1 := B1_a.cell 1 _ rfl
  have kal := B1_a.lt
  try simp at ka0 ka1 kal
  have kz0 := B1_z.cell 0 _ rfl
  have kz1 := B1_z.cell 1 _ rfl
  have kzl := B1_z.lt
  try simp at kz0 kz1 kzl
  have zf0 := B1_z.free 0 (by simp)
  have zf1 := B1_z.free 1 (by simp)
  try simp at zf0 zf1
  go_wp2_with fail
  refine (C2.out _).mono ?_
  rintro e w2 ⟨rfl, rfl⟩
  have hem' := hem.out
  go_wp2_with (go_at_call 97; refine (size_any _ _ (by omega) (by omega)).mono ?_; rintro e w' ⟨rfl, rfl⟩)
  refine bodyPost_ret (v := .tuple #[.agg #[.int .i64 (L + 1), .int .i64 t], .bool true]) (by simp [results, Tryz.results95, go_sem, kz0, kz1]) rfl ⟨rfl, ?_⟩
  repeat (first | exact W1.out | refine blw_drewN ?_ _ | refine Below.setCell ?_ (by simp) _ | refine Below.alloc ?_ (by first | (simp; done) | (simp; omega)) _)

set_option maxRecDepth 100000 in
set_option maxHeartbeats 1000000 in
theorem rof_dn5c (c s t L r U : Int) (w : World) (ha : okD c s) (t0 : 0 ≤ t) (hst : t < s) (hU : P10 (s - t) = U) (hL : flo c (s - t) = L) (hr : lef c (s - t) = r) (h0 : 0 < r) (h1 : ¬ (U < 2 * r)) (h2 : ¬ (2 * r = U)) :
    Calls Tryz.prog 95 #[.agg #[.int .i64 c, .int .i64 s], .int .i64 t, .int .i64 5] w fun e w' => e = .returned (.tuple #[.agg #[.int .i64 (L), .int .i64 t], .bool true]) ∧ Below w.heap.size w w' := by
  have C1 := Lib.hid fun w => floor_any c (s - t) w ⟨by omega, by have := ha.2.1; omega, ha.2.2.1, ha.2.2.2⟩
  have C2 := Lib.hid fun w => ten_any (s - t) w (by omega) (by have := ha.2.1; omega)
  have fb := Dcm.flo_bd c (s - t) ⟨ha.2.2.1, ha.2.2.2⟩
  have fl := Dcm.flo_lef c (s - t)
  have lb := Dcm.lef_bd c (s - t)
  have hU1 := Dcm.P10_bd (s - t)
  rw [hL] at C1 fb fl
  rw [hU] at C2 fl lb hU1
  rw [hr] at fl lb
  clear hL hU hr
  obtain ⟨s0, s9, c0, c1⟩ := ha
  have mb := Dcm.mag_bd L
  have em : c - L * U = r := by omega
  have hl1 : -1000002000000000 ≤ L * U := by omega
  have hl2 : L * U ≤ 1000002000000000 := by omega
  have hem := Lib.hid em
  have d0 : decide (0 < r) = true := dec_yes h0
  have d1 : decide (U < 2 * r) = false := dec_no h1
  have d2 : (2 * r == U) = false := beq_no h2
  clear em fl h2
  go_enter Tryz.func95, Tryz.ntmps95
  go_wp2_with fail
  refine (C1.out _).mono ?_
  rintro e w1 ⟨rfl, hb⟩
  have B1_a := Boxed.below (Boxed.alloc (Boxed.made _ #[.int .i64 c, .int .i64 s] 37) _) hb
  have B1_z := Boxed.below (Boxed.made _ #[.int .i64 0, .int .i64 0] 37) hb
  have W1 := Lib.hid (blw_trans (blw_trans (blw_trans (Below.refl w.heap.size w) (blw_alloc _ _)) (blw_alloc _ _)) hb)
  clear hb 
  have ka0 := B1_a.cell 0 _ rfl
  have ka1 := B1_a.cell 1 _ rfl
  have kal := B1_a.lt
  try simp at ka0 ka1 kal
  have kz0 := B1_z.cell 0 _ rfl
  have kz1 := B1_z.cell 1 _ rfl
  have kzl := B1_z.lt
  try simp at kz0 kz1 kzl
  have zf0 := B1_z.free 0 (by simp)
  have zf1 := B1_z.free 1 (by simp)
  try simp at zf0 zf1
  go_wp2_with fail
  refine (C2.out _).mono ?_
  rintro e w2 ⟨rfl, rfl⟩
  have hem' := hem.out
  go_wp2_with (go_at_call 97; refine (size_any _ _ (by omega) (by omega)).mono ?_; rintro e w' ⟨rfl, rfl⟩)
  refine bodyPost_ret (v := .tuple #[.agg #[.int .i64 (L), .int .i64 t], .bool true]) (by simp [results, Tryz.results95, go_sem, kz0, kz1]) rfl ⟨rfl, ?_⟩
  repeat (first | exact W1.out | refine blw_drewN ?_ _ | refine Below.setCell ?_ (by simp) _ | refine Below.alloc ?_ (by first | (simp; done) | (simp; omega)) _)

set_option maxRecDepth 100000 in
set_option maxHeartbeats 1000000 in
theorem rof_dn5d (c s t L r U : Int) (w : World) (ha : okD c s) (t0 : 0 ≤ t) (hst : t < s) (hU : P10 (s - t) = U) (hL : flo c (s - t) = L) (hr : lef c (s - t) = r) (h0 : 0 < r) (h1 : ¬ (U < 2 * r)) (h2 : 2 * r = U) (h3 : mag L % 2 = 1) :
    Calls Tryz.prog 95 #[.agg #[.int .i64 c, .int .i64 s], .int .i64 t, .int .i64 5] w fun e w' => e = .returned (.tuple #[.agg #[.int .i64 (L + 1), .int .i64 t], .bool true]) ∧ Below w.heap.size w w' := by
  have C1 := Lib.hid fun w => floor_any c (s - t) w ⟨by omega, by have := ha.2.1; omega, ha.2.2.1, ha.2.2.2⟩
  have C2 := Lib.hid fun w => ten_any (s - t) w (by omega) (by have := ha.2.1; omega)
  have fb := Dcm.flo_bd c (s - t) ⟨ha.2.2.1, ha.2.2.2⟩
  have fl := Dcm.flo_lef c (s - t)
  have lb := Dcm.lef_bd c (s - t)
  have hU1 := Dcm.P10_bd (s - t)
  rw [hL] at C1 fb fl
  rw [hU] at C2 fl lb hU1
  rw [hr] at fl lb
  clear hL hU hr
  obtain ⟨s0, s9, c0, c1⟩ := ha
  have mb := Dcm.mag_bd L
  have em : c - L * U = r := by omega
  have hl1 : -1000002000000000 ≤ L * U := by omega
  have hl2 : L * U ≤ 1000002000000000 := by omega
  have hem := Lib.hid em
  have d0 : decide (0 < r) = true := dec_yes h0
  have d1 : decide (U < 2 * r) = false := dec_no h1
  have d2 : (2 * r == U) = true := beq_yes h2
  have d3 : (mag L % 2 == 1) = true := beq_yes h3
  clear em fl h2 h3
  go_enter Tryz.func95, Tryz.ntmps95
  go_wp2_with fail
  refine (C1.out _).mono ?_
  rintro e w1 ⟨rfl, hb⟩
  have B1_a := Boxed.below (Boxed.alloc (Boxed.made _ #[.int .i64 c, .int .i64 s] 37) _) hb
  have B1_z := Boxed.below (Boxed.made _ #[.int .i64 0, .int .i64 0] 37) hb
  have W1 := Lib.hid (blw_trans (blw_trans (blw_trans (Below.refl w.heap.size w) (blw_alloc _ _)) (blw_alloc _ _)) hb)
  clear hb 
  have ka0 := B1_a.cell 0 _ rfl
  have ka1 := B1_a.cell 1 _ rfl
  have kal := B1_a.lt
  try simp at ka0 ka1 kal
  have kz0 := B1_z.cell 0 _ rfl
  have kz1 := B1_z.cell 1 _ rfl
  have kzl := B1_z.lt
  try simp at kz0 kz1 kzl
  have zf0 := B1_z.free 0 (by simp)
  have zf1 := B1_z.free 1 (by simp)
  try simp at zf0 zf1
  go_wp2_with fail
  refine (C2.out _).mono ?_
  rintro e w2 ⟨rfl, rfl⟩
  have hem' := hem.out
  go_wp2_with (go_at_call 97; refine (size_any _ _ (by omega) (by omega)).mono ?_; rintro e w' ⟨rfl, rfl⟩)
  refine bodyPost_ret (v := .tuple #[.agg #[.int .i64 (L + 1), .int .i64 t], .bool true]) (by simp [results, Tryz.results95, go_sem, kz0, kz1]) rfl ⟨rfl, ?_⟩
  repeat (first | exact W1.out | refine blw_drewN ?_ _ | refine Below.setCell ?_ (by simp) _ | refine Below.alloc ?_ (by first | (simp; done) | (simp; omega)) _)

set_option maxRecDepth 100000 in
set_option maxHeartbeats 1000000 in
theorem rof_dn5e (c s t L r U : Int) (w : World) (ha : okD c s) (t0 : 0 ≤ t) (hst : t < s) (hU : P10 (s - t) = U) (hL : flo c (s - t) = L) (hr : lef c (s - t) = r) (h0 : 0 < r) (h1 : ¬ (U < 2 * r)) (h2 : 2 * r = U) (h3 : ¬ (mag L % 2 = 1)) :
    Calls Tryz.prog 95 #[.agg #[.int .i64 c, .int .i64 s], .int .i64 t, .int .i64 5] w fun e w' => e = .returned (.tuple #[.agg #[.int .i64 (L), .int .i64 t], .bool true]) ∧ Below w.heap.size w w' := by
  have C1 := Lib.hid fun w => floor_any c (s - t) w ⟨by omega, by have := ha.2.1; omega, ha.2.2.1, ha.2.2.2⟩
  have C2 := Lib.hid fun w => ten_any (s - t) w (by omega) (by have := ha.2.1; omega)
  have fb := Dcm.flo_bd c (s - t) ⟨ha.2.2.1, ha.2.2.2⟩
  have fl := Dcm.flo_lef c (s - t)
  have lb := Dcm.lef_bd c (s - t)
  have hU1 := Dcm.P10_bd (s - t)
  rw [hL] at C1 fb fl
  rw [hU] at C2 fl lb hU1
  rw [hr] at fl lb
  clear hL hU hr
  obtain ⟨s0, s9, c0, c1⟩ := ha
  have mb := Dcm.mag_bd L
  have em : c - L * U = r := by omega
  have hl1 : -1000002000000000 ≤ L * U := by omega
  have hl2 : L * U ≤ 1000002000000000 := by omega
  have hem := Lib.hid em
  have d0 : decide (0 < r) = true := dec_yes h0
  have d1 : decide (U < 2 * r) = false := dec_no h1
  have d2 : (2 * r == U) = true := beq_yes h2
  have d3 : (mag L % 2 == 1) = false := beq_no h3
  clear em fl h2 h3
  go_enter Tryz.func95, Tryz.ntmps95
  go_wp2_with fail
  refine (C1.out _).mono ?_
  rintro e w1 ⟨rfl, hb⟩
  have B1_a := Boxed.below (Boxed.alloc (Boxed.made _ #[.int .i64 c, .int .i64 s] 37) _) hb
  have B1_z := Boxed.below (Boxed.made _ #[.int .i64 0, .int .i64 0] 37) hb
  have W1 := Lib.hid (blw_trans (blw_trans (blw_trans (Below.refl w.heap.size w) (blw_alloc _ _)) (blw_alloc _ _)) hb)
  clear hb 
  have ka0 := B1_a.cell 0 _ rfl
  have ka1 := B1_a.cell 1 _ rfl
  have kal := B1_a.lt
  try simp at ka0 ka1 kal
  have kz0 := B1_z.cell 0 _ rfl
  have kz1 := B1_z.cell 1 _ rfl
  have kzl := B1_z.lt
  try simp at kz0 kz1 kzl
  have zf0 := B1_z.free 0 (by simp)
  have zf1 := B1_z.free 1 (by simp)
  try simp at zf0 zf1
  go_wp2_with fail
  refine (C2.out _).mono ?_
  rintro e w2 ⟨rfl, rfl⟩
  have hem' := hem.out
  go_wp2_with (go_at_call 97; refine (size_any _ _ (by omega) (by omega)).mono ?_; rintro e w' ⟨rfl, rfl⟩)
  refine bodyPost_ret (v := .tuple #[.agg #[.int .i64 (L), .int .i64 t], .bool true]) (by simp [results, Tryz.results95, go_sem, kz0, kz1]) rfl ⟨rfl, ?_⟩
  repeat (first | exact W1.out | refine blw_drewN ?_ _ | refine Below.setCell ?_ (by simp) _ | refine Below.alloc ?_ (by first | (simp; done) | (simp; omega)) _)

theorem rof_yes (c s t way : Int) (w : World) (h : rndE c s t way = 0) :
    Calls Tryz.prog 95 #[.agg #[.int .i64 c, .int .i64 s], .int .i64 t, .int .i64 way] w fun e w' => e = .returned (.tuple #[.agg #[.int .i64 (Dcm.rndC c s t way), .int .i64 t], .bool true]) ∧ Below w.heap.size w w' := by
  obtain ⟨ha, t0, t9, w0, w1, hr⟩ := rndE_zero.1 h
  by_cases hst : s ≤ t
  · have e : Dcm.rndC c s t way = c * P10 (t - s) := by unfold Dcm.rndC; rw [if_pos hst]
    rw [e]
    exact rof_up_yes c s t way w ha t9 hst (hr hst)
  · have e := Dcm.rndC_F c s t way (by omega) w0 w1
    unfold Dcm.rndF at e
    rw [show c / P10 (s - t) = flo c (s - t) from rfl, show c % P10 (s - t) = lef c (s - t) from rfl] at e
    obtain ⟨U, hU⟩ : ∃ U, P10 (s - t) = U := ⟨_, rfl⟩
    obtain ⟨L, hL⟩ : ∃ L, flo c (s - t) = L := ⟨_, rfl⟩
    obtain ⟨r, hr⟩ : ∃ r, lef c (s - t) = r := ⟨_, rfl⟩
    have lb := Dcm.lef_bd c (s - t)
    rw [hU, hL, hr] at e
    rw [hU, hr] at lb
    rw [e]
    rcases Dcm.ways way w0 w1 with rfl | rfl | rfl | rfl | rfl
    · by_cases h0 : 0 < r
      · by_cases h1 : c < 0
        · have u : Dcm.upB 1 L r U c = true := by rw [Dcm.upB1, dec_yes h0, dec_yes h1]; rfl
          rw [u]
          have g := rof_dn1b c s t L r U w ha t0 (by omega) hU hL hr h0 h1
          simpa using g
        · have u : Dcm.upB 1 L r U c = false := by rw [Dcm.upB1, dec_yes h0, dec_no h1]; rfl
          rw [u]
          have g := rof_dn1c c s t L r U w ha t0 (by omega) hU hL hr h0 h1
          simpa using g
      · have u : Dcm.upB 1 L r U c = false := by rw [Dcm.upB1, dec_no h0]; rfl
        rw [u]
        have g := rof_dn1a c s t L r U w ha t0 (by omega) hU hL hr h0
        simpa using g
    · by_cases h0 : 0 < r
      · have u : Dcm.upB 2 L r U c = false := by rw [Dcm.upB2]
        rw [u]
        have g := rof_dn2b c s t L r U w ha t0 (by omega) hU hL hr h0
        simpa using g
      · have u : Dcm.upB 2 L r U c = false := by rw [Dcm.upB2]
        rw [u]
        have g := rof_dn2a c s t L r U w ha t0 (by omega) hU hL hr h0
        simpa using g
    · by_cases h0 : 0 < r
      · have u : Dcm.upB 3 L r U c = true := by rw [Dcm.upB3, dec_yes h0]
        rw [u]
        have g := rof_dn3b c s t L r U w ha t0 (by omega) hU hL hr h0
        simpa using g
      · have u : Dcm.upB 3 L r U c = false := by rw [Dcm.upB3, dec_no h0]
        rw [u]
        have g := rof_dn3a c s t L r U w ha t0 (by omega) hU hL hr h0
        simpa using g
    · by_cases h0 : 0 < r
      · by_cases h1 : U < 2 * r
        · have u : Dcm.upB 4 L r U c = true := by rw [Dcm.upB4, dec_yes h1]; rfl
          rw [u]
          have g := rof_dn4b c s t L r U w ha t0 (by omega) hU hL hr h0 h1
          simpa using g
        · by_cases h2 : 2 * r = U
          · by_cases h3 : 0 < c
            · have u : Dcm.upB 4 L r U c = true := by rw [Dcm.upB4, dec_no h1, dec_yes h2, dec_yes h3]; rfl
              rw [u]
              have g := rof_dn4d c s t L r U w ha t0 (by omega) hU hL hr h0 h1 h2 h3
              simpa using g
            · have u : Dcm.upB 4 L r U c = false := by rw [Dcm.upB4, dec_no h1, dec_yes h2, dec_no h3]; rfl
              rw [u]
              have g := rof_dn4e c s t L r U w ha t0 (by omega) hU hL hr h0 h1 h2 h3
              simpa using g
          · have u : Dcm.upB 4 L r U c = false := by rw [Dcm.upB4, dec_no h1, dec_no h2]; rfl
            rw [u]
            have g := rof_dn4c c s t L r U w ha t0 (by omega) hU hL hr h0 h1 h2
            simpa using g
      · have h1 : ¬ U < 2 * r := by omega
        have h2 : ¬ 2 * r = U := by omega
        have u : Dcm.upB 4 L r U c = false := by rw [Dcm.upB4, dec_no h1, dec_no h2]; rfl
        rw [u]
        have g := rof_dn4a c s t L r U w ha t0 (by omega) hU hL hr h0 h1 h2
        simpa using g
    · by_cases h0 : 0 < r
      · by_cases h1 : U < 2 * r
        · have u : Dcm.upB 5 L r U c = true := by rw [Dcm.upB5, dec_yes h1]; rfl
          rw [u]
          have g := rof_dn5b c s t L r U w ha t0 (by omega) hU hL hr h0 h1
          simpa using g
        · by_cases h2 : 2 * r = U
          · by_cases h3 : mag L % 2 = 1
            · have u : Dcm.upB 5 L r U c = true := by rw [Dcm.upB5, dec_no h1, dec_yes h2, dec_yes h3]; rfl
              rw [u]
              have g := rof_dn5d c s t L r U w ha t0 (by omega) hU hL hr h0 h1 h2 h3
              simpa using g
            · have u : Dcm.upB 5 L r U c = false := by rw [Dcm.upB5, dec_no h1, dec_yes h2, dec_no h3]; rfl
              rw [u]
              have g := rof_dn5e c s t L r U w ha t0 (by omega) hU hL hr h0 h1 h2 h3
              simpa using g
          · have u : Dcm.upB 5 L r U c = false := by rw [Dcm.upB5, dec_no h1, dec_no h2]; rfl
            rw [u]
            have g := rof_dn5c c s t L r U w ha t0 (by omega) hU hL hr h0 h1 h2
            simpa using g
      · have h1 : ¬ U < 2 * r := by omega
        have h2 : ¬ 2 * r = U := by omega
        have u : Dcm.upB 5 L r U c = false := by rw [Dcm.upB5, dec_no h1, dec_no h2]; rfl
        rw [u]
        have g := rof_dn5a c s t L r U w ha t0 (by omega) hU hL hr h0 h1 h2
        simpa using g
end Go.Proofs.YtaijjffnamjhiaaGreatDoor
namespace Spl
open Go Go.Lib

theorem split_hit {s sub : List UInt8} {i : Nat} (hsub : sub ≠ []) (h : index s sub = i) : split s sub = s.take i :: split (s.drop (i + sub.length)) sub := by
  have hne : ((i : Int) == -1) = false := by rw [beq_eq_false_iff_ne]; omega
  unfold split
  rw [count_hit hsub h, Nat.add_comm 1]
  simp [splitK, h, hne]
theorem split_miss {s sub : List UInt8} (h : index s sub = -1) : split s sub = [s] := by
  unfold split
  rw [count_miss h]
  rfl
theorem splitK_len {sub : List UInt8} (hsub : sub ≠ []) : ∀ (k : Nat) (s : List UInt8), count s sub = k → (splitK sub 0 k s).length = k + 1
  | 0, _, _ => rfl
  | k + 1, s, h => by
    by_cases hi : index s sub = -1
    · rw [count_miss hi] at h; omega
    · have hg := index_ge s sub
      have he : index s sub = ((index s sub).toNat : Int) := by omega
      rw [count_hit hsub he] at h
      have hb : (index s sub == -1) = false := by rw [beq_eq_false_iff_ne]; exact hi
      simp only [splitK, hb, Bool.false_eq_true, if_false, List.length_cons]
      rw [splitK_len hsub k _ (by omega)]
theorem split_len {s sub : List UInt8} (hsub : sub ≠ []) : (split s sub).length = count s sub + 1 := splitK_len hsub _ s rfl
theorem occ_drop (s sub : List UInt8) (a j : Nat) : occAt (s.drop a) sub j = occAt s sub (a + j) := by
  unfold occAt
  rw [List.drop_drop]

/-- what the loop of a cut keeps: the pieces so far, from where the next one is, up to where it is looked for -/
def Inv (s sub : List UInt8) (P : List (List UInt8)) (a b : Nat) : Prop := split s sub = P ++ split (s.drop a) sub ∧ ∀ j, a ≤ j → j < b → occAt s sub j = false
theorem inv_start (s sub : List UInt8) : Inv s sub [] 0 0 := ⟨rfl, fun j _ h => by omega⟩
theorem inv_miss {s sub : List UInt8} {P : List (List UInt8)} {a b : Nat} (h : Inv s sub P a b) (hb : b + sub.length ≤ s.length) (hx : ¬ (s.drop b).take sub.length = sub) : Inv s sub P a (b + 1) := by
  refine ⟨h.1, fun j h1 h2 => ?_⟩
  by_cases e : j = b
  · subst e
    rw [occAt_iff_take s sub j hb]
    exact beq_eq_false_iff_ne.2 hx
  · exact h.2 j h1 (by omega)
theorem inv_hit {s sub : List UInt8} {P : List (List UInt8)} {a b : Nat} (h : Inv s sub P a b) (hsub : sub ≠ []) (hab : a ≤ b) (hb : b + sub.length ≤ s.length) (hx : (s.drop b).take sub.length = sub) :
    Inv s sub (P ++ [(s.drop a).take (b - a)]) (b + sub.length) (b + sub.length) := by
  refine ⟨?_, fun j _ h2 => by omega⟩
  have hi : index (s.drop a) sub = ((b - a : Nat) : Int) := by
    refine index_first (by rw [List.length_drop]; omega) ?_ fun j hj => ?_
    · rw [occ_drop, show a + (b - a) = b by omega, occAt_iff_take s sub b hb, hx]
      exact beq_self_eq_true _
    · rw [occ_drop]
      exact h.2 _ (by omega) (by omega)
  rw [h.1, split_hit hsub hi, List.drop_drop, show a + (b - a + sub.length) = b + sub.length by omega]
  simp
theorem inv_end {s sub : List UInt8} {P : List (List UInt8)} {a b : Nat} (h : Inv s sub P a b) (hsub : sub ≠ []) (hb : ¬ b + sub.length ≤ s.length) : split s sub = P ++ [s.drop a] := by
  have hi : index (s.drop a) sub = -1 := by
    refine index_none fun j _ => ?_
    rw [occ_drop]
    by_cases hj : a + j < b
    · exact h.2 _ (by omega) hj
    · cases ho : occAt s sub (a + j) with
      | false => rfl
      | true =>
        rcases occAt_room ho with g | g
        · omega
        · exact absurd g hsub
  rw [h.1, split_miss hi]
end Spl
namespace Go.Proofs.YtaijjffnamjhiaaGreatDoor
open Go.RowKit

/-- a call that gives these texts, and turns nothing old -/
def GivesStrs (w : World) (l : List (List UInt8)) (e : Ending) (w' : World) : Prop := ∃ v, e = .returned v ∧ StrsAt w' v l ∧ Below w.heap.size w w'

theorem slice_midI {P : Program} (t : TypeId) (h : P.underlying t = some .string) (L : List UInt8) (i j : Int) (a b : Nat) (hi : i = a) (hj : j = b) (hab : a ≤ b) (hb : b ≤ L.length) (w : World) :
    (Instr.slice t (.string ⟨L.toArray⟩) (some (.int .i64 i)) (some (.int .i64 j)) none).run P w = .ok (.string ⟨((L.drop a).take (b - a)).toArray⟩) w := by
  subst hi hj; exact slice_mid t h L .i64 .i64 a b hab hb w
theorem infoStr : (Tryz.prog.info? 9).map (fun i => (i.zero, i.size, i.bytes)) = some (some (.string ByteArray.empty), 1, 16) := by kernel_rfl

set_option maxRecDepth 100000 in
set_option maxHeartbeats 1000000 in
theorem cut_any (s at_ : List UInt8) (w : World) (ha : at_ ≠ []) (hs : s.length ≤ 4000000000) (hat : at_.length ≤ 4000000000) :
    Calls Tryz.prog 58 #[.string ⟨s.toArray⟩, .string ⟨at_.toArray⟩] w (GivesStrs w (Lib.split s at_)) := by
  obtain ⟨i0, hi, hz0, hz1, hz2⟩ := info_parts infoStr
  have hm : 0 < at_.length := List.length_pos_iff.2 ha
  have HA := Lib.hid ha
  clear ha
  go_enter Tryz.func58, Tryz.ntmps58
  go_wp2_with fail
  go_loopw [5, 6, 7] (fun o f i wr => ∃ (P : List (List UInt8)) (a b : Nat), f = .int .i64 a ∧ i = .int .i64 b ∧ a ≤ b ∧ b ≤ s.length ∧ P.length ≤ a ∧ Hid (wr.ownsRow w.heap.size 9 1 o P.length (P.map txtV)) ∧ Hid (Below w.heap.size w wr) ∧ Hid (Spl.Inv s at_ P a b)) (fun _ _ i _ => s.length - (RowKit.intOf i).toNat)
  case atStart => exact ⟨[], 0, 0, rfl, rfl, Nat.le_refl _, Nat.zero_le _, Nat.le_refl _, ⟨rfl, .inl ⟨rfl, rfl⟩⟩, Below.refl _ _, Spl.inv_start s at_⟩
  case round =>
    obtain ⟨P, a, b, rfl, rfl, hab, hb, hP, HO, HB, HI⟩ := hrel
    by_cases hroom : b + at_.length ≤ s.length
    · have SM := fun w => slice_midI (P := Tryz.prog) 9 Tryz.underlying9 s (b : Int) ((b : Int) + (at_.length : Int)) b (b + at_.length) rfl (by omega) (by omega) hroom w
      have e0 : b + at_.length - b = at_.length := by omega
      rw [e0] at SM
      clear e0
      by_cases hX : (s.drop b).take at_.length = at_
      · have IH := Lib.hid (Spl.inv_hit HI.out HA.out hab hroom hX)
        rw [hX] at SM
        have S2 := fun w => slice_midI (P := Tryz.prog) 9 Tryz.underlying9 s (a : Int) (b : Int) a b rfl rfl hab hb w
        clear hX HI
        generalize (s.drop a).take (b - a) = u at *
        have hown := HO.out
        have hbs := HB.out.size
        go_wp2_with (at_builtin; refine wpList_append_own _ rfl _ _ 107 rfl w.heap.size 9 i0 (.string ByteArray.empty) 1 16 Tryz.underlying107 hi hz0 hz1 hz2 rfl (by decide) _ _ _ rfl (hown.alloc _) ⟨wr.heap.size, 0, none⟩ 1 1 [txtV u] rfl rfl (cell_one_new _ _ _) (fun x hx => by simp at hx; subst hx; rfl) (by unfold maxLen; omega) (by omega) (by simp; omega) ?_; intro v' w1 hown' hgrow _)
        have HO' := Lib.hid (show w1.ownsRow w.heap.size 9 1 v' (P ++ [u]).length ((P ++ [u]).map txtV) by simpa using hown')
        have HB' := Lib.hid (show Below w.heap.size w w1 from (HB.out.alloc hbs _).grown hgrow (by simp; omega) (fun k hk => (hown.lt k hk).1))
        clear hown hown' hgrow hbs HO HB S2
        go_wp2_with fail
        go_roundw
        case rel => exact ⟨P ++ [u], b + at_.length, b + at_.length, by go_num, by go_num, Nat.le_refl _, hroom, by simp; omega, HO', HB', IH⟩
        case measure => simp [RowKit.intOf]; omega
      · have IH := Lib.hid (Spl.inv_miss HI.out hroom hX)
        have hXb : ((s.drop b).take at_.length == at_) = false := beq_eq_false_iff_ne.2 hX
        clear HI hX
        generalize (s.drop b).take at_.length = u at *
        go_wp2_with fail
        go_roundw
        case rel => exact ⟨P, a, b + 1, rfl, by go_num, by omega, by omega, hP, HO, HB, IH⟩
        case measure => simp [RowKit.intOf]; omega
    · have IE := Lib.hid (Spl.inv_end HI.out HA.out hroom)
      have S3 := fun w => slice_from (P := Tryz.prog) 9 Tryz.underlying9 s .i64 a (by omega) w
      clear HI
      generalize s.drop a = u at *
      have hown := HO.out
      have hbs := HB.out.size
      go_wp2_with (at_builtin; refine wpList_append_own _ rfl _ _ 107 rfl w.heap.size 9 i0 (.string ByteArray.empty) 1 16 Tryz.underlying107 hi hz0 hz1 hz2 rfl (by decide) _ _ _ rfl (hown.alloc _) ⟨wr.heap.size, 0, none⟩ 1 1 [txtV u] rfl rfl (cell_one_new _ _ _) (fun x hx => by simp at hx; subst hx; rfl) (by unfold maxLen; omega) (by omega) (by simp; omega) ?_; intro v' w1 hown' hgrow _)
      have HO' := Lib.hid (show w1.ownsRow w.heap.size 9 1 v' (P ++ [u]).length ((P ++ [u]).map txtV) by simpa using hown')
      have HB' := Lib.hid (show Below w.heap.size w w1 from (HB.out.alloc hbs _).grown hgrow (by simp; omega) (fun k hk => (hown.lt k hk).1))
      clear hown hown' hgrow hbs HO HB S3
      go_wp2_with fail
      go_ret
      exact ⟨_, rfl, by rw [IE.out]; exact StrsAt.of_row HO'.out, HB'.out⟩
end Go.Proofs.YtaijjffnamjhiaaGreatDoor
namespace Go.Proofs.YtaijjffnamjhiaaGreatDoor
open Go.RowKit

theorem ret_beq {a b : List UInt8} : Ending.returned (.bool (a == b)) = .returned (.bool (a == b)) := rfl
set_option maxRecDepth 100000 in
set_option maxHeartbeats 400000 in
theorem starts_any (s p : List UInt8) (w : World) :
    Calls Tryz.prog 99 #[.string ⟨s.toArray⟩, .string ⟨p.toArray⟩] w fun e w' => e = .returned (.bool (s.take p.length == p)) ∧ w' = w := by
  by_cases h : p.length ≤ s.length
  · have SL := fun w => slice_to (P := Tryz.prog) 9 Tryz.underlying9 s .i64 p.length h w
    generalize s.take p.length = T at *
    cases hb : T == p
    · have hq : T ≠ p := beq_eq_false_iff_ne.1 hb
      clear hq
      go_enter Tryz.func99, Tryz.ntmps99
      go_wp2_with fail
      go_ret
      exact ⟨rfl, rfl⟩
    · go_enter Tryz.func99, Tryz.ntmps99
      go_wp2_with fail
      go_ret
      exact ⟨rfl, rfl⟩
  · have e : (s.take p.length == p) = false := beq_eq_false_iff_ne.2 fun g => by
      have := congrArg List.length g
      rw [List.length_take] at this; omega
    rw [e]
    clear e
    go_enter Tryz.func99, Tryz.ntmps99
    go_wp2_with fail
    go_ret
    exact ⟨rfl, rfl⟩

theorem u8_sub (x : Int) (h0 : 48 ≤ x) (h1 : x ≤ 57) : IntKind.u8.wrap (x - 48) = x - 48 := by
  have : x = 48 ∨ x = 49 ∨ x = 50 ∨ x = 51 ∨ x = 52 ∨ x = 53 ∨ x = 54 ∨ x = 55 ∨ x = 56 ∨ x = 57 := by omega
  rcases this with rfl | rfl | rfl | rfl | rfl | rfl | rfl | rfl | rfl | rfl <;> decide
theorem all_snoc {s : List UInt8} {k : Nat} {c : UInt8} (h : s[k]? = some c) (p : UInt8 → Bool) : (s.take (k + 1)).all p = ((s.take k).all p && p c) := by
  rw [List.take_add_one, h, List.all_append]; simp
theorem fold_snoc {s : List UInt8} {k : Nat} {c : UInt8} (h : s[k]? = some c) : Byt.foldD 0 (s.take (k + 1)) = 10 * Byt.foldD 0 (s.take k) + (c.toNat - 48) := by
  rw [List.take_add_one, h, Byt.foldD_app]; rfl
theorem all_of_take {s : List UInt8} {k : Nat} {c : UInt8} {p : UInt8 → Bool} (h : s[k]? = some c) (hp : p c = false) : s.all p = false :=
  List.all_eq_false.2 ⟨c, List.mem_of_getElem? h, by rw [hp]; decide⟩
theorem fold_take_bd {s : List UInt8} {k : Nat} (h : (s.take k).all Byt.isDig = true) (hk : k ≤ 16) : Byt.foldD 0 (s.take k) < 10000000000000000 := by
  have := Byt.foldD_bd (s.take k) fun c hc => Byt.isDig_iff.1 (List.all_eq_true.1 h c hc)
  have hl : (s.take k).length ≤ 16 := by rw [List.length_take]; omega
  have : 10 ^ (s.take k).length ≤ 10 ^ 16 := Nat.pow_le_pow_right (by omega) hl
  omega

set_option maxRecDepth 100000 in
set_option maxHeartbeats 2000000 in
theorem numof_any (s : List UInt8) (w : World) (hs : s.length ≤ 4000000000) :
    Calls Tryz.prog 114 #[.string ⟨s.toArray⟩] w fun e w' => e = .returned (.int .i64 (Byt.numP s)) ∧ Below w.heap.size w w' := by
  have HP := Lib.hid (show Byt.numP s = if s.length = 0 ∨ 16 < s.length then -1 else if s.all Byt.isDig = true then (if Lib.decDigits (Byt.foldD 0 s) = s ∧ (Byt.foldD 0 s : Int) ≤ 1000000000000000 then (Byt.foldD 0 s : Int) else -1) else -1 from rfl)
  generalize Byt.numP s = V at *
  by_cases h0 : s.length = 0
  · have HV := Lib.hid (show V = -1 by rw [HP.out, if_pos (.inl h0)])
    have d0 : ((s.length : Int) == 0) = true := beq_yes (by omega)
    clear HP h0
    go_enter Tryz.func114, Tryz.ntmps114
    go_wp2_with fail
    go_ret
    exact ⟨ret_int (by rw [HV.out]), Below.refl _ _⟩
  have d0 : ((s.length : Int) == 0) = false := beq_no (by omega)
  by_cases h1 : 16 < s.length
  · have HV := Lib.hid (show V = -1 by rw [HP.out, if_pos (.inr h1)])
    have d1 : decide (16 < (s.length : Int)) = true := dec_yes (by omega)
    clear HP h0
    go_enter Tryz.func114, Tryz.ntmps114
    go_wp2_with fail
    go_ret
    exact ⟨ret_int (by rw [HV.out]), Below.refl _ _⟩
  have HQ := Lib.hid (show V = if s.all Byt.isDig = true then (if Lib.decDigits (Byt.foldD 0 s) = s ∧ (Byt.foldD 0 s : Int) ≤ 1000000000000000 then (Byt.foldD 0 s : Int) else -1) else -1 by rw [HP.out, if_neg (by omega)])
  have d1 : decide (16 < (s.length : Int)) = false := dec_no (by omega)
  have hl : s.length ≤ 16 := by omega
  clear HP h0 h1
  go_enter Tryz.func114, Tryz.ntmps114
  go_wp2_with fail
  clear d0 d1
  go_loop [3, 4] (fun n i => ∃ k : Nat, i = .int .i64 k ∧ n = .int .i64 (Byt.foldD 0 (s.take k)) ∧ k ≤ s.length ∧ Hid ((s.take k).all Byt.isDig = true)) (fun _ i => s.length - (RowKit.intOf i).toNat)
  case atStart => exact ⟨0, rfl, rfl, Nat.zero_le _, Lib.hid rfl⟩
  case round =>
    obtain ⟨k, rfl, rfl, hk, HA⟩ := hrel
    have hb := fold_take_bd HA.out (by omega)
    by_cases hlt : k < s.length
    · obtain ⟨c, hx⟩ : ∃ c, s[k]? = some c := ⟨s[k], List.getElem?_eq_getElem hlt⟩
      have IX := fun w => index_str (P := Tryz.prog) 9 Tryz.underlying9 s .i64 k c hx w
      have hcb := c.toNat_lt
      by_cases hd : 48 ≤ c.toNat ∧ c.toNat ≤ 57
      · have HN := Lib.hid (fold_snoc hx)
        have HA2 := Lib.hid (show (s.take (k + 1)).all Byt.isDig = true by rw [all_snoc hx, HA.out, Byt.isDig_iff.2 hd]; rfl)
        have us := u8_sub (c.toNat : Int) (by omega) (by omega)
        obtain ⟨g0, g1⟩ := hd
        have e0 : decide ((c.toNat : Int) < 48) = false := dec_no (by omega)
        have e1 : decide (57 < (c.toNat : Int)) = false := dec_no (by omega)
        clear hx HA
        generalize Byt.foldD 0 (s.take k) = N at *
        go_wp2_with fail
        go_round
        case rel => exact ⟨k + 1, by go_num, congrArg (Value.int .i64) (by rw [HN.out]; omega), by omega, HA2⟩
        case measure => simp [RowKit.intOf]; omega
      · have HV := Lib.hid (show V = -1 by
          rw [HQ.out, if_neg]
          rw [all_of_take hx (show Byt.isDig c = false by
            cases hq : Byt.isDig c with
            | false => rfl
            | true => exact absurd (Byt.isDig_iff.1 hq) hd)]
          decide)
        clear hx HA HQ
        generalize Byt.foldD 0 (s.take k) = N at *
        by_cases g0 : c.toNat < 48
        · have e0 : decide ((c.toNat : Int) < 48) = true := dec_yes (by omega)
          go_wp2_with fail
          go_ret
          exact ⟨ret_int (by rw [HV.out]), Below.refl _ _⟩
        · have e0 : decide ((c.toNat : Int) < 48) = false := dec_no (by omega)
          have e1 : decide (57 < (c.toNat : Int)) = true := dec_yes (by omega)
          go_wp2_with fail
          go_ret
          exact ⟨ret_int (by rw [HV.out]), Below.refl _ _⟩
    · have ht : s.take k = s := List.take_of_length_le (by omega)
      rw [ht] at HA hb ⊢
      clear ht
      have CD := Lib.hid fun w => digits_none (Byt.foldD 0 s : Int) w (by omega) (by omega)
      rw [Int.toNat_natCast] at CD
      have HQ2 := Lib.hid (show V = if Lib.decDigits (Byt.foldD 0 s) = s ∧ (Byt.foldD 0 s : Int) ≤ 1000000000000000 then (Byt.foldD 0 s : Int) else -1 by rw [HQ.out, if_pos HA.out])
      clear HQ HA
      generalize Byt.foldD 0 s = N at *
      generalize Lib.decDigits N = D at *
      by_cases hq : D = s
      · have q1 : (D == s) = true := by rw [hq]; simp
        have q2 : (D != s) = false := by rw [bne, q1]; rfl
        by_cases hn : (N : Int) ≤ 1000000000000000
        · have HV := Lib.hid (show V = (N : Int) by rw [HQ2.out, if_pos ⟨hq, hn⟩])
          have e1 : decide (1000000000000000 < (N : Int)) = false := dec_no (by omega)
          clear hq HQ2
          go_wp2_with fail
          refine (CD.out _).mono ?_
          rintro e w1 ⟨rfl, hw⟩
          have HW := Lib.hid hw
          clear hw CD
          go_wp2_with fail
          go_ret
          exact ⟨ret_int (by rw [HV.out]), HW.out⟩
        · have HV := Lib.hid (show V = -1 by rw [HQ2.out, if_neg (fun g => hn g.2)])
          have e1 : decide (1000000000000000 < (N : Int)) = true := dec_yes (by omega)
          clear hq HQ2
          go_wp2_with fail
          refine (CD.out _).mono ?_
          rintro e w1 ⟨rfl, hw⟩
          have HW := Lib.hid hw
          clear hw CD
          go_wp2_with fail
          go_ret
          exact ⟨ret_int (by rw [HV.out]), HW.out⟩
      · have q1 : (D == s) = false := beq_eq_false_iff_ne.2 hq
        have q2 : (D != s) = true := by rw [bne, q1]; rfl
        have HV := Lib.hid (show V = -1 by rw [HQ2.out, if_neg (fun g => hq g.1)])
        clear hq HQ2
        go_wp2_with fail
        refine (CD.out _).mono ?_
        rintro e w1 ⟨rfl, hw⟩
        have HW := Lib.hid hw
        clear hw CD
        go_wp2_with fail
        go_ret
        exact ⟨ret_int (by rw [HV.out]), HW.out⟩
end Go.Proofs.YtaijjffnamjhiaaGreatDoor
namespace Go.Proofs.YtaijjffnamjhiaaGreatDoor
open Go.RowKit
open Dcm (P10 okD)

set_option maxRecDepth 100000 in
set_option maxHeartbeats 1000000 in
theorem dflt_no (c s : Int) (w : World) (h : okD c s) :
    Calls Tryz.prog 30 #[.agg #[.int .i64 c, .int .i64 s]] w fun e w' => e = .returned (.bool false) ∧ Below w.heap.size w w' := by
  obtain ⟨h1, h2, h3, h4⟩ := h
  have d1 : decide (s < 0) = false := dec_no (by omega)
  have d2 : decide (9 < s) = false := dec_no (by omega)
  have d3 : decide (c < -1000000000000000) = false := dec_no (by omega)
  have d4 : decide (1000000000000000 < c) = false := dec_no (by omega)
  go_enter Tryz.func30, Tryz.ntmps30
  go_wp2
  go_ret
  exact ⟨rfl, blw_alloc _ _⟩
set_option maxRecDepth 100000 in
set_option maxHeartbeats 1000000 in
theorem dflt_yes (c s : Int) (w : World) (h : ¬ okD c s) :
    Calls Tryz.prog 30 #[.agg #[.int .i64 c, .int .i64 s]] w fun e w' => e = .returned (.bool true) ∧ Below w.heap.size w w' := by
  by_cases h1 : s < 0
  · go_enter Tryz.func30, Tryz.ntmps30
    go_wp2
    go_ret
    exact ⟨rfl, blw_alloc _ _⟩
  by_cases h2 : 9 < s
  · go_enter Tryz.func30, Tryz.ntmps30
    go_wp2
    go_ret
    exact ⟨rfl, blw_alloc _ _⟩
  by_cases h3 : c < -1000000000000000
  · go_enter Tryz.func30, Tryz.ntmps30
    go_wp2
    go_ret
    exact ⟨rfl, blw_alloc _ _⟩
  by_cases h4 : 1000000000000000 < c
  · go_enter Tryz.func30, Tryz.ntmps30
    go_wp2
    go_ret
    exact ⟨rfl, blw_alloc _ _⟩
  exact absurd ⟨by omega, by omega, by omega, by omega⟩ h

end Go.Proofs.YtaijjffnamjhiaaGreatDoor
