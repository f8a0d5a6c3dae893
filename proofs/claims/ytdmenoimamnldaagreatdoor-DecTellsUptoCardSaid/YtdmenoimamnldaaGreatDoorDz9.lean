/- Plain law: the text of a number with a point; what is read of it. No program. -/
import Derived.Test.YtdmenoimamnldaaGreatDoorDz8
import Derived.Lib.AtoiAll
import Derived.Lib.AtoiAllCases
import Derived.Lib.IndexMore
import Derived.Lib.Strings
import Derived.Lib.ItoaNum
import Derived.Lib.Repeat
namespace Byt
open Go Go.Lib
/-- a digit, as a byte -/
theorem dig_byte {u : Nat} (h : u < 10) : (UInt8.ofNat (48 + u)).toNat = 48 + u := by rw [UInt8.toNat_ofNat']; omega
theorem parse_cons {a u : Nat} {l : List UInt8} (ha : a < 100000000000000000) (h : u < 10) : parseUint10 a (UInt8.ofNat (48 + u) :: l) = parseUint10 (a * 10 + u) l := by
  rw [parseUint10, dig_byte h, if_pos (by omega), if_neg (by omega), if_neg (by omega), show 48 + u - 48 = u by omega]
theorem atoi_plain {u : Nat} {l : List UInt8} (h : u < 10) : atoiAll (UInt8.ofNat (48 + u) :: l) = match parseUint10 0 (UInt8.ofNat (48 + u) :: l) with | Lib.NumEnd.syntax => Lib.NumEnd.syntax | .range => .range | .ok v => if 9223372036854775808 ≤ v then .range else .ok (v : Int) := by
  have e := dig_byte h
  simp only [atoiAll, e]
  rw [if_neg (by omega)]
  simp only [parseMag, if_neg (List.cons_ne_nil _ _)]
  generalize parseUint10 0 (UInt8.ofNat (48 + u) :: l) = q
  have h45 : ¬ 48 + u = 45 := by omega
  cases q <;> simp [h45]
theorem atoi_pad2 {u : Nat} (h : u < 100) : atoiAll (Dtx.pad 2 u) = .ok (u : Int) := by
  rw [Dtx.pad2 h, atoi_plain (by omega), parse_cons (by omega) (by omega), parse_cons (by omega) (by omega)]
  simp only [parseUint10]
  rw [if_neg (by omega)]
  congr 1; omega
theorem atoi_pad4 {u : Nat} (h : u < 10000) : atoiAll (Dtx.pad 4 u) = .ok (u : Int) := by
  rw [Dtx.pad4 h, atoi_plain (by omega), parse_cons (by omega) (by omega), parse_cons (by omega) (by omega), parse_cons (by omega) (by omega), parse_cons (by omega) (by omega)]
  simp only [parseUint10]
  rw [if_neg (by omega)]
  congr 1; omega
theorem no_dash2 {u : Nat} (h : u < 100) : (45 : UInt8) ∉ Dtx.pad 2 u := by
  rw [Dtx.pad2 h]
  intro hm
  simp only [List.mem_cons, List.not_mem_nil, or_false] at hm
  rcases hm with e | e
  all_goals (have := congrArg UInt8.toNat e; rw [dig_byte (by omega)] at this; simp at this; omega)
theorem no_dash4 {u : Nat} (h : u < 10000) : (45 : UInt8) ∉ Dtx.pad 4 u := by
  rw [Dtx.pad4 h]
  intro hm
  simp only [List.mem_cons, List.not_mem_nil, or_false] at hm
  rcases hm with e | e | e | e
  all_goals (have := congrArg UInt8.toNat e; rw [dig_byte (by omega)] at this; simp at this; omega)
end Byt
namespace Byt
open Go Go.Lib

/-- only digits -/
def AllDig (l : List UInt8) : Prop := ∀ c ∈ l, 48 ≤ c.toNat ∧ c.toNat ≤ 57
theorem dig_decDigits : ∀ (k u : Nat), u < k → AllDig (decDigits u)
  | 0, u, h => by omega
  | k + 1, u, h => by
    by_cases hu : u < 10
    · rw [Dtx.dd1 hu]
      intro c hc
      rw [List.mem_singleton.1 hc, dig_byte hu]; omega
    · rw [Dtx.dd2 hu]
      intro c hc
      rcases List.mem_append.1 hc with hc | hc
      · exact dig_decDigits k (u / 10) (by omega) c hc
      · rw [List.mem_singleton.1 hc, dig_byte (by omega)]; omega
theorem digits_all (u : Nat) : AllDig (decDigits u) := dig_decDigits (u + 1) u (by omega)
theorem digits_ne (u : Nat) : decDigits u ≠ [] := by
  by_cases hu : u < 10
  · rw [Dtx.dd1 hu]; simp
  · rw [Dtx.dd2 hu]; simp
theorem digits_short : ∀ (k u : Nat), u < 10 ^ k → 0 < k → (decDigits u).length ≤ k
  | 0, u, h, h0 => by omega
  | k + 1, u, h, _ => by
    by_cases hu : u < 10
    · rw [Dtx.dd1 hu]; simp
    · rw [Dtx.dd2 hu, List.length_append, List.length_singleton]
      have hk : 0 < k := by
        cases k with
        | zero => omega
        | succ k => omega
      have := digits_short k (u / 10) (by rw [Nat.pow_succ] at h; omega) hk
      omega
theorem parse_digits : ∀ (k u : Nat) (Y : List UInt8), u < k → u < 1000000000000000000 → parseUint10 0 (decDigits u ++ Y) = parseUint10 u Y
  | 0, u, Y, h, _ => by omega
  | k + 1, u, Y, h, hu => by
    by_cases h1 : u < 10
    · rw [Dtx.dd1 h1]
      show parseUint10 0 (UInt8.ofNat (48 + u) :: Y) = _
      rw [parse_cons (by omega) h1]
      congr 1; omega
    · rw [Dtx.dd2 h1, List.append_assoc, parse_digits k (u / 10) _ (by omega) (by omega)]
      show parseUint10 (u / 10) (UInt8.ofNat (48 + u % 10) :: Y) = _
      rw [parse_cons (by omega) (by omega)]
      congr 1; omega
theorem parse_noughts : ∀ (z : Nat) (Y : List UInt8), parseUint10 0 (List.replicate z 48 ++ Y) = parseUint10 0 Y
  | 0, Y => rfl
  | z + 1, Y => by
    rw [List.replicate_succ]
    show parseUint10 0 (UInt8.ofNat (48 + 0) :: (List.replicate z 48 ++ Y)) = _
    rw [parse_cons (by omega) (by omega)]
    exact parse_noughts z Y
/-- the digits with noughts ahead -/
def zdig (z u : Nat) : List UInt8 := List.replicate z 48 ++ decDigits u
theorem zdig_all (z u : Nat) : AllDig (zdig z u) := fun c hc => by
  rcases List.mem_append.1 hc with hc | hc
  · rw [(List.mem_replicate.1 hc).2]; decide
  · exact digits_all u c hc
theorem zdig_mag (z u : Nat) (hu : u < 1000000000000000000) : parseMag (zdig z u) = .ok u := by
  unfold parseMag zdig
  rw [if_neg (by intro e; exact digits_ne u (List.append_eq_nil_iff.1 e).2), parse_noughts]
  have := parse_digits (u + 1) u [] (by omega) hu
  rw [List.append_nil] at this
  rw [this]; rfl
def sgn (c : Int) : List UInt8 := if c < 0 then [45] else []
theorem zdig_atoi (z : Nat) (c : Int) (h : c.natAbs < 1000000000000000000) : atoiAll (sgn c ++ zdig z c.natAbs) = .ok c := by
  by_cases hc : c < 0
  · unfold sgn
    rw [if_pos hc]
    show atoiAll (45 :: zdig z c.natAbs) = _
    rw [atoiAll_minus, zdig_mag z _ h]
    simp only [signed]
    rw [if_neg (by omega)]
    congr 1; omega
  · unfold sgn
    rw [if_neg hc, List.nil_append]
    cases e : zdig z c.natAbs with
    | nil => exact absurd (List.append_eq_nil_iff.1 e).2 (digits_ne _)
    | cons x r =>
      have hx := zdig_all z c.natAbs x (by rw [e]; exact List.mem_cons_self ..)
      rw [atoiAll_plain x r (by omega) (by omega), ← e, zdig_mag z _ h]
      simp only [signless]
      rw [if_neg (by omega)]
      congr 1; omega
/-- how many noughts ahead -/
def zn (c s : Int) : Nat := s.toNat + 1 - (decDigits c.natAbs).length
/-- the text of a number -/
def decText (c s : Int) : List UInt8 :=
  if s ≤ 0 then sgn c ++ decDigits c.natAbs
  else sgn c ++ (zdig (zn c s) c.natAbs).take ((zdig (zn c s) c.natAbs).length - s.toNat) ++ [46] ++ (zdig (zn c s) c.natAbs).drop ((zdig (zn c s) c.natAbs).length - s.toNat)
theorem zdig_len (c s : Int) : s.toNat < (zdig (zn c s) c.natAbs).length := by
  have := List.length_pos_iff.2 (digits_ne c.natAbs)
  unfold zdig zn
  rw [List.length_append, List.length_replicate]; omega
theorem no_point {l : List UInt8} (h : AllDig l) : (46 : UInt8) ∉ l := fun e => by have := h 46 e; exact absurd this.1 (by decide)
theorem sgn_point (c : Int) : (46 : UInt8) ∉ sgn c := by unfold sgn; split <;> simp
theorem cut_hit {X : List UInt8} (Y : List UInt8) (h : (46 : UInt8) ∉ X) : cut (X ++ 46 :: Y) [46] = (X, Y, true) := by
  unfold cut
  rw [idx_hit Y h, if_pos (by omega)]
  simp
theorem cut_miss {X : List UInt8} (h : (46 : UInt8) ∉ X) : cut X [46] = (X, [], false) := by
  unfold cut
  rw [idx_miss h, if_neg (by omega)]
/-- what is cut of a number's text -/
theorem dec_cut (c s : Int) (h : 0 ≤ s ∧ s ≤ 9 ∧ -1000000000000000 ≤ c ∧ c ≤ 1000000000000000) : atoiAll ((cut (decText c s) [46]).1 ++ (cut (decText c s) [46]).2.1) = .ok c ∧ ((cut (decText c s) [46]).2.1.length : Int) = s := by
  obtain ⟨s0, s9, c0, c1⟩ := h
  unfold decText
  by_cases hs : s ≤ 0
  · rw [if_pos hs, cut_miss (by
      intro e
      rcases List.mem_append.1 e with e | e
      · exact sgn_point c e
      · exact no_point (digits_all _) e)]
    refine ⟨?_, by simp; omega⟩
    rw [List.append_nil]
    exact zdig_atoi 0 c (by omega)
  · have hl := zdig_len c s
    rw [if_neg hs, List.append_assoc, List.append_assoc, ← List.append_assoc]
    rw [show ([46] : List UInt8) ++ (zdig (zn c s) c.natAbs).drop ((zdig (zn c s) c.natAbs).length - s.toNat) = 46 :: (zdig (zn c s) c.natAbs).drop ((zdig (zn c s) c.natAbs).length - s.toNat) from rfl, cut_hit _ (by
      intro e
      rcases List.mem_append.1 e with e | e
      · exact sgn_point c e
      · exact no_point (zdig_all _ _) (List.mem_of_mem_take e))]
    refine ⟨?_, by rw [List.length_drop]; omega⟩
    rw [List.append_assoc, List.take_append_drop]
    exact zdig_atoi _ c (by omega)
theorem dec_len (c s : Int) (h : 0 ≤ s ∧ s ≤ 9 ∧ -1000000000000000 ≤ c ∧ c ≤ 1000000000000000) : (decText c s).length ≤ 100 := by
  obtain ⟨s0, s9, c0, c1⟩ := h
  have hd := digits_short 16 c.natAbs (by omega) (by omega)
  have hg : (sgn c).length ≤ 1 := by unfold sgn; split <;> simp
  have hz : (zdig (zn c s) c.natAbs).length ≤ 30 := by
    unfold zdig zn
    rw [List.length_append, List.length_replicate]; omega
  unfold decText
  split
  · rw [List.length_append]; omega
  · simp only [List.length_append, List.length_take, List.length_drop, List.length_singleton]; omega
theorem trim_itoa (c : Int) : trimPrefix (itoa c) [45] = decDigits c.natAbs := by
  unfold trimPrefix itoa hasPrefix
  by_cases hc : c < 0
  · rw [if_pos hc]
    simp [List.isPrefixOf]
  · rw [if_neg hc]
    have e : c.toNat = c.natAbs := by omega
    rw [e]
    cases hD : decDigits c.natAbs with
    | nil => exact absurd hD (digits_ne _)
    | cons x r =>
      have hx := digits_all c.natAbs x (by rw [hD]; exact List.mem_cons_self ..)
      have hne : ((45 : UInt8) == x) = false := by
        rw [beq_eq_false_iff_ne]
        rintro rfl
        exact absurd hx.1 (by decide)
      simp [List.isPrefixOf, hne]
theorem repeat_noughts : ∀ n, repeatL [48] n = List.replicate n 48
  | 0 => rfl
  | n + 1 => by rw [repeatL, repeat_noughts n, List.replicate_succ]; rfl
end Byt
