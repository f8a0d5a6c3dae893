/- Texts of digits: their numbers. Plain: no program. -/
import Derived.Test.YtaijjffnamjhiaaGreatDoorBy1
import Derived.Lib.AtoiAll
import Derived.Test.YtaijjffnamjhiaaGreatDoorDtx
namespace Byt
open Go Go.Lib
/-- a digit, as a byte -/
theorem dig_byte {u : Nat} (h : u < 10) : (UInt8.ofNat (48 + u)).toNat = 48 + u := by rw [UInt8.toNat_ofNat']; omega
theorem parse_cons {a u : Nat} {l : List UInt8} (ha : a < 100000000000000000) (h : u < 10) : parseUint10 a (UInt8.ofNat (48 + u) :: l) = parseUint10 (a * 10 + u) l := by
  rw [parseUint10, dig_byte h, if_pos (by omega), if_neg (by omega), if_neg (by omega), show 48 + u - 48 = u by omega]
theorem atoi_plain {u : Nat} {l : List UInt8} (h : u < 10) : atoiAll (UInt8.ofNat (48 + u) :: l) = match parseUint10 0 (UInt8.ofNat (48 + u) :: l) with | Lib.NumEnd.syntax => Lib.NumEnd.syntax | .range => .range | .ok v => if 9223372036854775808 ≤ v then .range else .ok (v : Int) := by
  have e := dig_byte h
  simp only [atoiAll, e]
  rw [if_neg (by omega)]
  simp only [parseMag, if_neg (List.cons_ne_nil _ _)]
  generalize parseUint10 0 (UInt8.ofNat (48 + u) :: l) = q
  have h45 : ¬ 48 + u = 45 := by omega
  cases q <;> simp [h45]
theorem atoi_pad2 {u : Nat} (h : u < 100) : atoiAll (Dtx.pad 2 u) = .ok (u : Int) := by
  rw [Dtx.pad2 h, atoi_plain (by omega), parse_cons (by omega) (by omega), parse_cons (by omega) (by omega)]
  simp only [parseUint10]
  rw [if_neg (by omega)]
  congr 1; omega
theorem atoi_pad4 {u : Nat} (h : u < 10000) : atoiAll (Dtx.pad 4 u) = .ok (u : Int) := by
  rw [Dtx.pad4 h, atoi_plain (by omega), parse_cons (by omega) (by omega), parse_cons (by omega) (by omega), parse_cons (by omega) (by omega), parse_cons (by omega) (by omega)]
  simp only [parseUint10]
  rw [if_neg (by omega)]
  congr 1; omega
theorem no_dash2 {u : Nat} (h : u < 100) : (45 : UInt8) ∉ Dtx.pad 2 u := by
  rw [Dtx.pad2 h]
  intro hm
  simp only [List.mem_cons, List.not_mem_nil, or_false] at hm
  rcases hm with e | e
  all_goals (have := congrArg UInt8.toNat e; rw [dig_byte (by omega)] at this; simp at this; omega)
theorem no_dash4 {u : Nat} (h : u < 10000) : (45 : UInt8) ∉ Dtx.pad 4 u := by
  rw [Dtx.pad4 h]
  intro hm
  simp only [List.mem_cons, List.not_mem_nil, or_false] at hm
  rcases hm with e | e | e | e
  all_goals (have := congrArg UInt8.toNat e; rw [dig_byte (by omega)] at this; simp at this; omega)
end Byt
