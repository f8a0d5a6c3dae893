/- Texts joined: the plain law. No program in sight. -/
import Derived.Lib.Join
namespace Lst
open Go Go.Lib
/-- the first k texts, joined -/
def upto (l : List (List UInt8)) (sep : List UInt8) (k : Nat) : List UInt8 := join (l.take k) sep
theorem upto_zero (l : List (List UInt8)) (sep : List UInt8) : upto l sep 0 = [] := by unfold upto; rw [List.take_zero]; exact join_nil sep
theorem upto_one (l : List (List UInt8)) (sep x : List UInt8) (h : l[0]? = some x) : upto l sep 1 = x := by
  unfold upto
  cases l with
  | nil => simp at h
  | cons y r => simp at h; subst h; simp [join_one]
theorem upto_succ (l : List (List UInt8)) (sep x : List UInt8) (k : Nat) (h0 : 0 < k) (h : l[k]? = some x) : upto l sep (k + 1) = upto l sep k ++ sep ++ x := by
  unfold upto
  cases l with
  | nil => simp at h
  | cons y r =>
    cases k with
    | zero => omega
    | succ k =>
      rw [List.take_succ_cons, List.take_succ_cons, join_cons, join_cons]
      rw [joinTail_take_succ sep r k x (by simpa using h)]
      simp
theorem upto_all (l : List (List UInt8)) (sep : List UInt8) (k : Nat) (h : l.length ≤ k) : upto l sep k = join l sep := by unfold upto; rw [List.take_of_length_le h]
def total (l : List (List UInt8)) (sep : List UInt8) : Nat := sep.length * l.length + lens l
theorem join_le (l : List (List UInt8)) (sep : List UInt8) : (join l sep).length ≤ total l sep := by
  cases l with
  | nil => rw [join_nil]; simp [total]
  | cons x r => rw [join_length]; unfold total; simp [Nat.mul_succ]; try omega
theorem lens_take (l : List (List UInt8)) (k : Nat) : lens (l.take k) ≤ lens l := lens_take_le l k
theorem upto_le (l : List (List UInt8)) (sep : List UInt8) (k : Nat) : (upto l sep k).length ≤ total l sep := by
  refine Nat.le_trans (join_le _ _) ?_
  unfold total
  have h1 := lens_take l k
  have h2 : sep.length * (l.take k).length ≤ sep.length * l.length := Nat.mul_le_mul_left _ (by simp; omega)
  omega
theorem lens_at (l : List (List UInt8)) (k : Nat) (x : List UInt8) (h : l[k]? = some x) : x.length ≤ lens l := by
  have h1 := lens_take_succ l k x h
  have h2 := lens_take l (k + 1)
  omega
/-- list.Join, plainly -/
def joined (l : List (List UInt8)) (two sep last : List UInt8) : List UInt8 :=
  if l.length < 2 then join l [] else if l.length = 2 then l.getD 0 [] ++ two ++ l.getD 1 [] else join (l.take (l.length - 1)) sep ++ last ++ l.getD (l.length - 1) []
end Lst
