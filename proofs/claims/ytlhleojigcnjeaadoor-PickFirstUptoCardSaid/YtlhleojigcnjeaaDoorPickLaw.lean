/- Plain law: which one is picked; slices.Index over texts. -/
import Derived.Test.YtlhleojigcnjeaaDoorPickA
import Derived.Test.YtlhleojigcnjeaaDoorShelfT
namespace Go.Proofs.YtlhleojigcnjeaaDoor
open Go.RowKit

/-- where a text lies first -/
def fi (x : List UInt8) : Nat → List (List UInt8) → Int
  | _, [] => -1
  | m, y :: r => if y = x then (m : Int) else fi x (m + 1) r
theorem mk_inj {x y : List UInt8} : (⟨y.toArray⟩ : ByteArray) = ⟨x.toArray⟩ ↔ y = x := by
  constructor
  · intro e
    have := congrArg (fun b : ByteArray => b.data.toList) e
    simpa using this
  · rintro rfl; rfl
theorem fi_eq (x : List UInt8) : ∀ (N : List (List UInt8)) (m : Nat), Lib.idxFromS (N.map fun y => (⟨y.toArray⟩ : ByteArray)) ⟨x.toArray⟩ m = fi x m N
  | [], m => rfl
  | y :: r, m => by
    simp only [List.map_cons, Lib.idxFromS, fi, fi_eq x r (m + 1)]
    by_cases h : y = x
    · rw [if_pos (mk_inj.2 h), if_pos h]
    · rw [if_neg (fun e => h (mk_inj.1 e)), if_neg h]
theorem fi_rng (x : List UInt8) : ∀ (N : List (List UInt8)) (m : Nat), fi x m N = -1 ∧ x ∉ N ∨ ∃ k, fi x m N = ((m + k : Nat) : Int) ∧ N[k]? = some x
  | [], m => .inl ⟨rfl, by simp⟩
  | y :: r, m => by
    unfold fi
    by_cases h : y = x
    · subst h; rw [if_pos rfl]; exact .inr ⟨0, rfl, rfl⟩
    · rw [if_neg h]
      rcases fi_rng x r (m + 1) with ⟨e, hn⟩ | ⟨k, e, hk⟩
      · exact .inl ⟨e, fun hx => by rcases List.mem_cons.1 hx with e | e; exact h e.symm; exact hn e⟩
      · exact .inr ⟨k + 1, by rw [e]; omega, by simpa using hk⟩
theorem fi_step {x y : List UInt8} {N : List (List UInt8)} {m : Nat} (h : N[m]? = some y) : fi x m (N.drop m) = if y = x then (m : Int) else fi x (m + 1) (N.drop (m + 1)) := by
  have hl := (List.getElem?_eq_some_iff.1 h)
  rw [List.drop_eq_getElem_cons hl.1, hl.2]
  rfl
theorem index_any (N : List (List UInt8)) (v : Value) (x : List UInt8) (w : World) (h : StrsAt w v N) :
    Calls Tryd.prog 55 #[v, .string ⟨x.toArray⟩] w fun e w' => e = .returned (.int .i64 (fi x 0 N)) ∧ w' = w := by
  rcases h with ⟨rfl, a, cap, rfl⟩ | ⟨b, off, cap, rfl, h0, hc, hm, hcell⟩
  · exact Tryd.slices_Index_string_empty a cap ⟨x.toArray⟩ w
  · have c := Tryd.slices_Index_string b off N.length cap (N.map fun y => ⟨y.toArray⟩) ⟨x.toArray⟩ w (by rw [List.length_map]; omega) (by unfold maxLen at hm; omega) (fun j hj => by
      rw [List.length_map] at hj
      rw [hcell j N[j] (List.getElem?_eq_getElem hj)]
      simp [List.getD, List.getElem?_map, List.getElem?_eq_getElem hj])
    rw [List.take_of_length_le (by rw [List.length_map]; omega)] at c
    rw [show Lib.idxOfS (N.map fun y => (⟨y.toArray⟩ : ByteArray)) ⟨x.toArray⟩ = fi x 0 N from fi_eq x N 0] at c
    exact c
/-- of a chain: the first one that is had -/
def pickC (N : List (List UInt8)) : List Tg → Int
  | [] => -1
  | x :: r => if 0 ≤ fi x.txt 0 N then fi x.txt 0 N else pickC N r
/-- of those that are wanted -/
def pickW (N : List (List UInt8)) : List Tg → Int
  | [] => -1
  | t :: r => if 0 ≤ pickC N t.chain then pickC N t.chain else pickW N r
theorem fi_neg {x : List UInt8} {N : List (List UInt8)} (h : ¬ 0 ≤ fi x 0 N) : fi x 0 N = -1 := by
  rcases fi_rng x N 0 with ⟨e, _⟩ | ⟨k, e, _⟩
  · exact e
  · rw [e] at h; omega
theorem pickC_neg {N : List (List UInt8)} : ∀ {L : List Tg}, ¬ 0 ≤ pickC N L → pickC N L = -1
  | [], _ => rfl
  | x :: r, h => by
    unfold pickC at h ⊢
    by_cases hx : 0 ≤ fi x.txt 0 N
    · rw [if_pos hx] at h; exact absurd hx h
    · rw [if_neg hx] at h ⊢; exact pickC_neg h
theorem pickW_neg {N : List (List UInt8)} : ∀ {L : List Tg}, ¬ 0 ≤ pickW N L → pickW N L = -1
  | [], _ => rfl
  | x :: r, h => by
    unfold pickW at h ⊢
    by_cases hx : 0 ≤ pickC N x.chain
    · rw [if_pos hx] at h; exact absurd hx h
    · rw [if_neg hx] at h ⊢; exact pickW_neg h
theorem pickC_step {N : List (List UInt8)} {L : List Tg} {k : Nat} {x : Tg} (h : L[k]? = some x) : pickC N (L.drop k) = if 0 ≤ fi x.txt 0 N then fi x.txt 0 N else pickC N (L.drop (k + 1)) := by
  have hl := (List.getElem?_eq_some_iff.1 h)
  rw [List.drop_eq_getElem_cons hl.1, hl.2]
  rfl
theorem pickW_step {N : List (List UInt8)} {L : List Tg} {k : Nat} {x : Tg} (h : L[k]? = some x) : pickW N (L.drop k) = if 0 ≤ pickC N x.chain then pickC N x.chain else pickW N (L.drop (k + 1)) := by
  have hl := (List.getElem?_eq_some_iff.1 h)
  rw [List.drop_eq_getElem_cons hl.1, hl.2]
  rfl
theorem fi_small (x : List UInt8) (N : List (List UInt8)) (m : Nat) : -1 ≤ fi x m N ∧ fi x m N < (m + N.length : Nat) ∨ fi x m N = -1 := by
  rcases fi_rng x N m with ⟨e, _⟩ | ⟨k, e, hk⟩
  · exact .inr e
  · have := (List.getElem?_eq_some_iff.1 hk).1
    exact .inl ⟨by omega, by omega⟩
theorem pickC_small (N : List (List UInt8)) : ∀ L : List Tg, pickC N L < (N.length : Int)
  | [] => by unfold pickC; omega
  | x :: r => by
    unfold pickC
    split
    · rcases fi_small x.txt N 0 with h | h <;> omega
    · exact pickC_small N r
theorem pickW_small (N : List (List UInt8)) : ∀ L : List Tg, pickW N L < (N.length : Int)
  | [] => by unfold pickW; omega
  | x :: r => by
    unfold pickW
    split
    · exact pickC_small N _
    · exact pickW_small N r
/-- what pick.Pick tells: the error's number, and which one -/
def pickE (W H : List Tg) : Int := if tfaults W = 0 then (if tfaults H = 0 then (if 0 ≤ pickW (H.map Tg.txt) W then 0 else 2) else tfaults H) else tfaults W
def pickI (W H : List Tg) : Int := if tfaults W = 0 ∧ tfaults H = 0 ∧ 0 ≤ pickW (H.map Tg.txt) W then pickW (H.map Tg.txt) W else 0
end Go.Proofs.YtlhleojigcnjeaaDoor
