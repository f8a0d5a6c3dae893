/- One sign for another: the plain law. No program. -/
import Derived.Test.YtaijjffnamjhiaaGreatDoorNoutP
namespace Go.Proofs.YtaijjffnamjhiaaGreatDoor.Nt
open Go Go.Lib Byt
open Dcm (okD)
/-- a sign and what stands for it -/
def Rep (pt cm pt' cm' x x' : UInt8) : Prop := (x = pt ∧ x' = pt') ∨ (x = cm ∧ x' = cm') ∨ (x = x' ∧ x ≠ pt ∧ x ≠ cm ∧ x' ≠ pt' ∧ x' ≠ cm')
def Alike (pt cm pt' cm' : UInt8) (a b : List UInt8) : Prop := a.length = b.length ∧ ∀ (i : Nat) x x', a[i]? = some x → b[i]? = some x' → Rep pt cm pt' cm' x x'
variable {pt cm pt' cm' : UInt8}
theorem Alike.app {a b a' b' : List UInt8} (h : Alike pt cm pt' cm' a b) (h' : Alike pt cm pt' cm' a' b') : Alike pt cm pt' cm' (a ++ a') (b ++ b') := by
  refine ⟨by rw [List.length_append, List.length_append, h.1, h'.1], fun i x x' hx hx' => ?_⟩
  by_cases hi : i < a.length
  · rw [List.getElem?_append_left hi] at hx
    rw [List.getElem?_append_left (by have := h.1; omega)] at hx'
    exact h.2 i x x' hx hx'
  · rw [List.getElem?_append_right (by omega)] at hx
    rw [List.getElem?_append_right (by have := h.1; omega)] at hx'
    rw [h.1] at hx
    exact h'.2 _ x x' hx hx'
theorem Alike.one {x x' : UInt8} (h : Rep pt cm pt' cm' x x') : Alike pt cm pt' cm' [x] [x'] := by
  refine ⟨rfl, fun i y y' hy hy' => ?_⟩
  cases i with
  | zero => simp only [List.getElem?_cons_zero, Option.some.injEq] at hy hy'; subst hy hy'; exact h
  | succ i => simp at hy
theorem Alike.nil : Alike pt cm pt' cm' [] [] := ⟨rfl, fun i x x' h => by simp at h⟩
/-- no sign of the four -/
def Plain (l : List UInt8) : Prop := ∀ x ∈ l, x ∉ sgnL
theorem alike_plain {l : List UInt8} (h : Plain l) (hp : pt ∈ sgnL) (hc : cm ∈ sgnL) (hp' : pt' ∈ sgnL) (hc' : cm' ∈ sgnL) : Alike pt cm pt' cm' l l := by
  refine ⟨rfl, fun i x x' hx hx' => ?_⟩
  rw [hx] at hx'
  obtain rfl := Option.some.inj hx'
  have hm := h x (List.mem_of_getElem? hx)
  exact .inr (.inr ⟨rfl, fun e => hm (e ▸ hp), fun e => hm (e ▸ hc), fun e => hm (e ▸ hp'), fun e => hm (e ▸ hc')⟩)
theorem plain_dig {l : List UInt8} (h : AllDig l) : Plain l := fun x hx hm => by
  have := h x hx
  simp only [sgnL, List.mem_cons, List.not_mem_nil, or_false] at hm
  rcases hm with rfl | rfl | rfl | rfl <;> revert this <;> decide
theorem aff_mem : ∀ x ∈ affL, x ∉ sgnL := by decide
theorem plain_aff {l : List UInt8} (h : affB l = true) : Plain l := fun x hx => by
  unfold affB at h
  rw [Bool.and_eq_true, List.all_eq_true] at h
  exact aff_mem x (List.contains_iff_mem.1 (h.1 x hx))
theorem dig_nought (n : Nat) : AllDig (List.replicate n 48) := fun x hx => by rw [(List.mem_replicate.1 hx).2]; decide
theorem AllDig.app {a b : List UInt8} (h : AllDig a) (h' : AllDig b) : AllDig (a ++ b) := fun x hx => by
  rcases List.mem_append.1 hx with hx | hx
  · exact h x hx
  · exact h' x hx
theorem pad_dig (mi c s : Int) : AllDig (pad mi c s) := AllDig.app (dig_nought _) (wh_dig c s)
theorem fr_dig (nf c s : Int) : AllDig (fr nf c s) := AllDig.app (bh_dig c s) (dig_nought _)
theorem sgn_plain (c : Int) : Plain (sgn c) := by
  unfold sgn; split
  · intro x hx; rw [List.mem_singleton.1 hx]; decide
  · intro x hx; simp at hx
theorem alike_grouped (hc : cm ∈ sgnL) (hp : pt ∈ sgnL) (hp' : pt' ∈ sgnL) (hc' : cm' ∈ sgnL) (n : Nat) : ∀ (g g2 : Nat) (s : List UInt8), s.length ≤ n → AllDig s → Alike pt cm pt' cm' (Grp.grouped g g2 s cm) (Grp.grouped g g2 s cm') := by
  induction n with
  | zero =>
    intro g g2 s h hs
    rw [Grp.grouped_one _ (by omega), Grp.grouped_one _ (by omega)]
    exact alike_plain (plain_dig hs) hp hc hp' hc'
  | succ n ih =>
    intro g g2 s h hs
    by_cases hg : 0 < g ∧ g < s.length
    · rw [Grp.grouped_cut _ hg.1 hg.2, Grp.grouped_cut _ hg.1 hg.2]
      exact ((ih g2 g2 _ (by simp; omega) (fun x hx => hs x (List.mem_of_mem_take hx))).app (Alike.one (.inr (.inl ⟨rfl, rfl⟩)))).app (alike_plain (plain_dig (fun x hx => hs x (List.mem_of_mem_drop hx))) hp hc hp' hc')
    · have e : ∀ c, Grp.grouped g g2 s c = s := fun c => by
        unfold Grp.grouped
        rw [Grp.pieces, dif_neg hg, join_one]
      rw [e, e]
      exact alike_plain (plain_dig hs) hp hc hp' hc'
theorem sym_mem (h : symB pt cm = true) : pt ≠ cm ∧ pt ∈ sgnL ∧ cm ∈ sgnL := by
  unfold symB at h
  simp only [Bool.and_eq_true, List.contains_iff_mem, bne_iff_ne, ne_eq] at h
  exact ⟨h.1.1, h.1.2, h.2⟩
theorem alike_shown (p : Pt) (c s : Int) (hp : patE p = 0) (h : symB pt cm = true) (h' : symB pt' cm' = true) : Alike pt cm pt' cm' (shown p pt cm c s) (shown p pt' cm' c s) := by
  obtain ⟨_, a, b⟩ := sym_mem h
  obtain ⟨_, a', b'⟩ := sym_mem h'
  obtain ⟨p1, p2, p3, _⟩ := pat_ok hp
  unfold shown body
  have pl : ∀ {l : List UInt8}, Plain l → Alike pt cm pt' cm' l l := fun hl => alike_plain hl a b a' b'
  refine (pl (sgn_plain _)).app (((pl (plain_aff p1)).app (Alike.app ?_ ?_)).app (pl (plain_aff p2)))
  · unfold gout
    split
    · exact pl (plain_dig (pad_dig _ _ _))
    · exact alike_grouped b a a' b' _ _ _ _ (Nat.le_refl _) (pad_dig _ _ _)
  · unfold tail
    split
    · exact Alike.nil
    · exact (Alike.one (.inl ⟨rfl, rfl⟩)).app (pl (plain_dig (fr_dig _ _ _)))
/-- the loop's question -/
theorem rep_ask {x x' : UInt8} (h : Rep pt cm pt' cm' x x') (hs : pt ≠ cm) (hs' : pt' ≠ cm') : (decide (x = pt) != decide (x' = pt')) = false ∧ (decide (x = cm) != decide (x' = cm')) = false ∧ (x ≠ pt → x ≠ cm → x = x') := by
  rcases h with ⟨rfl, rfl⟩ | ⟨rfl, rfl⟩ | ⟨rfl, h1, h2, h3, h4⟩
  · simp [hs, hs']
  · simp [hs.symm, hs'.symm]
  · simp [h1, h2, h3, h4]
theorem shown_len (p : Pt) (pt cm : UInt8) (c s : Int) (h : okD c s) (hp : patE p = 0) : (shown p pt cm c s).length ≤ p.pre.length + p.suf.length + 700 := by
  have ps := size_ok (pat_ok hp).2.2.1
  obtain ⟨r1, r2, r3⟩ := red_fine p.mf c s h (by omega) (by omega)
  unfold shown
  generalize red p.mf c s = q at *
  obtain ⟨a, b⟩ := q
  simp only at *
  have lw := wh_len a b r1
  have lb := bh_len a b
  have h9 : b ≤ 9 := r1.2.1
  have lg := gout_len (pad p.mi a b) p.g p.g2 cm
  have lp : (pad p.mi a b).length ≤ 200 := by unfold pad; rw [List.length_append, List.length_replicate]; omega
  have lf : (fr p.nf a b).length ≤ 100 := by unfold fr; rw [List.length_append, List.length_replicate]; omega
  have lt : (tail pt (fr p.nf a b)).length ≤ 101 := by unfold tail; split <;> simp; omega
  have ls : (sgn a).length ≤ 1 := by unfold sgn; split <;> simp
  unfold body
  simp only [List.length_append]
  omega
end Go.Proofs.YtaijjffnamjhiaaGreatDoor.Nt
