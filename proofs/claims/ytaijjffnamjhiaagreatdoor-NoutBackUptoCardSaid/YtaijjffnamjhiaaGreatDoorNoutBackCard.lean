/- The law NoutBack, proved where what it reads is of bulk at most 1048576: the call returns true of every input, and turns nothing that was there. Conditions: the row's own (the listed variables hold what the program's text lays; the card ties them). -/
import Derived.Test.YtaijjffnamjhiaaGreatDoorRgrp
import Derived.Test.YtaijjffnamjhiaaGreatDoorBys
import Derived.Test.YtaijjffnamjhiaaGreatDoorMax
import Derived.Test.YtaijjffnamjhiaaGreatDoorNoutS
import Derived.Lib.TrimByte
import Derived.Test.YtaijjffnamjhiaaGreatDoorNBx
import Derived.Test.YtaijjffnamjhiaaGreatDoorNFmt
import Derived.Test.YtaijjffnamjhiaaGreatDoorDecParse
import Derived.Test.YtaijjffnamjhiaaGreatDoorDec
import Derived.Test.YtaijjffnamjhiaaGreatDoorBox
import Derived.Stop.Joined
import Derived.Lib.SmallJoins
import Derived.OpenShut
import Derived.Test.YtaijjffnamjhiaaGreatDoorRows
import Derived.Test.YtaijjffnamjhiaaGreatDoorItoa
import Derived.LaidSub
import Derived.MakeChecks
import Derived.Lay
import Derived.LaidMore
import Derived.Test.YtaijjffnamjhiaaGreatDoorCards
import Derived.Test.YtaijjffnamjhiaaGreatDoorTie
import Derived.Deep.DeepHandedRow
import Derived.Deep.DeepWitnessRowRef
import Derived.Test.YtaijjffnamjhiaaGreatDoorFrame
namespace Go.Proofs.YtaijjffnamjhiaaGreatDoor
open Go.RowKit

/-- a text without a sign -/
def without (c : UInt8) (s : List UInt8) : List UInt8 := s.filter (· != c)
theorem without_len (c : UInt8) (s : List UInt8) : (without c s).length ≤ s.length := List.length_filter_le _ _
theorem strike_any (s : List UInt8) (c : UInt8) (w : World) (hM : MaxW w) (hs : s.length ≤ 1000000000) :
    Calls Tryz.prog 84 #[.string ⟨s.toArray⟩, .string ⟨[c].toArray⟩, .string ⟨#[]⟩] w fun e w' => e = .returned (.string ⟨(without c s).toArray⟩) ∧ Below w.heap.size w w' := by
  obtain ⟨m, hm⟩ := hM
  have r := Tryz.strings_ReplaceAll ⟨s.toArray⟩ ⟨[c].toArray⟩ ⟨#[]⟩ m w (by rw [size_mkl]; omega) hm (by show 1 ≤ 1; omega) (by rw [size_mkl]; show _ + _ * 0 ≤ _; omega)
  have e : Lib.replaceAll s [c] [] = without c s := Byt.replaceAll_one c s
  rw [← e]
  exact r
theorem not_in {s : List UInt8} {c : UInt8} (h : digB s = true) (hc : ¬ (48 ≤ (c.toNat : Int) ∧ (c.toNat : Int) ≤ 57)) : c ∉ s := fun hm => by
  unfold digB at h
  have ha := List.all_eq_true.1 (Bool.and_eq_true_iff.1 h).1 c hm
  simp at ha
  rcases ha with rfl | rfl | rfl | rfl | rfl | rfl | rfl | rfl | rfl | rfl <;> exact hc (by decide)
theorem without_gout {s : List UInt8} {g g2 : Int} {c : UInt8} (h : c ∉ s) : without c (gout s g g2 c) = s := by
  unfold gout without
  split
  · exact List.filter_eq_self.2 fun x hx => by simp; exact fun e => h (e ▸ hx)
  · exact Grp.filter_grouped h
end Go.Proofs.YtaijjffnamjhiaaGreatDoor
namespace Go.Proofs.YtaijjffnamjhiaaGreatDoor.Nt
open Go Go.Lib Byt
open Dcm (okD)
/-- the digits' first one -/
theorem digits_head (k : Nat) : ∀ u, u < k → 0 < u → ∃ x r, decDigits u = x :: r ∧ x ≠ 48 := by
  induction k with
  | zero => intro u h; omega
  | succ k ih =>
    intro u h h0
    by_cases h1 : u < 10
    · exact ⟨_, [], Dtx.dd1 h1, fun e => by have := congrArg UInt8.toNat e; rw [dig_byte h1] at this; simp at this; omega⟩
    · obtain ⟨x, r, e, hx⟩ := ih (u / 10) (by omega) (by omega)
      exact ⟨x, r ++ _, by rw [Dtx.dd2 h1, e]; rfl, hx⟩
theorem digits_last (u : Nat) : ∃ l, decDigits u = l ++ [UInt8.ofNat (48 + u % 10)] := by
  by_cases h : u < 10
  · exact ⟨[], by rw [Dtx.dd1 h, Nat.mod_eq_of_lt h]; rfl⟩
  · exact ⟨_, Dtx.dd2 h⟩
theorem left_noughts (n : Nat) (l : List UInt8) : trimLeftB (List.replicate n 48 ++ l) 48 = trimLeftB l 48 := by
  unfold trimLeftB
  induction n with
  | zero => rfl
  | succ n ih => rw [List.replicate_succ, List.cons_append, List.dropWhile_cons_of_pos (by simp), ih]
theorem right_noughts (n : Nat) (l : List UInt8) : trimRightB (l ++ List.replicate n 48) 48 = trimRightB l 48 := by
  unfold trimRightB
  rw [List.reverse_append, List.reverse_replicate]
  have := left_noughts n l.reverse
  unfold trimLeftB at this
  rw [this]
theorem right_stays {l : List UInt8} {x : UInt8} (h : x ≠ 48) : trimRightB (l ++ [x]) 48 = l ++ [x] := by
  unfold trimRightB
  rw [List.reverse_append, List.reverse_singleton, List.singleton_append, List.dropWhile_cons_of_neg (by simpa using h)]
  simp
/-- the digits ahead of the point, without noughts ahead -/
theorem left_wh (c s : Int) : (if trimLeftB (wh c s) 48 = [] then [48] else trimLeftB (wh c s) 48) = wh c s := by
  have hp := List.length_pos_iff.2 (digits_ne c.natAbs)
  by_cases hz : zn c s = 0
  · have e : zdig (zn c s) c.natAbs = decDigits c.natAbs := by rw [hz]; simp [zdig]
    have hl := zdig_len c s
    by_cases hc : c.natAbs = 0
    · have ew : wh c s = [48] := by
        rw [hc, Dtx.dd1 (by omega)] at e
        unfold wh
        rw [hc, e] 
        rw [hc, e] at hl
        rw [show s.toNat = 0 by simpa using hl]; rfl
      rw [ew]; rfl
    · obtain ⟨x, r, h1, h2⟩ := digits_head (c.natAbs + 1) c.natAbs (by omega) (by omega)
      have ew : ∃ r', wh c s = x :: r' := by
        unfold wh
        rw [e, h1] at hl ⊢
        obtain ⟨k, hk⟩ : ∃ k, (x :: r).length - s.toNat = k + 1 := ⟨(x :: r).length - s.toNat - 1, by omega⟩
        rw [hk, List.take_succ_cons]
        exact ⟨_, rfl⟩
      obtain ⟨r', er⟩ := ew
      rw [er]
      have : trimLeftB (x :: r') 48 = x :: r' := by
        unfold trimLeftB
        rw [List.dropWhile_cons_of_neg (by simpa using h2)]
      rw [this, if_neg (by simp)]
  · have ew : wh c s = [48] := by
      unfold wh
      have hl : (zdig (zn c s) c.natAbs).length = s.toNat + 1 := by
        unfold zdig
        rw [List.length_append, List.length_replicate]
        unfold zn at hz ⊢
        omega
      rw [hl, show s.toNat + 1 - s.toNat = 1 by omega]
      unfold zdig
      obtain ⟨k, hk⟩ : ∃ k, zn c s = k + 1 := ⟨zn c s - 1, by omega⟩
      rw [hk, List.replicate_succ]; rfl
    rw [ew]; rfl
/-- the digits behind the point, without noughts behind -/
theorem right_bh (c s : Int) (s0 : 0 ≤ s) (h : s = 0 ∨ c % 10 ≠ 0) : trimRightB (bh c s) 48 = bh c s := by
  by_cases hs : s = 0
  · rw [bh_zero (by omega)]; rfl
  · have hc : c % 10 ≠ 0 := by omega
    obtain ⟨l, hl⟩ := digits_last c.natAbs
    have hne : UInt8.ofNat (48 + c.natAbs % 10) ≠ 48 := fun e => by
      have := congrArg UInt8.toNat e
      rw [dig_byte (by omega)] at this
      simp at this
      omega
    have eb : ∃ l', bh c s = l' ++ [UInt8.ofNat (48 + c.natAbs % 10)] := by
      have hz := zdig_len c s
      unfold bh
      have e : zdig (zn c s) c.natAbs = (List.replicate (zn c s) 48 ++ l) ++ [UInt8.ofNat (48 + c.natAbs % 10)] := by unfold zdig; rw [hl, List.append_assoc]
      rw [e] at hz ⊢
      rw [List.length_append, List.length_singleton] at hz ⊢
      rw [List.drop_append_of_le_length (by omega)]
      exact ⟨_, rfl⟩
    obtain ⟨l', e⟩ := eb
    rw [e]
    exact right_stays hne
/-- what the library makes of a text ahead of reading -/
def candT (p : Pt) (pt cm : UInt8) (s : List UInt8) : List UInt8 :=
  let wb := cut (trimSuffix (trimPrefix (trimPrefix s [45]) p.pre) p.suf) [pt]
  let t1 := trimLeftB (without cm wb.1) 48
  let t2 := if t1 = [] then [48] else t1
  let b := trimRightB wb.2.1 48
  (if hasPrefix s [45] then [45] else []) ++ (t2 ++ if b = [] then [] else 46 :: b)
theorem suf_hit (a b : List UInt8) : trimSuffix (a ++ b) b = a := by
  unfold trimSuffix hasSuffix
  rw [if_pos (List.isSuffixOf_iff_suffix.2 (List.suffix_append a b))]
  simp
theorem cut_one_hit {c : UInt8} {X : List UInt8} (Y : List UInt8) (h : c ∉ X) : cut (X ++ c :: Y) [c] = (X, Y, true) := by
  unfold cut
  rw [idx_hit Y h, if_pos (by omega)]
  simp
theorem cut_one_miss {c : UInt8} {X : List UInt8} (h : c ∉ X) : cut X [c] = (X, [], false) := by
  unfold cut
  rw [idx_miss h, if_neg (by omega)]
theorem mem_grouped {s : List UInt8} {g g2 : Nat} {cm x : UInt8} (n : Nat) (hn : s.length ≤ n) (h : x ∈ Grp.grouped g g2 s cm) : x ∈ s ∨ x = cm := by
  induction n generalizing s g g2 with
  | zero => rw [Grp.grouped_one _ (by omega)] at h; exact .inl h
  | succ n ih =>
    by_cases hg : 0 < g ∧ g < s.length
    · rw [Grp.grouped_cut _ hg.1 hg.2] at h
      rcases List.mem_append.1 h with h | h
      · rcases List.mem_append.1 h with h | h
        · rcases ih (by simp; omega) h with h | h
          · exact .inl (List.mem_of_mem_take h)
          · exact .inr h
        · exact .inr (List.mem_singleton.1 h)
      · exact .inl (List.mem_of_mem_drop h)
    · unfold Grp.grouped at h
      rw [Grp.pieces, dif_neg hg, join_one] at h
      exact .inl h
theorem mem_gout {s : List UInt8} {g g2 : Int} {cm x : UInt8} (h : x ∈ gout s g g2 cm) : x ∈ s ∨ x = cm := by
  unfold gout at h
  split at h
  · exact .inl h
  · exact mem_grouped _ (Nat.le_refl _) h
theorem dig_not {l : List UInt8} {x : UInt8} (h : AllDig l) (hx : x ∈ sgnL ∨ x = 45) : x ∉ l := fun hm => by
  have := h x hm
  rcases hx with hx | rfl
  · simp only [sgnL, List.mem_cons, List.not_mem_nil, or_false] at hx
    rcases hx with rfl | rfl | rfl | rfl <;> revert this <;> decide
  · revert this; decide
theorem aff_minus : ∀ x ∈ affL, x ≠ 45 := by decide
theorem aff_no {l : List UInt8} (h : affB l = true) : (45 : UInt8) ∉ l := fun hm => by
  unfold affB at h
  rw [Bool.and_eq_true, List.all_eq_true] at h
  exact aff_minus _ (List.contains_iff_mem.1 (h.1 _ hm)) rfl
theorem body_minus (p : Pt) (pt cm : UInt8) (a b : Int) (hp : patE p = 0) (hy : symB pt cm = true) : (45 : UInt8) ∉ body p pt cm a b := fun hx => by
  obtain ⟨p1, p2, _, _⟩ := pat_ok hp
  obtain ⟨_, y2, y3⟩ := sym_mem hy
  have nine : ∀ x ∈ sgnL, x ≠ 45 := by decide
  unfold body at hx
  rcases List.mem_append.1 hx with hx | hx
  · rcases List.mem_append.1 hx with hx | hx
    · exact aff_no p1 hx
    · rcases List.mem_append.1 hx with hx | hx
      · rcases mem_gout hx with hx | hx
        · exact dig_not (pad_dig _ _ _) (.inr rfl) hx
        · exact nine _ y3 hx.symm
      · unfold tail at hx
        split at hx
        · simp at hx
        · rcases List.mem_cons.1 hx with hx | hx
          · exact nine _ y2 hx.symm
          · exact dig_not (fr_dig _ _ _) (.inr rfl) hx
  · exact aff_no p2 hx
theorem minus_at (p : Pt) (pt cm : UInt8) (a b : Int) (hp : patE p = 0) (hy : symB pt cm = true) : trimPrefix (sgn a ++ body p pt cm a b) [45] = body p pt cm a b ∧ hasPrefix (sgn a ++ body p pt cm a b) [45] = decide (a < 0) := by
  have mB := body_minus p pt cm a b hp hy
  unfold sgn
  split
  · rename_i h
    exact ⟨pre_hit _ _, by rw [decide_eq_true h]; exact List.isPrefixOf_iff_prefix.2 (List.prefix_append _ _)⟩
  · rename_i h
    rw [List.nil_append]
    exact ⟨by unfold trimPrefix; rw [no_minus mB, if_neg (by simp)], by rw [no_minus mB, decide_eq_false h]⟩
/-- what is made of a number's text: the text of the number, rounded -/
theorem cand_there (p : Pt) (pt cm : UInt8) (c s : Int) (hp : patE p = 0) (hy : symB pt cm = true) (h : okD c s) : candT p pt cm (shown p pt cm c s) = decText (red p.mf c s).1 (red p.mf c s).2 := by
  obtain ⟨p1, p2, p3, _⟩ := pat_ok hp
  have ps := size_ok p3
  obtain ⟨y1, y2, y3⟩ := sym_mem hy
  obtain ⟨r1, r2, r3⟩ := red_fine p.mf c s h (by omega) (by omega)
  unfold shown
  generalize red p.mf c s = q at *
  obtain ⟨a, b⟩ := q
  simp only at *
  have hG : ∀ x ∈ gout (pad p.mi a b) p.g p.g2 cm, (48 ≤ x.toNat ∧ x.toNat ≤ 57) ∨ x = cm := fun x hx => by
    rcases mem_gout hx with hx | hx
    · exact .inl (pad_dig _ _ _ x hx)
    · exact .inr hx
  have ptG : pt ∉ gout (pad p.mi a b) p.g p.g2 cm := fun hx => by
    rcases mem_gout hx with hx | hx
    · exact dig_not (pad_dig _ _ _) (.inl y2) hx
    · exact y1 hx
  obtain ⟨h1, h2⟩ := minus_at p pt cm a b hp hy
  have h3 : (if hasPrefix (sgn a ++ body p pt cm a b) [45] then [45] else []) = sgn a := by
    rw [h2]; unfold sgn
    by_cases h0 : a < 0
    · rw [if_pos h0, decide_eq_true h0]; rfl
    · rw [if_neg h0, decide_eq_false h0]; rfl
  unfold candT
  rw [h1, h3]
  have e1 : trimSuffix (trimPrefix (body p pt cm a b) p.pre) p.suf = gout (pad p.mi a b) p.g p.g2 cm ++ tail pt (fr p.nf a b) := by
    unfold body
    rw [List.append_assoc, pre_hit, suf_hit]
  rw [e1]
  have e2 : (cut (gout (pad p.mi a b) p.g p.g2 cm ++ tail pt (fr p.nf a b)) [pt]).1 = gout (pad p.mi a b) p.g p.g2 cm ∧ (cut (gout (pad p.mi a b) p.g p.g2 cm ++ tail pt (fr p.nf a b)) [pt]).2.1 = fr p.nf a b := by
    unfold tail
    split
    · rename_i hf
      rw [List.append_nil, cut_one_miss ptG]; exact ⟨rfl, hf.symm⟩
    · rw [cut_one_hit _ ptG]; exact ⟨rfl, rfl⟩
  simp only [e2.1, e2.2]
  rw [without_gout (dig_not (pad_dig _ _ _) (.inl y3))]
  have e3 : trimLeftB (pad p.mi a b) 48 = trimLeftB (wh a b) 48 := left_noughts _ _
  have e4 : trimRightB (fr p.nf a b) 48 = bh a b := by
    unfold fr
    rw [right_noughts, right_bh a b r1.1 r3]
  rw [e3, e4, left_wh, text_parts, List.append_assoc]
  congr 2
  by_cases hb : b ≤ 0
  · rw [if_pos hb, if_pos (bh_zero hb)]
  · rw [if_neg hb, if_neg (fun e => by have := bh_len a b; rw [e] at this; simp at this; omega)]
end Go.Proofs.YtaijjffnamjhiaaGreatDoor.Nt
namespace Go.Proofs.YtaijjffnamjhiaaGreatDoor.Nt
open Go Go.Lib Byt Go.RowKit
open Dcm (okD nrm)
/-- a text is the number's, which is as short as may be -/
def Good (p : Pt) (pt cm : UInt8) (t : List UInt8) (c s : Int) : Prop := okD c s ∧ shown p pt cm c s = t ∧ red p.mf c s = (c, s)
theorem dec_inj {a b c d : Int} (h : okD a b) (h' : okD c d) (e : decText a b = decText c d) : a = c ∧ b = d := by
  obtain ⟨h1, h2⟩ := dec_cut a b h
  obtain ⟨h3, h4⟩ := dec_cut c d h'
  rw [e] at h1 h2
  rw [h1] at h3
  exact ⟨by injection h3, h2.symm.trans h4⟩
theorem good_mf {p : Pt} {pt cm : UInt8} {t : List UInt8} {c s : Int} (hp : patE p = 0) (g : Good p pt cm t c s) : s ≤ p.mf := by
  have ps := size_ok (pat_ok hp).2.2.1
  have := (red_fine p.mf c s g.1 (by omega) (by omega)).2.1
  rw [g.2.2] at this
  exact this
theorem good_cand {p : Pt} {pt cm : UInt8} {t : List UInt8} {c s : Int} (hp : patE p = 0) (hy : symB pt cm = true) (g : Good p pt cm t c s) : candT p pt cm t = decText c s := by
  have := cand_there p pt cm c s hp hy g.1
  rw [g.2.1, g.2.2] at this
  exact this
theorem good_of {p : Pt} {pt cm : UInt8} {t : List UInt8} {c s : Int} (hp : patE p = 0) (hy : symB pt cm = true) (hd : okD c s) (hc : decText c s = candT p pt cm t) (hs : shown p pt cm c s = t) : Good p pt cm t c s := by
  have ps := size_ok (pat_ok hp).2.2.1
  have r := (red_fine p.mf c s hd (by omega) (by omega)).1
  have h := cand_there p pt cm c s hp hy hd
  rw [hs, ← hc] at h
  obtain ⟨h1, h2⟩ := dec_inj hd r h
  exact ⟨hd, hs, Prod.ext h1.symm h2.symm⟩
theorem good_only {p : Pt} {pt cm : UInt8} {t : List UInt8} {c s c' s' : Int} (hp : patE p = 0) (hy : symB pt cm = true) (hd : okD c s) (hc : decText c s = candT p pt cm t) (g : Good p pt cm t c' s') : c' = c ∧ s' = s := by
  have h := good_cand hp hy g
  rw [← hc] at h
  obtain ⟨h1, h2⟩ := dec_inj hd g.1 h
  exact ⟨h1.symm, h2.symm⟩
theorem good_uniq {p : Pt} {pt cm : UInt8} {t : List UInt8} {c s c' s' : Int} (hp : patE p = 0) (hy : symB pt cm = true) (g : Good p pt cm t c s) (g' : Good p pt cm t c' s') : c' = c ∧ s' = s :=
  good_only hp hy g.1 (good_cand hp hy g).symm g'
theorem trim_self {c s : Int} (h0 : 0 ≤ s) (h : s = 0 ∨ c % 10 ≠ 0) : trim c s = (c, s) := by
  unfold trim
  obtain ⟨n, rfl⟩ := Int.eq_ofNat_of_zero_le h0
  rw [Int.toNat_natCast]
  cases n with
  | zero => rfl
  | succ n =>
    have hc : c % 10 ≠ 0 := by omega
    have e : Dcm.strip (n + 1) c = (n + 1, c) := by rw [Dcm.strip, if_neg hc]
    rw [e]
theorem red_self {mf c s : Int} (h0 : 0 ≤ s) (h1 : s ≤ mf) (h : s = 0 ∨ c % 10 ≠ 0) : red mf c s = (c, s) := by
  unfold red
  rw [trim_self h0 h, if_neg (by show ¬ mf < s; omega)]
/-- the number of a text that was told -/
theorem good_shown {p : Pt} {pt cm : UInt8} {c s : Int} (hp : patE p = 0) (hd : okD c s) : Good p pt cm (shown p pt cm c s) (red p.mf c s).1 (red p.mf c s).2 := by
  have ps := size_ok (pat_ok hp).2.2.1
  obtain ⟨r1, r2, r3⟩ := red_fine p.mf c s hd (by omega) (by omega)
  have e : red p.mf (red p.mf c s).1 (red p.mf c s).2 = ((red p.mf c s).1, (red p.mf c s).2) := red_self r1.1 r2 r3
  exact ⟨r1, by unfold shown; rw [e], e⟩
theorem trim_nrm {c s : Int} (hd : okD c s) : nrm (trim c s).1 (trim c s).2 = nrm c s := by
  obtain ⟨h1, h2, h3⟩ := red_trim c s hd
  have hm := Dcm.strip_mul s.toNat c (by unfold okD at hd; omega)
  have e : ((s.toNat : Int) - ((Dcm.strip s.toNat c).1 : Int)) = s - (trim c s).2 := by unfold trim; have := hd.1; simp only; omega
  rw [e] at hm
  have hm' : (trim c s).1 * Dcm.P10 (s - (trim c s).2) = c := hm
  have := Dcm.nrm_up (trim c s).1 (trim c s).2 s h3 h2 hd.2.1
  rw [hm'] at this
  exact this.symm
theorem red_nrm {mf c s : Int} (hd : okD c s) (m0 : 0 ≤ mf) (m6 : mf ≤ 6) : nrm (red mf c s).1 (red mf c s).2 = nrm (Dcm.rndC c s (min mf s) 5) (min mf s) := by
  obtain ⟨h1, h2, h3⟩ := red_trim c s hd
  have hn := trim_nrm hd
  have hs := hd.2.1
  have hs0 := hd.1
  have eq : ∀ t, 0 ≤ t → t ≤ 9 → Dcm.rndC c s t 5 = Dcm.rndC (trim c s).1 (trim c s).2 t 5 := fun t t0 t9 => by
    rw [Dcm.rndC_RR c s t 5 hs0 hs t0 t9, Dcm.rndC_RR _ _ t 5 h1.1 h1.2.1 t0 t9, hn]
  unfold red
  by_cases hlt : mf < (trim c s).2
  · rw [if_pos hlt, show min mf s = mf by omega, eq mf m0 (by omega)]
    have hr : okD (Dcm.rndC (trim c s).1 (trim c s).2 mf 5) mf := by
      have := Dcm.near_facts (trim c s).1 (trim c s).2 mf 5 h1.2.2 h1.2.1 m0 hlt (by omega) (by omega)
      exact ⟨m0, by omega, by omega, by omega⟩
    exact trim_nrm hr
  · rw [if_neg hlt, eq _ (by omega) (by omega)]
    have e : Dcm.rndC (trim c s).1 (trim c s).2 (min mf s) 5 = (trim c s).1 * Dcm.P10 (min mf s - (trim c s).2) := by unfold Dcm.rndC; rw [if_pos (by omega)]
    rw [e, Dcm.nrm_up _ _ _ h3 (by omega) (by omega)]
/-- what is told of reading a text -/
def ReadPost (p : Pt) (pt cm : UInt8) (t : List UInt8) (bad : Value) (good : Value) (w : World) (e : Ending) (w' : World) : Prop :=
  (∃ c s, Good p pt cm t c s ∧ e = .returned (.tuple #[.agg #[.int .i64 c, .int .i64 s], good]) ∧ Below w.heap.size w w') ∨
  ((∀ c s, ¬ Good p pt cm t c s) ∧ e = .returned (.tuple #[.agg #[.int .i64 0, .int .i64 0], bad]) ∧ Below w.heap.size w w')
end Go.Proofs.YtaijjffnamjhiaaGreatDoor.Nt
namespace Go.Proofs.YtaijjffnamjhiaaGreatDoor
open Go.RowKit
open Dcm (okD)
theorem cutc_any (t : List UInt8) (c : UInt8) (w : World) (hM : MaxW w) (ht : t.length ≤ 4000000000) :
    Calls Tryz.prog 76 #[.string ⟨t.toArray⟩, .string ⟨[c].toArray⟩] w fun e w' => e = .returned (.tuple #[.string ⟨(Lib.cut t [c]).1.toArray⟩, .string ⟨(Lib.cut t [c]).2.1.toArray⟩, .bool (Lib.cut t [c]).2.2]) ∧ Below w.heap.size w w' := by
  obtain ⟨m, hm⟩ := hM
  refine (Tryz.strings_Cut ⟨t.toArray⟩ ⟨[c].toArray⟩ m w (by rw [size_mkl]; omega) hm).mono ?_
  rintro e w' ⟨rfl, n, rfl⟩
  exact ⟨rfl, blw_drewN (Below.refl _ _) n⟩
theorem cutc_small (t : List UInt8) (c : UInt8) : (Lib.cut t [c]).1.length ≤ t.length ∧ (Lib.cut t [c]).2.1.length ≤ t.length := by
  unfold Lib.cut
  split
  · simp only [List.length_take, List.length_drop]; omega
  · simp
theorem tpre_any (s p : List UInt8) (w : World) : Calls Tryz.prog 82 #[.string ⟨s.toArray⟩, .string ⟨p.toArray⟩] w fun e w' => e = .returned (.string ⟨(Lib.trimPrefix s p).toArray⟩) ∧ w = w' :=
  (Tryz.strings_TrimPrefix ⟨s.toArray⟩ ⟨p.toArray⟩ w).mono fun _ _ h => ⟨h.1, h.2.symm⟩
theorem tsuf_any (s p : List UInt8) (w : World) (hs : s.length ≤ 4000000000) : Calls Tryz.prog 81 #[.string ⟨s.toArray⟩, .string ⟨p.toArray⟩] w fun e w' => e = .returned (.string ⟨(Lib.trimSuffix s p).toArray⟩) ∧ w = w' :=
  (Tryz.strings_TrimSuffix ⟨s.toArray⟩ ⟨p.toArray⟩ w (by rw [size_mkl]; omega)).mono fun _ _ h => ⟨h.1, h.2.symm⟩
theorem tleft_any (s : List UInt8) (w : World) : Calls Tryz.prog 83 #[.string ⟨s.toArray⟩, .string ⟨#[48]⟩] w fun e w' => e = .returned (.string ⟨(Lib.trimLeftB s 48).toArray⟩) ∧ w = w' :=
  (Tryz.strings_TrimLeft_one ⟨s.toArray⟩ 48 (by decide) w).mono fun _ _ h => ⟨h.1, h.2.symm⟩
theorem tright_any (s : List UInt8) (w : World) (hs : s.length ≤ 4000000000) : Calls Tryz.prog 85 #[.string ⟨s.toArray⟩, .string ⟨#[48]⟩] w fun e w' => e = .returned (.string ⟨(Lib.trimRightB s 48).toArray⟩) ∧ w = w' :=
  (Tryz.strings_TrimRight_one ⟨s.toArray⟩ 48 (by decide) w (by rw [size_mkl]; omega)).mono fun _ _ h => ⟨h.1, h.2.symm⟩
theorem tleft_le (s : List UInt8) (c : UInt8) : (Lib.trimLeftB s c).length ≤ s.length := (List.dropWhile_sublist _).length_le
theorem tright_le (s : List UInt8) (c : UInt8) : (Lib.trimRightB s c).length ≤ s.length := by
  unfold Lib.trimRightB
  rw [List.length_reverse]
  have := (List.dropWhile_sublist (· == c) (l := s.reverse)).length_le
  rw [List.length_reverse] at this
  exact this

set_option maxRecDepth 100000 in
set_option maxHeartbeats 4000000 in
theorem read_bad (p : Nt.Pt) (pt cm : UInt8) (t : List UInt8) (w : World) (h1 : p.pre.length ≤ 1000000000) (h2 : p.suf.length ≤ 1000000000) (hE : Nt.allE p pt cm ≠ 0) :
    Calls Tryz.prog 34 #[pV p, yV pt cm, .string ⟨t.toArray⟩] w fun e w' => e = .returned (.tuple #[.agg #[.int .i64 0, .int .i64 0], errV (Nt.allE p pt cm)]) ∧ Below w.heap.size w w' := by
  have CK := Lib.hid fun w => chk_any p pt cm w h1 h2
  rw [show errN (Nt.allE p pt cm) = errV (Nt.allE p pt cm) from if_neg hE] at CK
  generalize Nt.allE p pt cm = E at *
  unfold pV yV at *
  obtain ⟨pre, suf, mi, nf, mf, g, g2⟩ := p
  simp only at *
  have X0 := Lib.hid (Bx.made w #[.string ⟨pre.toArray⟩, .string ⟨suf.toArray⟩, .int .i64 mi, .int .i64 nf, .int .i64 mf, .int .i64 g, .int .i64 g2] #[.int .u8 (pt.toNat : Int), .int .u8 (cm.toNat : Int)] (.int .i64 0) (.int .i64 0) 69 71 37)
  clear hE h1 h2
  go_enter Tryz.func34, Tryz.ntmps34
  go_wp2_with fail
  refine (CK.out _).mono ?_
  rintro e w1 ⟨rfl, hb⟩
  have X1 := Lib.hid (X0.out.below hb)
  clear hb X0 
  have cp0 := X1.out.p.cell 0 _ rfl
  have cp1 := X1.out.p.cell 1 _ rfl
  have cp2 := X1.out.p.cell 2 _ rfl
  have cp3 := X1.out.p.cell 3 _ rfl
  have cp4 := X1.out.p.cell 4 _ rfl
  have cp5 := X1.out.p.cell 5 _ rfl
  have cp6 := X1.out.p.cell 6 _ rfl
  have cy0 := X1.out.y.cell 0 _ rfl
  have cy1 := X1.out.y.cell 1 _ rfl
  have cd0 := X1.out.d.cell 0 _ rfl
  have cd1 := X1.out.d.cell 1 _ rfl
  have cf0 := X1.out.d.free 0 (by simp)
  have cf1 := X1.out.d.free 1 (by simp)
  have clp := X1.out.p.lt
  have cly := X1.out.y.lt
  have cld := X1.out.d.lt
  go_wp2_with fail
  refine bodyPost_ret (v := .tuple #[.agg #[.int .i64 0, .int .i64 0], errV E]) (by simp [results, Tryz.results34, go_sem, cd0, cd1]; try rfl) rfl ?_
  exact ⟨rfl, by repeat (first | exact X1.out.b | refine blw_drewN ?_ _ | refine Below.setCell ?_ (by first | (simp; done) | omega | (simp; omega)) _ | refine Below.alloc ?_ (by first | (simp; done) | omega | (simp; omega)) _)⟩

set_option maxRecDepth 100000 in
set_option maxHeartbeats 4000000 in
theorem read_fine (p : Nt.Pt) (pt cm : UInt8) (t : List UInt8) (w : World) (hD : DM w) (h1 : p.pre.length ≤ 1000000000) (h2 : p.suf.length ≤ 1000000000) (ht : t.length ≤ 1000000000) (hE : Nt.allE p pt cm = 0) :
    Calls Tryz.prog 34 #[pV p, yV pt cm, .string ⟨t.toArray⟩] w (Nt.ReadPost p pt cm t (errV 3) .nilIface w) := by
  have hp : Nt.patE p = 0 := by unfold Nt.allE at hE; split at hE <;> omega
  have hy : Nt.symB pt cm = true := by
    unfold Nt.allE at hE; rw [if_neg (by omega)] at hE
    split at hE
    · assumption
    · omega
  have CK := Lib.hid fun w => chk_any p pt cm w h1 h2
  rw [hE, show errN 0 = .nilIface from rfl] at CK
  have CF := Lib.hid fun (c s : Int) (hd : okD c s) (wx : World) (hb : Below w.heap.size w wx) => fmt_text p pt cm c s wx (hD.below hb).p (hD.below hb).m h1 h2 (by unfold Nt.fmtE; rw [if_neg (by rw [hE]; simp)]; exact if_pos hd)
  obtain ⟨Q', hQ'⟩ : ∃ Q', Q' = Nt.ReadPost p pt cm t (errV 3) .nilIface w := ⟨_, rfl⟩
  rw [← hQ']
  have HQ1 := Lib.hid fun c s (hd : okD c s) (hc : Byt.decText c s = Nt.candT p pt cm t) (hs : Nt.shown p pt cm c s = t) w' (hb : Below w.heap.size w w') => (show Q' (.returned (.tuple #[.agg #[.int .i64 c, .int .i64 s], .nilIface])) w' by rw [hQ']; exact .inl ⟨c, s, Nt.good_of hp hy hd hc hs, rfl, hb⟩)
  have HQ2 := Lib.hid fun (hn : ∀ c s, okD c s → Byt.decText c s ≠ Nt.candT p pt cm t) w' (hb : Below w.heap.size w w') => (show Q' (.returned (.tuple #[.agg #[.int .i64 0, .int .i64 0], errV 3])) w' by rw [hQ']; exact .inr ⟨fun c s g => hn c s g.1 (Nt.good_cand hp hy g).symm, rfl, hb⟩)
  have HQ3 := Lib.hid fun c s (hd : okD c s) (hc : Byt.decText c s = Nt.candT p pt cm t) (hs : ¬ (Nt.shown p pt cm c s = t ∧ s ≤ p.mf)) w' (hb : Below w.heap.size w w') => (show Q' (.returned (.tuple #[.agg #[.int .i64 0, .int .i64 0], errV 3])) w' by
    rw [hQ']
    refine .inr ⟨fun c' s' g => hs ?_, rfl, hb⟩
    obtain ⟨rfl, rfl⟩ := Nt.good_only hp hy hd hc g
    exact ⟨g.2.1, Nt.good_mf hp g⟩)
  clear hQ' hp hy hE
  obtain ⟨r0, e0⟩ : ∃ r0, r0 = Lib.trimPrefix t [45] := ⟨_, rfl⟩
  obtain ⟨r1, e1⟩ : ∃ r1, r1 = Lib.trimPrefix r0 p.pre := ⟨_, rfl⟩
  obtain ⟨r2, e2⟩ : ∃ r2, r2 = Lib.trimSuffix r1 p.suf := ⟨_, rfl⟩
  obtain ⟨wa, ea⟩ : ∃ wa, wa = (Lib.cut r2 [pt]).1 := ⟨_, rfl⟩
  obtain ⟨bb, eb⟩ : ∃ bb, bb = (Lib.cut r2 [pt]).2.1 := ⟨_, rfl⟩
  obtain ⟨ms, em⟩ : ∃ ms, ms = Lib.hasPrefix t [45] := ⟨_, rfl⟩
  obtain ⟨wo, eo⟩ : ∃ wo, wo = without cm wa := ⟨_, rfl⟩
  obtain ⟨t1, et1⟩ : ∃ t1, t1 = Lib.trimLeftB wo 48 := ⟨_, rfl⟩
  obtain ⟨t2, et2⟩ : ∃ t2 : List UInt8, t2 = if t1 = [] then [48] else t1 := ⟨_, rfl⟩
  obtain ⟨b2, eb2⟩ : ∃ b2, b2 = Lib.trimRightB bb 48 := ⟨_, rfl⟩
  obtain ⟨tl, etl⟩ : ∃ tl : List UInt8, tl = if b2 = [] then [] else 46 :: b2 := ⟨_, rfl⟩
  obtain ⟨t3, et3⟩ : ∃ t3 : List UInt8, t3 = t2 ++ tl := ⟨_, rfl⟩
  obtain ⟨T, eT⟩ : ∃ T, T = Nt.candT p pt cm t := ⟨_, rfl⟩
  have hT : T = (if ms then [45] else []) ++ t3 := by
    rw [eT, et3, etl, eb2, et2, et1, eo, eb, ea, e2, e1, e0, em]; rfl
  rw [← eT] at HQ1 HQ2 HQ3
  clear eT
  have l0 : r0.length ≤ 1000000000 := by rw [e0]; have := Lib.trimPrefix_le t [45]; omega
  have l1 : r1.length ≤ 1000000000 := by rw [e1]; have := Lib.trimPrefix_le r0 p.pre; omega
  have l2 : r2.length ≤ 1000000000 := by rw [e2]; have := Lib.trimSuffix_le r1 p.suf; omega
  have lc := cutc_small r2 pt
  rw [← ea, ← eb] at lc
  have lo : wo.length ≤ 1000000000 := by rw [eo]; have := without_len cm wa; omega
  have lt1 : t1.length ≤ 1000000000 := by rw [et1]; have := tleft_le wo 48; omega
  have lt2 : t2.length ≤ 1000000001 := by
    rw [et2]; split
    · simp
    · omega
  have lb2 : b2.length ≤ 1000000000 := by rw [eb2]; have := tright_le bb 48; omega
  have ltl : tl.length ≤ 1000000001 := by
    rw [etl]; split
    · simp
    · rw [List.length_cons]; omega
  have lt3 : t3.length ≤ 2000000002 := by rw [et3, List.length_append]; omega
  have lT : T.length ≤ 2000000003 := by
    rw [hT, List.length_append]
    split
    · simp; omega
    · simp; omega
  have C1 := Lib.hid fun w => (cutpre_any t w).mono fun e w' h => (⟨h.1, h.2.symm⟩ : _ ∧ w = w')
  have C2 := Lib.hid fun w => tpre_any r0 p.pre w
  have C3 := Lib.hid fun w => tsuf_any r1 p.suf w (by omega)
  have C4 := Lib.hid fun (wx : World) (hb : Below w.heap.size w wx) => cutc_any r2 pt wx (hD.below hb).m (by omega)
  have C5 := Lib.hid fun (wx : World) (hb : Below w.heap.size w wx) => strike_any wa cm wx (hD.below hb).m (by omega)
  have C6 := Lib.hid fun w => tleft_any wo w
  have C7 := Lib.hid fun w => tright_any bb w (by omega)
  have C8 := Lib.hid fun (wx : World) (hb : Below w.heap.size w wx) => dparse_any T wx (hD.below hb) (by omega)
  rw [← em, ← e0] at C1
  rw [← e1] at C2
  rw [← e2] at C3
  rw [← ea, ← eb] at C4
  rw [← eo] at C5
  rw [← et1] at C6
  rw [← eb2] at C7
  have A1 := Lib.hid fun (hb : b2 ≠ []) => (show (∀ w, (Op.stringOp .add ⟨#[46]⟩ ⟨b2.toArray⟩).run Tryz.prog w = .ok (.string ⟨tl.toArray⟩) w) ∧ (∀ w, (Op.stringOp .add ⟨t2.toArray⟩ ⟨tl.toArray⟩).run Tryz.prog w = .ok (.string ⟨t3.toArray⟩) w) from by
    have e : tl = [46] ++ b2 := by rw [etl, if_neg hb]; rfl
    exact ⟨fun w => by rw [e]; exact add_str (P := Tryz.prog) [46] b2 (by simp; omega) w, fun w => by rw [et3]; exact add_str (P := Tryz.prog) t2 tl (by omega) w⟩)
  have A2 := Lib.hid fun (hm : ms = true) => (show ∀ w, (Op.stringOp .add ⟨#[45]⟩ ⟨t3.toArray⟩).run Tryz.prog w = .ok (.string ⟨T.toArray⟩) w from fun w => by
    rw [hT, if_pos hm]; exact add_str (P := Tryz.prog) [45] t3 (by simp; omega) w)
  have N1 := Lib.hid (show b2 = [] → t3 = t2 from fun h => by rw [et3, etl, if_pos h, List.append_nil])
  have N2 := Lib.hid (show ms = false → T = t3 from fun h => by rw [hT, h]; rfl)
  have N3 := Lib.hid (And.intro (show t1 = [] → t2 = [48] from fun h => by rw [et2, if_pos h]) (show t1 ≠ [] → t2 = t1 from fun h => by rw [et2, if_neg h]))
  clear e0 e1 e2 ea eb em eo et1 et2 eb2 etl et3 hT l0 l1 l2 lc lo lt1 lt2 lb2 ltl lt3 lT h1 h2 ht
  generalize (Lib.cut r2 [pt]).2.2 = FF at *
  unfold pV yV at *
  obtain ⟨pre, suf, mi, nf, mf, g, g2⟩ := p
  simp only at *
  have X0 := Lib.hid (Bx.made w #[.string ⟨pre.toArray⟩, .string ⟨suf.toArray⟩, .int .i64 mi, .int .i64 nf, .int .i64 mf, .int .i64 g, .int .i64 g2] #[.int .u8 (pt.toNat : Int), .int .u8 (cm.toNat : Int)] (.int .i64 0) (.int .i64 0) 69 71 37)
  have HDM := Lib.hid hD
  clear hD
  go_enter Tryz.func34, Tryz.ntmps34
  go_wp2_with fail
  refine (CK.out _).mono ?_
  rintro e w1 ⟨rfl, hb⟩
  have X1 := Lib.hid (X0.out.below hb)
  clear hb X0 CK
  have cp0 := X1.out.p.cell 0 _ rfl
  have cp1 := X1.out.p.cell 1 _ rfl
  have cp2 := X1.out.p.cell 2 _ rfl
  have cp3 := X1.out.p.cell 3 _ rfl
  have cp4 := X1.out.p.cell 4 _ rfl
  have cp5 := X1.out.p.cell 5 _ rfl
  have cp6 := X1.out.p.cell 6 _ rfl
  have cy0 := X1.out.y.cell 0 _ rfl
  have cy1 := X1.out.y.cell 1 _ rfl
  have cd0 := X1.out.d.cell 0 _ rfl
  have cd1 := X1.out.d.cell 1 _ rfl
  have clp := X1.out.p.lt
  have cly := X1.out.y.lt
  have cld := X1.out.d.lt
  go_wp2_with fail
  refine (C1.out _).mono ?_
  rintro e w' ⟨rfl, rfl⟩
  clear C1
  go_wp2_with fail
  go_big_quiet ((first | (go_at_call 82; with_reducible exact quiet_left (C2.out _)) | (go_at_call 81; with_reducible exact quiet_left (C3.out _))))
  clear C2 C3
  have X2 := Lib.hid (X1.out.drewN nq)
  clear X1
  clear cp0 cp1 cp2 cp3 cp4 cp5 cp6 cy0 cy1 cd0 cd1 clp cly cld
  have cp0 := X2.out.p.cell 0 _ rfl
  have cp1 := X2.out.p.cell 1 _ rfl
  have cp2 := X2.out.p.cell 2 _ rfl
  have cp3 := X2.out.p.cell 3 _ rfl
  have cp4 := X2.out.p.cell 4 _ rfl
  have cp5 := X2.out.p.cell 5 _ rfl
  have cp6 := X2.out.p.cell 6 _ rfl
  have cy0 := X2.out.y.cell 0 _ rfl
  have cy1 := X2.out.y.cell 1 _ rfl
  have cd0 := X2.out.d.cell 0 _ rfl
  have cd1 := X2.out.d.cell 1 _ rfl
  have clp := X2.out.p.lt
  have cly := X2.out.y.lt
  have cld := X2.out.d.lt
  generalize hw2 : w1.drewN nq = w2 at *
  have V1 := conv_by pt w2
  go_wp2_with fail
  refine (C4.out _ (X2.out.alloc _).b).mono ?_
  rintro e w3 ⟨rfl, hb⟩
  have X3 := Lib.hid ((X2.out.alloc _).below hb)
  clear hb C4 V1 X2 hw2 cp0 cp1 cp2 cp3 cp4 cp5 cp6 cy0 cy1 cd0 cd1 clp cly cld
  have cp0 := X3.out.p.cell 0 _ rfl
  have cp1 := X3.out.p.cell 1 _ rfl
  have cp2 := X3.out.p.cell 2 _ rfl
  have cp3 := X3.out.p.cell 3 _ rfl
  have cp4 := X3.out.p.cell 4 _ rfl
  have cp5 := X3.out.p.cell 5 _ rfl
  have cp6 := X3.out.p.cell 6 _ rfl
  have cy0 := X3.out.y.cell 0 _ rfl
  have cy1 := X3.out.y.cell 1 _ rfl
  have cd0 := X3.out.d.cell 0 _ rfl
  have cd1 := X3.out.d.cell 1 _ rfl
  have clp := X3.out.p.lt
  have cly := X3.out.y.lt
  have cld := X3.out.d.lt
  have V2 := conv_by cm w3
  go_wp2_with fail
  refine (C5.out _ (X3.out.alloc _).b).mono ?_
  rintro e w4 ⟨rfl, hb⟩
  have X4 := Lib.hid ((X3.out.alloc _).below hb)
  clear hb C5 V2 X3 cp0 cp1 cp2 cp3 cp4 cp5 cp6 cy0 cy1 cd0 cd1 clp cly cld
  have cp0 := X4.out.p.cell 0 _ rfl
  have cp1 := X4.out.p.cell 1 _ rfl
  have cp2 := X4.out.p.cell 2 _ rfl
  have cp3 := X4.out.p.cell 3 _ rfl
  have cp4 := X4.out.p.cell 4 _ rfl
  have cp5 := X4.out.p.cell 5 _ rfl
  have cp6 := X4.out.p.cell 6 _ rfl
  have cy0 := X4.out.y.cell 0 _ rfl
  have cy1 := X4.out.y.cell 1 _ rfl
  have cd0 := X4.out.d.cell 0 _ rfl
  have cd1 := X4.out.d.cell 1 _ rfl
  have clp := X4.out.p.lt
  have cly := X4.out.y.lt
  have cld := X4.out.d.lt
  go_wp2_with fail
  refine (C6.out _).mono ?_
  rintro e w' ⟨rfl, rfl⟩
  clear C6
  go_upto_if 56 with fail
  go_cut [14] from 56 (fun sv wx => sv = .string ⟨t2.toArray⟩ ∧ wx = w4)
  case first =>
    obtain ⟨n31, n32⟩ := N3.out
    by_cases h : t1 = []
    · have e := n31 h
      subst h
      subst e
      go_wp2_with fail
      go_meet
      exact ⟨rfl, rfl⟩
    · have e := n32 h
      subst e
      have b0 : t2.isEmpty = false := List.isEmpty_eq_false_iff.2 h
      simp only [b0]
      go_wp2_with fail
      go_meet
      exact ⟨rfl, rfl⟩
  case rest =>
    obtain ⟨rfl, rfl⟩ := hcut
    clear N3
    go_wp2_with fail
    refine (C7.out _).mono ?_
    rintro e w' ⟨rfl, rfl⟩
    clear C7
    go_upto_if 60 with fail
    go_cut [14] from 60 (fun sv wx => sv = .string ⟨t3.toArray⟩ ∧ wx = wc)
    case first =>
      by_cases h : b2 = []
      · have e := N1.out h
        subst h
        subst e
        go_wp2_with fail
        go_meet
        exact ⟨rfl, rfl⟩
      · obtain ⟨a1, a2⟩ := A1.out h
        have b0 : b2.isEmpty = false := List.isEmpty_eq_false_iff.2 h
        simp only [b0, Bool.not_false]
        go_wp2_with fail
        go_meet
        exact ⟨rfl, rfl⟩
    case rest =>
      obtain ⟨rfl, rfl⟩ := hcut
      clear N1 A1
      go_upto_if 65 with fail
      go_cut [14] from 65 (fun sv wx => sv = .string ⟨T.toArray⟩ ∧ wx = wc)
      case first =>
        cases ms with
        | true =>
          have a2 := A2.out rfl
          go_wp2_with fail
          go_meet
          exact ⟨rfl, rfl⟩
        | false =>
          have e := N2.out rfl
          subst e
          go_wp2_with fail
          go_meet
          exact ⟨rfl, rfl⟩
      case rest =>
        obtain ⟨rfl, rfl⟩ := hcut
        clear N2 A2
        go_wp2_with fail
        refine (C8.out _ X4.out.b).mono ?_
        rintro e w5 (⟨c, s, hd, hc, rfl, hb⟩ | ⟨hn, rfl, hb⟩)
        · have X5 := Lib.hid (X4.out.below hb)
          clear hb C8 X4 cp0 cp1 cp2 cp3 cp4 cp5 cp6 cy0 cy1 cd0 cd1 clp cly cld
          have cp0 := X5.out.p.cell 0 _ rfl
          have cp1 := X5.out.p.cell 1 _ rfl
          have cp2 := X5.out.p.cell 2 _ rfl
          have cp3 := X5.out.p.cell 3 _ rfl
          have cp4 := X5.out.p.cell 4 _ rfl
          have cp5 := X5.out.p.cell 5 _ rfl
          have cp6 := X5.out.p.cell 6 _ rfl
          have cy0 := X5.out.y.cell 0 _ rfl
          have cy1 := X5.out.y.cell 1 _ rfl
          have cd0 := X5.out.d.cell 0 _ rfl
          have cd1 := X5.out.d.cell 1 _ rfl
          have cf0 := X5.out.d.free 0 (by simp)
          have cf1 := X5.out.d.free 1 (by simp)
          have clp := X5.out.p.lt
          have cly := X5.out.y.lt
          have cld := X5.out.d.lt
          have X6 := Lib.hid (X5.out.alloc (.cells #[.int .i64 c, .int .i64 s] 37))
          have D6 := Lib.hid (Boxed.made w5 #[.int .i64 c, .int .i64 s] 37)
          have CF1 := Lib.hid fun wx hb => CF.out c s hd wx hb
          clear CF
          have sl : (Nt.shown ⟨pre, suf, mi, nf, mf, g, g2⟩ pt cm c s = t) ∨ ¬ (Nt.shown ⟨pre, suf, mi, nf, mf, g, g2⟩ pt cm c s = t) := Classical.em _
          have HQ1' := Lib.hid fun hs w' hb => HQ1.out c s hd hc hs w' hb
          have HQ3' := Lib.hid fun hs w' hb => HQ3.out c s hd hc hs w' hb
          clear HQ1 HQ2 HQ3
          generalize Nt.shown ⟨pre, suf, mi, nf, mf, g, g2⟩ pt cm c s = SH at *
          go_wp2_with fail
          refine (CF1.out _ X6.out.b).mono ?_
          rintro e w7 ⟨rfl, hb⟩
          have X7 := Lib.hid (X6.out.below hb)
          have D7 := Lib.hid (D6.out.below hb)
          have ne0 : ¬ w5.heap.size = w.heap.size + 2 := by have := X5.out.lt; omega
          have ne1 : ¬ w.heap.size + 2 = w5.heap.size := by have := X5.out.lt; omega
          clear hb X6 X5 D6 CF1 cp0 cp1 cp2 cp3 cp4 cp5 cp6 cy0 cy1 cd0 cd1 cf0 cf1 clp cly cld
          have cp0 := X7.out.p.cell 0 _ rfl
          have cp1 := X7.out.p.cell 1 _ rfl
          have cp2 := X7.out.p.cell 2 _ rfl
          have cp3 := X7.out.p.cell 3 _ rfl
          have cp4 := X7.out.p.cell 4 _ rfl
          have cp5 := X7.out.p.cell 5 _ rfl
          have cp6 := X7.out.p.cell 6 _ rfl
          have cy0 := X7.out.y.cell 0 _ rfl
          have cy1 := X7.out.y.cell 1 _ rfl
          have cd0 := X7.out.d.cell 0 _ rfl
          have cd1 := X7.out.d.cell 1 _ rfl
          have cf0 := X7.out.d.free 0 (by simp)
          have cf1 := X7.out.d.free 1 (by simp)
          have clp := X7.out.p.lt
          have cly := X7.out.y.lt
          have cld := X7.out.d.lt
          have ce0 := D7.out.cell 0 _ rfl
          have ce1 := D7.out.cell 1 _ rfl
          have cel := D7.out.lt
          rcases sl with hs | hs
          · subst hs
            by_cases hm : s ≤ mf
            · have d0 : decide (mf < s) = false := dec_no (by omega)
              have q := HQ1'.out rfl
              clear HQ1' HQ3' hm hd hc
              go_wp2_with fail
              refine bodyPost_ret (v := .tuple #[.agg #[.int .i64 c, .int .i64 s], .nilIface]) (by simp [results, Tryz.results34, go_sem, cd0, cd1]; try rfl) rfl ?_
              refine q _ ?_
              repeat (first | exact X7.out.b | refine blw_drewN ?_ _ | refine Below.setCell ?_ (by first | (simp; done) | omega | (simp; omega)) _ | refine Below.alloc ?_ (by first | (simp; done) | omega | (simp; omega)) _)
            · have d0 : decide (mf < s) = true := dec_yes (by omega)
              have q := HQ3'.out (fun g => hm g.2)
              clear HQ1' HQ3' hm hd hc
              go_wp2_with fail
              refine bodyPost_ret (v := .tuple #[.agg #[.int .i64 0, .int .i64 0], errV 3]) (by simp [results, Tryz.results34, go_sem, cd0, cd1]; try rfl) rfl ?_
              refine q _ ?_
              repeat (first | exact X7.out.b | refine blw_drewN ?_ _ | refine Below.setCell ?_ (by first | (simp; done) | omega | (simp; omega)) _ | refine Below.alloc ?_ (by first | (simp; done) | omega | (simp; omega)) _)
          · have b0 : (SH == t) = false := beq_eq_false_iff_ne.2 hs
            have b1 : (SH != t) = true := by rw [bne, b0]; rfl
            have q := HQ3'.out (fun g => hs g.1)
            clear HQ1' HQ3' hs hd hc
            go_wp2_with fail
            refine bodyPost_ret (v := .tuple #[.agg #[.int .i64 0, .int .i64 0], errV 3]) (by simp [results, Tryz.results34, go_sem, cd0, cd1]; try rfl) rfl ?_
            refine q _ ?_
            repeat (first | exact X7.out.b | refine blw_drewN ?_ _ | refine Below.setCell ?_ (by first | (simp; done) | omega | (simp; omega)) _ | refine Below.alloc ?_ (by first | (simp; done) | omega | (simp; omega)) _)
        · have X5 := Lib.hid (X4.out.below hb)
          clear hb C8 X4 cp0 cp1 cp2 cp3 cp4 cp5 cp6 cy0 cy1 cd0 cd1 clp cly cld
          have cp0 := X5.out.p.cell 0 _ rfl
          have cp1 := X5.out.p.cell 1 _ rfl
          have cp2 := X5.out.p.cell 2 _ rfl
          have cp3 := X5.out.p.cell 3 _ rfl
          have cp4 := X5.out.p.cell 4 _ rfl
          have cp5 := X5.out.p.cell 5 _ rfl
          have cp6 := X5.out.p.cell 6 _ rfl
          have cy0 := X5.out.y.cell 0 _ rfl
          have cy1 := X5.out.y.cell 1 _ rfl
          have cd0 := X5.out.d.cell 0 _ rfl
          have cd1 := X5.out.d.cell 1 _ rfl
          have cf0 := X5.out.d.free 0 (by simp)
          have cf1 := X5.out.d.free 1 (by simp)
          have clp := X5.out.p.lt
          have cly := X5.out.y.lt
          have cld := X5.out.d.lt
          have q := HQ2.out hn
          clear HQ1 HQ2 HQ3 CF hn
          have ne0 : ¬ w5.heap.size = w.heap.size + 2 := by have := X5.out.lt; omega
          have ne1 : ¬ w.heap.size + 2 = w5.heap.size := by have := X5.out.lt; omega
          go_wp2_with fail
          
          refine bodyPost_ret (v := .tuple #[.agg #[.int .i64 0, .int .i64 0], errV 3]) (by simp [results, Tryz.results34, go_sem, cd0, cd1, cld]; try rfl) rfl ?_
          refine q _ ?_
          repeat (first | exact X5.out.b | refine blw_drewN ?_ _ | refine Below.setCell ?_ (by first | (simp; done) | omega | (simp; omega)) _ | refine Below.alloc ?_ (by first | (simp; done) | omega | (simp; omega)) _)
end Go.Proofs.YtaijjffnamjhiaaGreatDoor
namespace Go.Proofs.YtaijjffnamjhiaaGreatDoor
open Go.RowKit
open Go.Lib Byt
theorem shown_dig : decDigits 12345 = [49, 50, 51, 52, 53] := by
  rw [Dtx.dd2 (by omega), Dtx.dd2 (by omega), Dtx.dd2 (by omega), Dtx.dd2 (by omega), Dtx.dd1 (by omega)]; rfl
theorem shown_is : Nt.shown ⟨[], [], 1, 0, 2, 3, 0⟩ 46 44 1234500 3 = [49, 44, 50, 51, 52, 46, 53] := by
  have e1 : Nt.red 2 1234500 3 = (12345, 1) := by decide
  have hD : decDigits (12345 : Int).natAbs = [49, 50, 51, 52, 53] := shown_dig
  have e2 : Nt.wh 12345 1 = [49, 50, 51, 52] := by unfold Nt.wh zdig zn; rw [hD]; rfl
  have e3 : Nt.bh 12345 1 = [53] := by unfold Nt.bh zdig zn; rw [hD]; rfl
  have e4 : gout [49, 50, 51, 52] 3 0 44 = [49, 44, 50, 51, 52] := by
    unfold gout
    rw [if_neg (by decide), if_pos rfl, Grp.grouped_cut _ (by decide) (by decide), Grp.grouped_one _ (by decide)]
    rfl
  unfold Nt.shown
  simp only [e1]
  unfold Nt.body Nt.pad Nt.fr
  simp only [e2, e3]
  have e5 : List.replicate ((1 : Int).toNat - ([49, 50, 51, 52] : List UInt8).length) (48 : UInt8) ++ [49, 50, 51, 52] = [49, 50, 51, 52] := rfl
  rw [e5, e4]
  rfl
theorem shown_fine : Nt.fmtE ⟨[], [], 1, 0, 2, 3, 0⟩ 46 44 1234500 3 = 0 := by decide

set_option maxRecDepth 100000 in
set_option maxHeartbeats 1000000 in
theorem fact_any (w : World) (hT : PowW w) (hM : MaxW w) : Calls Tryz.prog 32 #[] w fun e w' => e = .returned (.bool true) ∧ Below w.heap.size w w' := by
  have c := fmt_text ⟨[], [], 1, 0, 2, 3, 0⟩ 46 44 1234500 3 w hT hM (by simp) (by simp) shown_fine
  rw [shown_is] at c
  have C := Lib.hid c
  clear c
  go_enter Tryz.func32, Tryz.ntmps32
  go_wp2_with fail
  refine (C.out).mono ?_
  rintro e w1 ⟨rfl, hb⟩
  go_wp2
  go_ret
  exact ⟨rfl, hb⟩
end Go.Proofs.YtaijjffnamjhiaaGreatDoor
namespace Go.Proofs.YtaijjffnamjhiaaGreatDoor
open Go.RowKit
open Dcm (P10 okD nrm)

/-- how two numbers' values stand -/
def cmpN (a s b t : Int) : Int := if nrm a s < nrm b t then -1 else if nrm a s = nrm b t then 0 else 1
/-- how two products stand -/
def cmpP (A B : Int) : Int := if A < B then -1 else if A = B then 0 else 1
theorem cmpP_N {a s b t : Int} (ha : okD a s) (hb : okD b t) : cmpP (a * P10 t) (b * P10 s) = cmpN a s b t := by
  have h1 := Dcm.lt_iff a s b t ha.1 ha.2.1 hb.1 hb.2.1
  have h2 := Dcm.eq_iff a s b t ha.1 ha.2.1 hb.1 hb.2.1
  unfold cmpP cmpN
  simp only [h1, h2]

set_option maxRecDepth 100000 in
set_option maxHeartbeats 1000000 in
theorem compared_w1 (a s b t h l k m : Int) (w : World) (a0 : 0 ≤ a) (b0 : 0 ≤ b) (h1 : h < k)
    (c1 : ∀ w, Calls Tryz.prog 87 #[.int .i64 a, .int .i64 t] w fun e w' => e = .returned (.tuple #[.int .u64 h, .int .u64 l]) ∧ w = w')
    (c2 : ∀ w, Calls Tryz.prog 87 #[.int .i64 b, .int .i64 s] w fun e w' => e = .returned (.tuple #[.int .u64 k, .int .u64 m]) ∧ w = w') :
    Calls Tryz.prog 91 #[.agg #[.int .i64 a, .int .i64 s], .agg #[.int .i64 b, .int .i64 t]] w fun e w' => e = .returned (.int .i64 (-1)) ∧ Below w.heap.size w w' := by
  have C1 := Lib.hid c1
  have C2 := Lib.hid c2
  have na : ¬ a < 0 := by omega
  have nb : ¬ b < 0 := by omega
  clear c1 c2
  go_enter Tryz.func91, Tryz.ntmps91
  go_wp2_with fail
  refine (C1.out _).mono ?_
  rintro e w' ⟨rfl, rfl⟩
  go_wp2_with fail
  refine (C2.out _).mono ?_
  rintro e w' ⟨rfl, rfl⟩
  go_wp2
  go_ret
  exact ⟨ret_int (by simp), blw_trans (blw_alloc w _) (blw_alloc _ _)⟩

set_option maxRecDepth 100000 in
set_option maxHeartbeats 1000000 in
theorem compared_w2 (a s b t h l k m : Int) (w : World) (a0 : 0 ≤ a) (b0 : 0 ≤ b) (h1 : h = k) (h2 : l < m)
    (c1 : ∀ w, Calls Tryz.prog 87 #[.int .i64 a, .int .i64 t] w fun e w' => e = .returned (.tuple #[.int .u64 h, .int .u64 l]) ∧ w = w')
    (c2 : ∀ w, Calls Tryz.prog 87 #[.int .i64 b, .int .i64 s] w fun e w' => e = .returned (.tuple #[.int .u64 k, .int .u64 m]) ∧ w = w') :
    Calls Tryz.prog 91 #[.agg #[.int .i64 a, .int .i64 s], .agg #[.int .i64 b, .int .i64 t]] w fun e w' => e = .returned (.int .i64 (-1)) ∧ Below w.heap.size w w' := by
  subst h1
  have C1 := Lib.hid c1
  have C2 := Lib.hid c2
  have na : ¬ a < 0 := by omega
  have nb : ¬ b < 0 := by omega
  clear c1 c2
  go_enter Tryz.func91, Tryz.ntmps91
  go_wp2_with fail
  refine (C1.out _).mono ?_
  rintro e w' ⟨rfl, rfl⟩
  go_wp2_with fail
  refine (C2.out _).mono ?_
  rintro e w' ⟨rfl, rfl⟩
  go_wp2
  go_ret
  exact ⟨ret_int (by simp), blw_trans (blw_alloc w _) (blw_alloc _ _)⟩

set_option maxRecDepth 100000 in
set_option maxHeartbeats 1000000 in
theorem compared_w3 (a s b t h l k m : Int) (w : World) (a0 : 0 ≤ a) (b0 : 0 ≤ b) (h1 : h = k) (h2 : l = m)
    (c1 : ∀ w, Calls Tryz.prog 87 #[.int .i64 a, .int .i64 t] w fun e w' => e = .returned (.tuple #[.int .u64 h, .int .u64 l]) ∧ w = w')
    (c2 : ∀ w, Calls Tryz.prog 87 #[.int .i64 b, .int .i64 s] w fun e w' => e = .returned (.tuple #[.int .u64 k, .int .u64 m]) ∧ w = w') :
    Calls Tryz.prog 91 #[.agg #[.int .i64 a, .int .i64 s], .agg #[.int .i64 b, .int .i64 t]] w fun e w' => e = .returned (.int .i64 (0)) ∧ Below w.heap.size w w' := by
  subst h1 h2
  have C1 := Lib.hid c1
  have C2 := Lib.hid c2
  have na : ¬ a < 0 := by omega
  have nb : ¬ b < 0 := by omega
  clear c1 c2
  go_enter Tryz.func91, Tryz.ntmps91
  go_wp2_with fail
  refine (C1.out _).mono ?_
  rintro e w' ⟨rfl, rfl⟩
  go_wp2_with fail
  refine (C2.out _).mono ?_
  rintro e w' ⟨rfl, rfl⟩
  go_wp2
  go_ret
  exact ⟨ret_int (by simp), blw_trans (blw_alloc w _) (blw_alloc _ _)⟩

set_option maxRecDepth 100000 in
set_option maxHeartbeats 1000000 in
theorem compared_w4 (a s b t h l k m : Int) (w : World) (a0 : 0 ≤ a) (b0 : 0 ≤ b) (h1 : h = k) (h2 : m < l)
    (c1 : ∀ w, Calls Tryz.prog 87 #[.int .i64 a, .int .i64 t] w fun e w' => e = .returned (.tuple #[.int .u64 h, .int .u64 l]) ∧ w = w')
    (c2 : ∀ w, Calls Tryz.prog 87 #[.int .i64 b, .int .i64 s] w fun e w' => e = .returned (.tuple #[.int .u64 k, .int .u64 m]) ∧ w = w') :
    Calls Tryz.prog 91 #[.agg #[.int .i64 a, .int .i64 s], .agg #[.int .i64 b, .int .i64 t]] w fun e w' => e = .returned (.int .i64 (1)) ∧ Below w.heap.size w w' := by
  subst h1
  have C1 := Lib.hid c1
  have C2 := Lib.hid c2
  have na : ¬ a < 0 := by omega
  have nb : ¬ b < 0 := by omega
  clear c1 c2
  go_enter Tryz.func91, Tryz.ntmps91
  go_wp2_with fail
  refine (C1.out _).mono ?_
  rintro e w' ⟨rfl, rfl⟩
  go_wp2_with fail
  refine (C2.out _).mono ?_
  rintro e w' ⟨rfl, rfl⟩
  go_wp2
  go_ret
  exact ⟨ret_int (by simp), blw_trans (blw_alloc w _) (blw_alloc _ _)⟩

set_option maxRecDepth 100000 in
set_option maxHeartbeats 1000000 in
theorem compared_w5 (a s b t h l k m : Int) (w : World) (a0 : 0 ≤ a) (b0 : 0 ≤ b) (h1 : k < h)
    (c1 : ∀ w, Calls Tryz.prog 87 #[.int .i64 a, .int .i64 t] w fun e w' => e = .returned (.tuple #[.int .u64 h, .int .u64 l]) ∧ w = w')
    (c2 : ∀ w, Calls Tryz.prog 87 #[.int .i64 b, .int .i64 s] w fun e w' => e = .returned (.tuple #[.int .u64 k, .int .u64 m]) ∧ w = w') :
    Calls Tryz.prog 91 #[.agg #[.int .i64 a, .int .i64 s], .agg #[.int .i64 b, .int .i64 t]] w fun e w' => e = .returned (.int .i64 (1)) ∧ Below w.heap.size w w' := by
  have C1 := Lib.hid c1
  have C2 := Lib.hid c2
  have na : ¬ a < 0 := by omega
  have nb : ¬ b < 0 := by omega
  clear c1 c2
  go_enter Tryz.func91, Tryz.ntmps91
  go_wp2_with fail
  refine (C1.out _).mono ?_
  rintro e w' ⟨rfl, rfl⟩
  go_wp2_with fail
  refine (C2.out _).mono ?_
  rintro e w' ⟨rfl, rfl⟩
  go_wp2
  go_ret
  exact ⟨ret_int (by simp), blw_trans (blw_alloc w _) (blw_alloc _ _)⟩

theorem compared_pos (a s b t : Int) (w : World) (ha : okD a s) (hb : okD b t) (a0 : 0 ≤ a) (b0 : 0 ≤ b) :
    Calls Tryz.prog 91 #[.agg #[.int .i64 a, .int .i64 s], .agg #[.int .i64 b, .int .i64 t]] w fun e w' => e = .returned (.int .i64 (cmpP (a * P10 t) (b * P10 s))) ∧ Below w.heap.size w w' := by
  have c1 := fun w => wide_any a t w a0 ha.2.2.2 hb.1 hb.2.1
  have c2 := fun w => wide_any b s w b0 hb.2.2.2 ha.1 ha.2.1
  have hl := @Dcm.words_lt (a * P10 t) (b * P10 s)
  have hl' := @Dcm.words_lt (b * P10 s) (a * P10 t)
  have he := @Dcm.words_eq (a * P10 t) (b * P10 s)
  unfold cmpP
  change _ ↔ hiW _ < hiW _ ∨ hiW _ = hiW _ ∧ loW _ < loW _ at hl
  change _ ↔ hiW _ < hiW _ ∨ hiW _ = hiW _ ∧ loW _ < loW _ at hl'
  change _ ↔ hiW _ = hiW _ ∧ loW _ = loW _ at he
  by_cases h1 : a * P10 t < b * P10 s
  · rw [if_pos h1]
    rcases hl.1 h1 with g | ⟨g, g'⟩
    · exact compared_w1 a s b t _ _ _ _ w a0 b0 g c1 c2
    · exact compared_w2 a s b t _ _ _ _ w a0 b0 g g' c1 c2
  · rw [if_neg h1]
    by_cases h2 : a * P10 t = b * P10 s
    · rw [if_pos h2]
      obtain ⟨g, g'⟩ := he.1 h2
      exact compared_w3 a s b t _ _ _ _ w a0 b0 g g' c1 c2
    · rw [if_neg h2]
      rcases hl'.1 (by omega) with g | ⟨g, g'⟩
      · exact compared_w5 a s b t _ _ _ _ w a0 b0 g c1 c2
      · exact compared_w4 a s b t _ _ _ _ w a0 b0 g.symm g' c1 c2

set_option maxRecDepth 100000 in
set_option maxHeartbeats 1000000 in
theorem compared_any (a s b t : Int) (w : World) (ha : okD a s) (hb : okD b t) :
    Calls Tryz.prog 91 #[.agg #[.int .i64 a, .int .i64 s], .agg #[.int .i64 b, .int .i64 t]] w fun e w' => e = .returned (.int .i64 (cmpN a s b t)) ∧ Below w.heap.size w w' := by
  rw [← cmpP_N ha hb]
  by_cases a0 : 0 ≤ a
  · by_cases b0 : 0 ≤ b
    · exact compared_pos a s b t w ha hb a0 b0
    · have e1 : cmpP (a * P10 t) (b * P10 s) = 1 := by
        have := Dcm.P10_pos s; have := Int.mul_neg_of_neg_of_pos (by omega : b < 0) this
        have := Dcm.P10_pos t; have := Int.mul_nonneg a0 (by omega : 0 ≤ P10 t)
        unfold cmpP; rw [if_neg (by omega), if_neg (by omega)]
      rw [e1]
      have na : ¬ a < 0 := by omega
      have nb : b < 0 := by omega
      clear e1 ha hb
      go_enter Tryz.func91, Tryz.ntmps91
      go_wp2
      go_ret
      exact ⟨rfl, blw_trans (blw_alloc w _) (blw_alloc _ _)⟩
  · by_cases b0 : 0 ≤ b
    · have e1 : cmpP (a * P10 t) (b * P10 s) = -1 := by
        have := Dcm.P10_pos t; have := Int.mul_neg_of_neg_of_pos (by omega : a < 0) this
        have := Dcm.P10_pos s; have := Int.mul_nonneg b0 (by omega : 0 ≤ P10 s)
        unfold cmpP; rw [if_pos (by omega)]
      rw [e1]
      have na : a < 0 := by omega
      clear e1 ha hb
      go_enter Tryz.func91, Tryz.ntmps91
      go_wp2
      go_ret
      exact ⟨rfl, blw_trans (blw_alloc w _) (blw_alloc _ _)⟩
    · have ha' := ha
      have hb' := hb
      obtain ⟨s0, s1, a1, a2⟩ := ha'
      obtain ⟨t0, t1, b1, b2⟩ := hb'
      have hc := fun w => compared_pos (-b) t (-a) s w ⟨t0, t1, by omega, by omega⟩ ⟨s0, s1, by omega, by omega⟩ (by omega) (by omega)
      have e1 : cmpP (-b * P10 s) (-a * P10 t) = cmpP (a * P10 t) (b * P10 s) := by
        rw [Int.neg_mul, Int.neg_mul]; unfold cmpP
        by_cases h1 : a * P10 t < b * P10 s
        · rw [if_pos h1, if_pos (by omega)]
        · rw [if_neg h1, if_neg (by omega)]
          by_cases h2 : a * P10 t = b * P10 s
          · rw [if_pos h2, if_pos (by omega)]
          · rw [if_neg h2, if_neg (by omega)]
      rw [e1] at hc
      have HC := Lib.hid hc
      have na : a < 0 := by omega
      have nb : b < 0 := by omega
      clear e1 ha hb hc
      go_enter Tryz.func91, Tryz.ntmps91
      go_wp2_with fail
      refine (HC.out _).mono ?_
      rintro e w' ⟨rfl, hb⟩
      go_wp2
      go_ret
      exact ⟨rfl, blw_trans (blw_trans (blw_alloc w _) (blw_alloc _ _)) hb⟩

set_option maxRecDepth 100000 in
set_option maxHeartbeats 1000000 in
theorem right_yes (a s b t : Int) (w : World) (ha : okD a s) (hb : okD b t) :
    Calls Tryz.prog 90 #[.agg #[.int .i64 a, .int .i64 s], .agg #[.int .i64 b, .int .i64 t]] w fun e w' => e = .returned (.bool true) ∧ Below w.heap.size w w' := by
  have C1 := Lib.hid fun w => dchk_yes a s w ha
  have C2 := Lib.hid fun w => dchk_yes b t w hb
  clear ha hb
  go_enter Tryz.func90, Tryz.ntmps90
  go_wp2_with fail
  refine (C1.out _).mono ?_
  rintro e w1 ⟨rfl, hb⟩
  have B := Boxed.below (Boxed.made _ #[.int .i64 b, .int .i64 t] 37) hb
  have k0 := B.cell 0 _ rfl
  have k1 := B.cell 1 _ rfl
  simp at k0 k1
  have W1 := Lib.hid (blw_trans (blw_trans (blw_alloc w _) (blw_alloc _ _)) hb)
  clear hb B
  go_wp2_with fail
  refine (C2.out _).mono ?_
  rintro e w2 ⟨rfl, hb⟩
  go_wp2
  go_ret
  exact ⟨rfl, blw_trans W1.out hb⟩
set_option maxRecDepth 100000 in
set_option maxHeartbeats 1000000 in
theorem right_no (a s b t : Int) (w : World) (h : ¬ (okD a s ∧ okD b t)) :
    Calls Tryz.prog 90 #[.agg #[.int .i64 a, .int .i64 s], .agg #[.int .i64 b, .int .i64 t]] w fun e w' => e = .returned (.bool false) ∧ Below w.heap.size w w' := by
  by_cases ha : okD a s
  · have C1 := Lib.hid fun w => dchk_yes a s w ha
    have C2 := Lib.hid fun w => dchk_no b t w fun hb => h ⟨ha, hb⟩
    clear ha h
    go_enter Tryz.func90, Tryz.ntmps90
    go_wp2_with fail
    refine (C1.out _).mono ?_
    rintro e w1 ⟨rfl, hb⟩
    have B := Boxed.below (Boxed.made _ #[.int .i64 b, .int .i64 t] 37) hb
    have k0 := B.cell 0 _ rfl
    have k1 := B.cell 1 _ rfl
    simp at k0 k1
    have W1 := Lib.hid (blw_trans (blw_trans (blw_alloc w _) (blw_alloc _ _)) hb)
    clear hb B
    go_wp2_with fail
    refine (C2.out _).mono ?_
    rintro e w2 ⟨rfl, hb⟩
    go_wp2
    go_ret
    exact ⟨rfl, blw_trans W1.out hb⟩
  · have C1 := Lib.hid fun w => dchk_no a s w ha
    clear ha h
    go_enter Tryz.func90, Tryz.ntmps90
    go_wp2_with fail
    refine (C1.out _).mono ?_
    rintro e w1 ⟨rfl, hb⟩
    go_wp2
    go_ret
    exact ⟨rfl, blw_trans (blw_trans (blw_alloc w _) (blw_alloc _ _)) hb⟩

set_option maxRecDepth 100000 in
set_option maxHeartbeats 1000000 in
theorem same_yes (a s b t : Int) (w : World) (ha : okD a s) (hb : okD b t) (h : nrm a s = nrm b t) :
    Calls Tryz.prog 36 #[.agg #[.int .i64 a, .int .i64 s], .agg #[.int .i64 b, .int .i64 t]] w fun e w' => e = .returned (.bool true) ∧ Below w.heap.size w w' := by
  have C1 := Lib.hid fun w => right_yes a s b t w ha hb
  have C2 := Lib.hid fun w => compared_any a s b t w ha hb
  have hv : cmpN a s b t = 0 := by unfold cmpN; (repeat' split) <;> omega
  generalize cmpN a s b t = v at *
  clear ha hb h
  go_enter Tryz.func36, Tryz.ntmps36
  go_wp2_with fail
  refine (C1.out _).mono ?_
  rintro e w1 ⟨rfl, hb⟩
  have B0 := Boxed.below (Boxed.alloc (Boxed.made _ #[.int .i64 a, .int .i64 s] 37) _) hb
  have B := Boxed.below (Boxed.made _ #[.int .i64 b, .int .i64 t] 37) hb
  have j0 := B0.cell 0 _ rfl
  have j1 := B0.cell 1 _ rfl
  have k0 := B.cell 0 _ rfl
  have k1 := B.cell 1 _ rfl
  simp at k0 k1
  have W1 := Lib.hid (blw_trans (blw_trans (blw_alloc w _) (blw_alloc _ _)) hb)
  clear hb B B0
  go_wp2_with fail
  refine (C2.out _).mono ?_
  rintro e w2 ⟨rfl, hb⟩
  go_wp2
  go_ret
  exact ⟨ret_bool (by simp; try omega), blw_trans W1.out hb⟩

set_option maxRecDepth 100000 in
set_option maxHeartbeats 1000000 in
theorem same_no (a s b t : Int) (w : World) (ha : okD a s) (hb : okD b t) (h : ¬ nrm a s = nrm b t) :
    Calls Tryz.prog 36 #[.agg #[.int .i64 a, .int .i64 s], .agg #[.int .i64 b, .int .i64 t]] w fun e w' => e = .returned (.bool false) ∧ Below w.heap.size w w' := by
  have C1 := Lib.hid fun w => right_yes a s b t w ha hb
  have C2 := Lib.hid fun w => compared_any a s b t w ha hb
  have hv : cmpN a s b t ≠ 0 := by unfold cmpN; (repeat' split) <;> omega
  generalize cmpN a s b t = v at *
  clear ha hb h
  go_enter Tryz.func36, Tryz.ntmps36
  go_wp2_with fail
  refine (C1.out _).mono ?_
  rintro e w1 ⟨rfl, hb⟩
  have B0 := Boxed.below (Boxed.alloc (Boxed.made _ #[.int .i64 a, .int .i64 s] 37) _) hb
  have B := Boxed.below (Boxed.made _ #[.int .i64 b, .int .i64 t] 37) hb
  have j0 := B0.cell 0 _ rfl
  have j1 := B0.cell 1 _ rfl
  have k0 := B.cell 0 _ rfl
  have k1 := B.cell 1 _ rfl
  simp at k0 k1
  have W1 := Lib.hid (blw_trans (blw_trans (blw_alloc w _) (blw_alloc _ _)) hb)
  clear hb B B0
  go_wp2_with fail
  refine (C2.out _).mono ?_
  rintro e w2 ⟨rfl, hb⟩
  go_wp2
  go_ret
  exact ⟨ret_bool (by simp; try omega), blw_trans W1.out hb⟩

set_option maxRecDepth 100000 in
set_option maxHeartbeats 1000000 in
theorem same_bad (a s b t : Int) (w : World) (h : ¬ (okD a s ∧ okD b t)) :
    Calls Tryz.prog 36 #[.agg #[.int .i64 a, .int .i64 s], .agg #[.int .i64 b, .int .i64 t]] w fun e w' => e = .returned (.bool false) ∧ Below w.heap.size w w' := by
  have C1 := Lib.hid fun w => right_no a s b t w h
  clear h
  go_enter Tryz.func36, Tryz.ntmps36
  go_wp2_with fail
  refine (C1.out _).mono ?_
  rintro e w1 ⟨rfl, hb⟩
  go_wp2
  go_ret
  exact ⟨rfl, blw_trans (blw_trans (blw_alloc w _) (blw_alloc _ _)) hb⟩
end Go.Proofs.YtaijjffnamjhiaaGreatDoor
namespace Go.Proofs.YtaijjffnamjhiaaGreatDoor
open Go.RowKit
open Dcm (okD nrm)
theorem min_le_both (a b : Int) : min a b ≤ a ∧ min a b ≤ b ∧ (min a b = a ∨ min a b = b) := by omega
theorem rnd_min (mf c s : Int) (hd : okD c s) (m0 : 0 ≤ mf) (m6 : mf ≤ 6) : rndE c s (min mf s) 5 = 0 := by
  obtain ⟨h1, h2, h3⟩ := min_le_both mf s
  refine rndE_zero.2 ⟨hd, by have := hd.1; omega, by omega, by omega, by omega, fun h => ?_⟩
  have e : min mf s = s := by omega
  rw [e, Int.sub_self]
  have := hd.2.2
  show Dcm.mag c * 1 ≤ _
  unfold Dcm.mag; split <;> omega

set_option maxRecDepth 100000 in
set_option maxHeartbeats 4000000 in
theorem nback_any (p : Nt.Pt) (pt cm : UInt8) (c s : Int) (t : List UInt8) (w : World) (hD : DM w) (h1 : p.pre.length ≤ 100000000) (h2 : p.suf.length ≤ 100000000) (ht : t.length ≤ 1000000000) :
    Calls Tryz.prog 7 #[pV p, yV pt cm, .agg #[.int .i64 c, .int .i64 s], .string ⟨t.toArray⟩] w fun e w' => e = .returned (.bool true) ∧ Below w.heap.size w w' := by
  have C0 := Lib.hid fun (wx : World) (hb : Below w.heap.size w wx) => fact_any wx (hD.below hb).p (hD.below hb).m
  have C1 := Lib.hid fun (wx : World) (hb : Below w.heap.size w wx) => fmt_any p pt cm c s wx (hD.below hb).p (hD.below hb).m (by omega) (by omega)
  have HB : Hid (Nt.fmtE p pt cm c s = 0 → ∃ a b, (a, b) = Nt.red p.mf c s ∧ Nt.patE p = 0 ∧ okD a b ∧ okD c s ∧ ftxt p pt cm c s = Nt.shown p pt cm c s ∧ (b = 0 ∨ a % 10 ≠ 0) ∧ nrm a b = nrm (Dcm.rndC c s (min p.mf s) 5) (min p.mf s) ∧ rndE c s (min p.mf s) 5 = 0 ∧ errN (Nt.fmtE p pt cm c s) = .nilIface ∧ ∀ wx, Below w.heap.size w wx → Calls Tryz.prog 34 #[pV p, yV pt cm, .string ⟨(Nt.shown p pt cm c s).toArray⟩] wx fun e w' => e = .returned (.tuple #[.agg #[.int .i64 a, .int .i64 b], .nilIface]) ∧ Below wx.heap.size wx w') := Lib.hid fun hE => by
    obtain ⟨hp, hy, hd⟩ := Nt.fmt_ok hE
    have ps := Nt.size_ok (Nt.pat_ok hp).2.2.1
    obtain ⟨r1, r2, r3⟩ := Nt.red_fine p.mf c s hd (by omega) (by omega)
    refine ⟨_, _, rfl, hp, r1, hd, if_pos hE, r3, Nt.red_nrm hd (by omega) (by omega), rnd_min p.mf c s hd (by omega) (by omega), if_pos hE, fun wx hb => ?_⟩
    have sl := Nt.shown_len p pt cm c s hd hp
    have hA : Nt.allE p pt cm = 0 := by unfold Nt.allE; rw [if_neg (by omega), if_pos hy]
    refine (read_fine p pt cm (Nt.shown p pt cm c s) wx (hD.below hb) (by omega) (by omega) (by omega) hA).mono ?_
    rintro e w' (⟨c', s', gd, rfl, hb'⟩ | ⟨hn, _, _⟩)
    · obtain ⟨e1, e2⟩ := Nt.good_uniq hp hy (Nt.good_shown hp hd) gd
      rw [e1, e2]
      exact ⟨rfl, hb'⟩
    · exact absurd (Nt.good_shown hp hd) (hn _ _)
  have HR1 := Lib.hid fun (hE : Nt.allE p pt cm ≠ 0) (wx : World) => read_bad p pt cm t wx (by omega) (by omega) hE
  have HR2 := Lib.hid fun (hE : Nt.allE p pt cm = 0) (wx : World) (hb : Below w.heap.size w wx) => read_fine p pt cm t wx (hD.below hb) (by omega) (by omega) ht hE
  have HR3 := Lib.hid fun (hE : Nt.allE p pt cm = 0) (a b : Int) (gd : Nt.Good p pt cm t a b) (wx : World) (hb : Below w.heap.size w wx) => (fmt_text p pt cm a b wx (hD.below hb).p (hD.below hb).m (by omega) (by omega) (by unfold Nt.fmtE; rw [if_neg (by rw [hE]; simp)]; exact if_pos gd.1)).mono fun e w' h => (show e = .returned (.tuple #[.string ⟨t.toArray⟩, .nilIface]) ∧ Below wx.heap.size wx w' by rw [gd.2.1] at h; exact h)
  obtain ⟨pre, suf, mi, nf, mf, g, g2⟩ := p
  unfold pV yV at *
  simp only at *
  obtain ⟨AE, hAE⟩ : ∃ AE, AE = Nt.allE ⟨pre, suf, mi, nf, mf, g, g2⟩ pt cm := ⟨_, rfl⟩
  rw [← hAE] at HR1 HR2 HR3
  clear hAE
  have HQ1 : Hid (∀ e w', Nt.ReadPost ⟨pre, suf, mi, nf, mf, g, g2⟩ pt cm t (errV 3) .nilIface w' e w' → True) := Lib.hid fun _ _ _ => trivial
  clear HQ1 h1 h2 ht hD
  have X0 := Lib.hid (Bx.made w #[.string ⟨pre.toArray⟩, .string ⟨suf.toArray⟩, .int .i64 mi, .int .i64 nf, .int .i64 mf, .int .i64 g, .int .i64 g2] #[.int .u8 (pt.toNat : Int), .int .u8 (cm.toNat : Int)] (.int .i64 c) (.int .i64 s) 69 71 37)
  generalize hFE : Nt.fmtE ⟨pre, suf, mi, nf, mf, g, g2⟩ pt cm c s = FE at *
  generalize ftxt ⟨pre, suf, mi, nf, mf, g, g2⟩ pt cm c s = T1 at *
  obtain ⟨EV, hEV⟩ : ∃ EV, EV = errN FE := ⟨_, rfl⟩
  rw [← hEV] at C1 HB
  have HEV := Lib.hid hEV
  clear hEV
  go_enter Tryz.func7, Tryz.ntmps7
  go_wp2_with fail
  refine (C0.out _ X0.out.b).mono ?_
  rintro e w1 ⟨rfl, hb⟩
  have X1 := Lib.hid (X0.out.below hb)
  clear hb X0 C0
  have cp0 := X1.out.p.cell 0 _ rfl
  have cp1 := X1.out.p.cell 1 _ rfl
  have cp2 := X1.out.p.cell 2 _ rfl
  have cp3 := X1.out.p.cell 3 _ rfl
  have cp4 := X1.out.p.cell 4 _ rfl
  have cp5 := X1.out.p.cell 5 _ rfl
  have cp6 := X1.out.p.cell 6 _ rfl
  have cy0 := X1.out.y.cell 0 _ rfl
  have cy1 := X1.out.y.cell 1 _ rfl
  have cd0 := X1.out.d.cell 0 _ rfl
  have cd1 := X1.out.d.cell 1 _ rfl
  have clp := X1.out.p.lt
  have cly := X1.out.y.lt
  have cld := X1.out.d.lt
  go_wp2_with fail
  refine (C1.out _ X1.out.b).mono ?_
  rintro e w2 ⟨rfl, hb⟩
  have X2 := Lib.hid (X1.out.below hb)
  clear hb X1 C1
  clear cp0 cp1 cp2 cp3 cp4 cp5 cp6 cy0 cy1 cd0 cd1 clp cly cld
  have cp0 := X2.out.p.cell 0 _ rfl
  have cp1 := X2.out.p.cell 1 _ rfl
  have cp2 := X2.out.p.cell 2 _ rfl
  have cp3 := X2.out.p.cell 3 _ rfl
  have cp4 := X2.out.p.cell 4 _ rfl
  have cp5 := X2.out.p.cell 5 _ rfl
  have cp6 := X2.out.p.cell 6 _ rfl
  have cy0 := X2.out.y.cell 0 _ rfl
  have cy1 := X2.out.y.cell 1 _ rfl
  have cd0 := X2.out.d.cell 0 _ rfl
  have cd1 := X2.out.d.cell 1 _ rfl
  have clp := X2.out.p.lt
  have cly := X2.out.y.lt
  have cld := X2.out.d.lt
  by_cases hE : FE = 0
  · obtain ⟨a, b, hr, hp, ok1, ok2, rfl, hz, hn, hrn, he, CRd⟩ := HB.out hE
    have CR := Lib.hid CRd
    have CO := Lib.hid fun wx => round_yes c s (min mf s) 5 wx hrn
    have CS := Lib.hid fun wx => same_yes a b (Dcm.rndC c s (min mf s) 5) (min mf s) wx ok1 (rndC_ok hrn) hn
    clear HB CRd HEV hr hp hrn hn ok2
    subst he
    generalize Nt.shown ⟨pre, suf, mi, nf, mf, g, g2⟩ pt cm c s = T1 at *
    obtain ⟨tm, htm⟩ : ∃ tm, min mf s = tm := ⟨_, rfl⟩
    rw [htm] at CO CS
    generalize Dcm.rndC c s tm 5 = q at *
    go_wp2_with fail
    refine (CR.out _ X2.out.b).mono ?_
    rintro e w3 ⟨rfl, hb⟩
    have X3 := Lib.hid (X2.out.below hb)
    clear hb X2 CR cp0 cp1 cp2 cp3 cp4 cp5 cp6 cy0 cy1 cd0 cd1 clp cly cld
    have X4 := Lib.hid (X3.out.alloc (.cells #[.int .i64 a, .int .i64 b] 37))
    have R4 := Lib.hid (Boxed.made w3 #[.int .i64 a, .int .i64 b] 37)
    have rl := X3.out.lt
    have cp0 := X3.out.p.cell 0 _ rfl
    have cp1 := X3.out.p.cell 1 _ rfl
    have cp2 := X3.out.p.cell 2 _ rfl
    have cp3 := X3.out.p.cell 3 _ rfl
    have cp4 := X3.out.p.cell 4 _ rfl
    have cp5 := X3.out.p.cell 5 _ rfl
    have cp6 := X3.out.p.cell 6 _ rfl
    have cy0 := X3.out.y.cell 0 _ rfl
    have cy1 := X3.out.y.cell 1 _ rfl
    have cd0 := X3.out.d.cell 0 _ rfl
    have cd1 := X3.out.d.cell 1 _ rfl
    have clp := X3.out.p.lt
    have cly := X3.out.y.lt
    have cld := X3.out.d.lt
    go_wp2_with fail
    refine (CO.out _).mono ?_
    rintro e w5 ⟨rfl, hb⟩
    have X5 := Lib.hid (X4.out.below hb)
    have R5 := Lib.hid (R4.out.below hb)
    clear hb X3 X4 R4 CO cp0 cp1 cp2 cp3 cp4 cp5 cp6 cy0 cy1 cd0 cd1 clp cly cld
    have cp0 := X5.out.p.cell 0 _ rfl
    have cp1 := X5.out.p.cell 1 _ rfl
    have cp2 := X5.out.p.cell 2 _ rfl
    have cp3 := X5.out.p.cell 3 _ rfl
    have cp4 := X5.out.p.cell 4 _ rfl
    have cp5 := X5.out.p.cell 5 _ rfl
    have cp6 := X5.out.p.cell 6 _ rfl
    have cy0 := X5.out.y.cell 0 _ rfl
    have cy1 := X5.out.y.cell 1 _ rfl
    have cd0 := X5.out.d.cell 0 _ rfl
    have cd1 := X5.out.d.cell 1 _ rfl
    have clp := X5.out.p.lt
    have cly := X5.out.y.lt
    have cld := X5.out.d.lt
    have cr0 := R5.out.cell 0 _ rfl
    have cr1 := R5.out.cell 1 _ rfl
    have crl := R5.out.lt
    have X6 := Lib.hid (X5.out.alloc (.cells #[.int .i64 q, .int .i64 tm] 37))
    rcases Int.lt_or_le 0 b with hb0 | hb0
    · have hm : a % 10 ≠ 0 := by omega
      have d0 : decide (0 < b) = true := dec_yes hb0
      have r0 : (a.tmod 10 == 0) = false := by rw [rem_ten, decide_eq_false hm]
      clear hz hm
      go_wp2_with fail
      refine (CS.out _).mono ?_
      rintro e w7 ⟨rfl, hb⟩
      have X7 := Lib.hid (X6.out.below hb)
      have R7 := Lib.hid ((R5.out.alloc (.cells #[.int .i64 q, .int .i64 tm] 37)).below hb)
      clear hb X6 X5 R5 CS cr0 cr1 crl cp0 cp1 cp2 cp3 cp4 cp5 cp6 cy0 cy1 cd0 cd1 clp cly cld
      have cr0 := R7.out.cell 0 _ rfl
      have cr1 := R7.out.cell 1 _ rfl
      have crl := R7.out.lt
      have cp0 := X7.out.p.cell 0 _ rfl
      have cp1 := X7.out.p.cell 1 _ rfl
      have cp2 := X7.out.p.cell 2 _ rfl
      have cp3 := X7.out.p.cell 3 _ rfl
      have cp4 := X7.out.p.cell 4 _ rfl
      have cp5 := X7.out.p.cell 5 _ rfl
      have cp6 := X7.out.p.cell 6 _ rfl
      have cy0 := X7.out.y.cell 0 _ rfl
      have cy1 := X7.out.y.cell 1 _ rfl
      have cd0 := X7.out.d.cell 0 _ rfl
      have cd1 := X7.out.d.cell 1 _ rfl
      have clp := X7.out.p.lt
      have cly := X7.out.y.lt
      have cld := X7.out.d.lt
      by_cases hA : AE = 0
      · have CR := Lib.hid (HR2.out hA)
        have CF := Lib.hid (HR3.out hA)
        clear HR1 HR2 HR3
        go_wp2_with fail
        refine (CR.out _ X7.out.b).mono ?_
        rintro e w9 (⟨a, b, gd, rfl, hb⟩ | ⟨_, rfl, hb⟩)
        · have CFF := Lib.hid fun wx hb => CF.out a b gd wx hb
          have X9 := Lib.hid (X7.out.below hb)
          clear hb CF CR gd X7 cp0 cp1 cp2 cp3 cp4 cp5 cp6 cy0 cy1 cd0 cd1 clp cly cld
          have cp0 := X9.out.p.cell 0 _ rfl
          have cp1 := X9.out.p.cell 1 _ rfl
          have cp2 := X9.out.p.cell 2 _ rfl
          have cp3 := X9.out.p.cell 3 _ rfl
          have cp4 := X9.out.p.cell 4 _ rfl
          have cp5 := X9.out.p.cell 5 _ rfl
          have cp6 := X9.out.p.cell 6 _ rfl
          have cy0 := X9.out.y.cell 0 _ rfl
          have cy1 := X9.out.y.cell 1 _ rfl
          have clp := X9.out.p.lt
          have cly := X9.out.y.lt
          have Y9 := Lib.hid (X9.out.alloc (.cells #[.int .i64 a, .int .i64 b] 37))
          go_wp2_with fail
          refine (CFF.out _ Y9.out.b).mono ?_
          rintro e w10 ⟨rfl, hb⟩
          have X10 := Lib.hid (Y9.out.below hb)
          clear hb CFF
          go_wp2_with fail
          go_ret
          exact ⟨ret_bool (by simp), X10.out.b⟩
        · have X9 := Lib.hid (X7.out.below hb)
          clear hb CF CR X7 cp0 cp1 cp2 cp3 cp4 cp5 cp6 cy0 cy1 cd0 cd1 clp cly cld
          have Y9 := Lib.hid (X9.out.alloc (.cells #[.int .i64 0, .int .i64 0] 37))
          go_wp2_with fail
          go_ret
          exact ⟨ret_bool (by simp), by repeat (first | exact Y9.out.b | refine blw_drewN ?_ _)⟩
      · have CR := Lib.hid (HR1.out hA)
        clear HR1 HR2 HR3
        go_wp2_with fail
        refine (CR.out _).mono ?_
        rintro e w9 ⟨rfl, hb⟩
        have X9 := Lib.hid (X7.out.below hb)
        clear hb CR X7 cp0 cp1 cp2 cp3 cp4 cp5 cp6 cy0 cy1 cd0 cd1 clp cly cld
        have Y9 := Lib.hid (X9.out.alloc (.cells #[.int .i64 0, .int .i64 0] 37))
        go_wp2_with fail
        go_ret
        exact ⟨ret_bool (by simp), by repeat (first | exact Y9.out.b | refine blw_drewN ?_ _)⟩
    · have d0 : decide (0 < b) = false := dec_no (by omega)
      clear hz
      go_wp2_with fail
      refine (CS.out _).mono ?_
      rintro e w7 ⟨rfl, hb⟩
      have X7 := Lib.hid (X6.out.below hb)
      have R7 := Lib.hid ((R5.out.alloc (.cells #[.int .i64 q, .int .i64 tm] 37)).below hb)
      clear hb X6 X5 R5 CS cr0 cr1 crl cp0 cp1 cp2 cp3 cp4 cp5 cp6 cy0 cy1 cd0 cd1 clp cly cld
      have cr0 := R7.out.cell 0 _ rfl
      have cr1 := R7.out.cell 1 _ rfl
      have crl := R7.out.lt
      have cp0 := X7.out.p.cell 0 _ rfl
      have cp1 := X7.out.p.cell 1 _ rfl
      have cp2 := X7.out.p.cell 2 _ rfl
      have cp3 := X7.out.p.cell 3 _ rfl
      have cp4 := X7.out.p.cell 4 _ rfl
      have cp5 := X7.out.p.cell 5 _ rfl
      have cp6 := X7.out.p.cell 6 _ rfl
      have cy0 := X7.out.y.cell 0 _ rfl
      have cy1 := X7.out.y.cell 1 _ rfl
      have cd0 := X7.out.d.cell 0 _ rfl
      have cd1 := X7.out.d.cell 1 _ rfl
      have clp := X7.out.p.lt
      have cly := X7.out.y.lt
      have cld := X7.out.d.lt
      by_cases hA : AE = 0
      · have CR := Lib.hid (HR2.out hA)
        have CF := Lib.hid (HR3.out hA)
        clear HR1 HR2 HR3
        go_wp2_with fail
        refine (CR.out _ X7.out.b).mono ?_
        rintro e w9 (⟨a, b, gd, rfl, hb⟩ | ⟨_, rfl, hb⟩)
        · have CFF := Lib.hid fun wx hb => CF.out a b gd wx hb
          have X9 := Lib.hid (X7.out.below hb)
          clear hb CF CR gd X7 cp0 cp1 cp2 cp3 cp4 cp5 cp6 cy0 cy1 cd0 cd1 clp cly cld
          have cp0 := X9.out.p.cell 0 _ rfl
          have cp1 := X9.out.p.cell 1 _ rfl
          have cp2 := X9.out.p.cell 2 _ rfl
          have cp3 := X9.out.p.cell 3 _ rfl
          have cp4 := X9.out.p.cell 4 _ rfl
          have cp5 := X9.out.p.cell 5 _ rfl
          have cp6 := X9.out.p.cell 6 _ rfl
          have cy0 := X9.out.y.cell 0 _ rfl
          have cy1 := X9.out.y.cell 1 _ rfl
          have clp := X9.out.p.lt
          have cly := X9.out.y.lt
          have Y9 := Lib.hid (X9.out.alloc (.cells #[.int .i64 a, .int .i64 b] 37))
          go_wp2_with fail
          refine (CFF.out _ Y9.out.b).mono ?_
          rintro e w10 ⟨rfl, hb⟩
          have X10 := Lib.hid (Y9.out.below hb)
          clear hb CFF
          go_wp2_with fail
          go_ret
          exact ⟨ret_bool (by simp), X10.out.b⟩
        · have X9 := Lib.hid (X7.out.below hb)
          clear hb CF CR X7 cp0 cp1 cp2 cp3 cp4 cp5 cp6 cy0 cy1 cd0 cd1 clp cly cld
          have Y9 := Lib.hid (X9.out.alloc (.cells #[.int .i64 0, .int .i64 0] 37))
          go_wp2_with fail
          go_ret
          exact ⟨ret_bool (by simp), by repeat (first | exact Y9.out.b | refine blw_drewN ?_ _)⟩
      · have CR := Lib.hid (HR1.out hA)
        clear HR1 HR2 HR3
        go_wp2_with fail
        refine (CR.out _).mono ?_
        rintro e w9 ⟨rfl, hb⟩
        have X9 := Lib.hid (X7.out.below hb)
        clear hb CR X7 cp0 cp1 cp2 cp3 cp4 cp5 cp6 cy0 cy1 cd0 cd1 clp cly cld
        have Y9 := Lib.hid (X9.out.alloc (.cells #[.int .i64 0, .int .i64 0] 37))
        go_wp2_with fail
        go_ret
        exact ⟨ret_bool (by simp), by repeat (first | exact Y9.out.b | refine blw_drewN ?_ _)⟩
  · have he := HEV.out
    rw [show errN FE = errV FE from if_neg hE] at he
    subst he
    clear HB HEV hFE hE
    by_cases hA : AE = 0
    · have CR := Lib.hid (HR2.out hA)
      have CF := Lib.hid (HR3.out hA)
      clear HR1 HR2 HR3
      go_wp2_with fail
      refine (CR.out _ X2.out.b).mono ?_
      rintro e w9 (⟨a, b, gd, rfl, hb⟩ | ⟨_, rfl, hb⟩)
      · have CFF := Lib.hid fun wx hb => CF.out a b gd wx hb
        have X9 := Lib.hid (X2.out.below hb)
        clear hb CF CR gd X2 cp0 cp1 cp2 cp3 cp4 cp5 cp6 cy0 cy1 cd0 cd1 clp cly cld
        have cp0 := X9.out.p.cell 0 _ rfl
        have cp1 := X9.out.p.cell 1 _ rfl
        have cp2 := X9.out.p.cell 2 _ rfl
        have cp3 := X9.out.p.cell 3 _ rfl
        have cp4 := X9.out.p.cell 4 _ rfl
        have cp5 := X9.out.p.cell 5 _ rfl
        have cp6 := X9.out.p.cell 6 _ rfl
        have cy0 := X9.out.y.cell 0 _ rfl
        have cy1 := X9.out.y.cell 1 _ rfl
        have clp := X9.out.p.lt
        have cly := X9.out.y.lt
        have Y9 := Lib.hid (X9.out.alloc (.cells #[.int .i64 a, .int .i64 b] 37))
        go_wp2_with fail
        refine (CFF.out _ Y9.out.b).mono ?_
        rintro e w10 ⟨rfl, hb⟩
        have X10 := Lib.hid (Y9.out.below hb)
        clear hb CFF
        go_wp2_with fail
        go_ret
        exact ⟨ret_bool (by simp), X10.out.b⟩
      · have X9 := Lib.hid (X2.out.below hb)
        clear hb CF CR X2 cp0 cp1 cp2 cp3 cp4 cp5 cp6 cy0 cy1 cd0 cd1 clp cly cld
        have Y9 := Lib.hid (X9.out.alloc (.cells #[.int .i64 0, .int .i64 0] 37))
        go_wp2_with fail
        go_ret
        exact ⟨ret_bool (by simp), by repeat (first | exact Y9.out.b | refine blw_drewN ?_ _)⟩
    · have CR := Lib.hid (HR1.out hA)
      clear HR1 HR2 HR3
      go_wp2_with fail
      refine (CR.out _).mono ?_
      rintro e w9 ⟨rfl, hb⟩
      have X9 := Lib.hid (X2.out.below hb)
      clear hb CR X2 cp0 cp1 cp2 cp3 cp4 cp5 cp6 cy0 cy1 cd0 cd1 clp cly cld
      have Y9 := Lib.hid (X9.out.alloc (.cells #[.int .i64 0, .int .i64 0] 37))
      go_wp2_with fail
      go_ret
      exact ⟨ret_bool (by simp), by repeat (first | exact Y9.out.b | refine blw_drewN ?_ _)⟩
end Go.Proofs.YtaijjffnamjhiaaGreatDoor
namespace Go.Proofs.YtaijjffnamjhiaaGreatDoor
open Go.ChangeShapes Go.WideShapes Go.RowKit Go.Joins Go.Deep

section
variable {H : Type} {enc : TypeId × Value → H} {P : Program} {w : World} {base : Nat} {spare : Nat → Bool} {held : Bool}
theorem open_agg7 {r : Reach} {b0 : Nat} {t : TypeId} {f0 f1 f2 f3 f4 f5 f6 : Field} {v : Value} {d : DataW H} {p : List MemPlace} (hs : P.underlying t = some (.struct #[f0, f1, f2, f3, f4, f5, f6])) (hone : oneCellFields P #[f0, f1, f2, f3, f4, f5, f6] = true) (hC : P.cellsOf t = 7)
    (hv : Value.okWide P w r b0 t v) (h : DataW.Trod enc P w base spare held t v d p) :
    ∃ (v0 v1 v2 v3 v4 v5 v6 : Value) (y0 y1 y2 y3 y4 y5 y6 : DataW H × List MemPlace) (n : Nat), v = .agg #[v0, v1, v2, v3, v4, v5, v6] ∧ d = .agg [y0.1, y1.1, y2.1, y3.1, y4.1, y5.1, y6.1] ∧ p = y0.2 ++ (y1.2 ++ (y2.2 ++ (y3.2 ++ (y4.2 ++ (y5.2 ++ (y6.2)))))) ∧
      DataW.trod enc P w base spare held n f0.type [v0] = some y0 ∧ DataW.trod enc P w base spare held n f1.type [v1] = some y1 ∧ DataW.trod enc P w base spare held n f2.type [v2] = some y2 ∧ DataW.trod enc P w base spare held n f3.type [v3] = some y3 ∧ DataW.trod enc P w base spare held n f4.type [v4] = some y4 ∧ DataW.trod enc P w base spare held n f5.type [v5] = some y5 ∧ DataW.trod enc P w base spare held n f6.type [v6] = some y6 := by
  obtain ⟨cs, rfl, hsz⟩ := okWide_struct hs hv
  obtain ⟨c0, c1, c2, c3, c4, c5, c6, rfl⟩ : ∃ c0 c1 c2 c3 c4 c5 c6, cs = #[c0, c1, c2, c3, c4, c5, c6] := by
    obtain ⟨l⟩ := cs
    match l, hsz.trans hC with
    | [c0, c1, c2, c3, c4, c5, c6], _ => exact ⟨c0, c1, c2, c3, c4, c5, c6, rfl⟩
  obtain ⟨fuel, hf⟩ := h
  obtain ⟨xs, n, _, hx, _, hlen, hg⟩ := DataW.trod_struct hs hf
  obtain ⟨y0, y1, y2, y3, y4, y5, y6, rfl⟩ : ∃ y0 y1 y2 y3 y4 y5 y6, xs = [y0, y1, y2, y3, y4, y5, y6] := by
    match xs, hlen with
    | [y0, y1, y2, y3, y4, y5, y6], _ => exact ⟨y0, y1, y2, y3, y4, y5, y6, rfl⟩
  obtain ⟨o0, k0⟩ := hone_of hone 0 f0 rfl
  obtain ⟨o1, k1⟩ := hone_of hone 1 f1 rfl
  obtain ⟨o2, k2⟩ := hone_of hone 2 f2 rfl
  obtain ⟨o3, k3⟩ := hone_of hone 3 f3 rfl
  obtain ⟨o4, k4⟩ := hone_of hone 4 f4 rfl
  obtain ⟨o5, k5⟩ := hone_of hone 5 f5 rfl
  obtain ⟨o6, k6⟩ := hone_of hone 6 f6 rfl
  have h0 := hg 0 f0 rfl
  have h1 := hg 1 f1 rfl
  have h2 := hg 2 f2 rfl
  have h3 := hg 3 f3 rfl
  have h4 := hg 4 f4 rfl
  have h5 := hg 5 f5 rfl
  have h6 := hg 6 f6 rfl
  simp only [Prod.mk.injEq] at hx
  exact ⟨c0, c1, c2, c3, c4, c5, c6, y0, y1, y2, y3, y4, y5, y6, n, rfl, by simpa using hx.1, by simpa using hx.2, by simpa [Value.cells, o0, k0] using h0, by simpa [Value.cells, o1, k1] using h1, by simpa [Value.cells, o2, k2] using h2, by simpa [Value.cells, o3, k3] using h3, by simpa [Value.cells, o4, k4] using h4, by simpa [Value.cells, o5, k5] using h5, by simpa [Value.cells, o6, k6] using h6⟩
end
end Go.Proofs.YtaijjffnamjhiaaGreatDoor
namespace Go.Proofs.YtaijjffnamjhiaaGreatDoor
open Go.RowKit

theorem gPowT : (Tryz.prog.globals[8]?).map (·.type) = some 276 := by kernel_rfl
theorem cellsPow : Tryz.prog.cellsOf 276 = 20 := by kernel_rfl
theorem cellsU64 : Tryz.prog.cellsOf 144 = 1 := by kernel_rfl
theorem powW_of {L : List (String × DataW Unit)} {W : World} (h : laidMetH Tryz.prog L W) (hf : L.filter (fun x => x.1 == "internal/strconv.uint64pow10") = [("internal/strconv.uint64pow10", Rows.laid_internal_strconv_uint64pow10)]) : PowW W := by
  have g := laidMetH.filter (fun x => x.1 == "internal/strconv.uint64pow10") h
  rw [hf, MakeChecks.laidMetH_plain _ _ _ (by kernel_rfl)] at g
  exact Lib.tabIs_of_head gPow gPowT Tryz.underlying276 Tryz.underlying144 cellsU64 cellsPow g
end Go.Proofs.YtaijjffnamjhiaaGreatDoor
namespace Go.Proofs.YtaijjffnamjhiaaGreatDoor
theorem laidMet_over {P : Program} {W : World} {L : List (String × DataW Unit)} (args : Array Value) (hf : W.layFits P L [] = true) (hi : W.layIfaces P L (W.layVars P L) = true) :
    laidMet P L ((W.layVars P L).forCall (fun _ _ => 0) ⟨#[], args, []⟩).memory := by
  have e1 : (L.filter fun x => (L.map (·.1)).contains x.1) = L := List.filter_eq_self.2 fun x hx => List.contains_iff_mem.2 (List.mem_map.2 ⟨x, hx, rfl⟩)
  have e2 : (L.filter fun x => !(L.map (·.1)).contains x.1) = [] := List.filter_eq_nil_iff.2 fun x hx => by rw [List.contains_iff_mem.2 (List.mem_map.2 ⟨x, hx, rfl⟩)]; simp
  have h : laidMet P L (W.layVars P L) := laidMet_layVars (w0 := W) (L.map (·.1)) [] (by rw [e1]) (by rw [e1]; exact hf) (by rw [e1]; exact hi) (by rw [e2]; exact LaidIn.none)
  exact h.of_heap (by simp [World.memory, World.forCall, Input.heap])
end Go.Proofs.YtaijjffnamjhiaaGreatDoor
namespace Go.Proofs.YtaijjffnamjhiaaGreatDoor.lawNoutBack
open Go.ChangeShapes Go.WideShapes Go.ChangeAt Go.RowKit Go.Joins

theorem own : ownKnob Tryz.prog.godebug = none := by kernel_rfl
theorem laidOut : laidOutB Tryz.prog = true := by kernel_rfl
theorem cellsPat : Tryz.prog.cellsOf 69 = 7 := by kernel_rfl
theorem cellsSym : Tryz.prog.cellsOf 71 = 2 := by kernel_rfl
theorem cellsDec : Tryz.prog.cellsOf 37 = 2 := by kernel_rfl

set_option maxRecDepth 100000 in
theorem contract (H : Type) (enc : TypeId × Value → H) (W : World) (base : Nat) (args : Array Value) (ds gs : List (DataW H)) (before : List MemPlace)
    (hval : ∀ (j : Nat) t v, Tryz.f7.params[j]? = some t → args[j]? = some v → Value.okWide Tryz.prog W .any base t v)
    (hW : DataW.Whole enc Tryz.prog Tryz.f7.params.toList Rows.noutBackSpec.vars false W args.toList ds gs before) (hk : Rows.uptoSmall H (ds ++ gs) = true) (hL : laidMetH Tryz.prog Rows.noutBackUptoRow.laid W) (hS : W.ShapedOpen Tryz.prog) :
    Calls Tryz.prog 7 args W fun e W' => ∃ v, e = .returned v ∧ Rows.noutBackSpec.post enc Tryz.prog Tryz.f7 false true false false W args v W' := by
  have hpost : ∀ W', Below W.heap.size W W' → Rows.noutBackSpec.post enc Tryz.prog Tryz.f7 false true false false W args (.bool true) W' := fun W' hb =>
    law_post (tb := 4) laidOut rfl Tryz.underlying4 rfl (by kernel_rfl) (fun ds h => by match ds, h with | [x0, x1, x2, x3], _ => rfl) hW hb
  obtain ⟨p, q, hA0, hV, _, hfz, hnd⟩ := hW
  have hA : DataW.TrodAll enc Tryz.prog W 0 (fun _ => true) true Tryz.f7.params.toList args.toList ds p := hA0
  obtain ⟨rfl, rfl⟩ := trodVars_none hV
  rw [Tryz.params7] at hA hval
  obtain ⟨v0, vs0, d0, ds0, p0, q0, hargs, rfl, hp0, h0, r0⟩ := trodAll_cons hA
  obtain ⟨v1, vs1, d1, ds1, p1, q1, rfl, rfl, hp1, h1, r1⟩ := trodAll_cons r0
  obtain ⟨v2, vs2, d2, ds2, p2, q2, rfl, rfl, hp2, h2, r2⟩ := trodAll_cons r1
  obtain ⟨v3, vs3, d3, ds3, p3, q3, rfl, rfl, hp3, h3, r3⟩ := trodAll_cons r2
  obtain ⟨rfl, rfl, hp⟩ := trodAll_nil r3
  obtain rfl : args = #[v0, v1, v2, v3] := by cases args; simp_all
  obtain ⟨c0_0, c0_1, c0_2, c0_3, c0_4, c0_5, c0_6, y0_0, y0_1, y0_2, y0_3, y0_4, y0_5, y0_6, m0, rfl, rfl, rfl, hy0_0, hy0_1, hy0_2, hy0_3, hy0_4, hy0_5, hy0_6⟩ := open_agg7 Tryz.underlying69 (by kernel_rfl) cellsPat (hval 0 69 v0 rfl rfl) h0
  obtain ⟨p_pre, e0_0, _, w_p_pre⟩ := DataW.trod_string Tryz.underlying9 hy0_0
  obtain ⟨p_suf, e0_1, _, w_p_suf⟩ := DataW.trod_string Tryz.underlying9 hy0_1
  obtain ⟨p_mi, e0_2, _, w_p_mi⟩ := DataW.trod_int Tryz.underlying3 hy0_2
  obtain ⟨p_nf, e0_3, _, w_p_nf⟩ := DataW.trod_int Tryz.underlying3 hy0_3
  obtain ⟨p_mf, e0_4, _, w_p_mf⟩ := DataW.trod_int Tryz.underlying3 hy0_4
  obtain ⟨p_g, e0_5, _, w_p_g⟩ := DataW.trod_int Tryz.underlying3 hy0_5
  obtain ⟨p_g2, e0_6, _, w_p_g2⟩ := DataW.trod_int Tryz.underlying3 hy0_6
  simp at e0_0 e0_1 e0_2 e0_3 e0_4 e0_5 e0_6
  subst e0_0 e0_1 e0_2 e0_3 e0_4 e0_5 e0_6
  have b_p_mi := bounds_i64 w_p_mi
  have b_p_nf := bounds_i64 w_p_nf
  have b_p_mf := bounds_i64 w_p_mf
  have b_p_g := bounds_i64 w_p_g
  have b_p_g2 := bounds_i64 w_p_g2
  obtain ⟨c1_0, c1_1, y1_0, y1_1, m1, rfl, rfl, rfl, hy1_0, hy1_1⟩ := open_agg2 Tryz.underlying71 (by kernel_rfl) cellsSym (hval 1 71 v1 rfl rfl) h1
  obtain ⟨y_p, e1_0, _, w_y_p⟩ := DataW.trod_int Tryz.underlying5 hy1_0
  obtain ⟨y_c, e1_1, _, w_y_c⟩ := DataW.trod_int Tryz.underlying5 hy1_1
  simp at e1_0 e1_1
  subst e1_0 e1_1
  have b_y_p := bounds_u8 w_y_p
  have b_y_c := bounds_u8 w_y_c
  obtain ⟨c2_0, c2_1, y2_0, y2_1, m2, rfl, rfl, rfl, hy2_0, hy2_1⟩ := open_agg2 Tryz.underlying37 (by kernel_rfl) cellsDec (hval 2 37 v2 rfl rfl) h2
  obtain ⟨d_c, e2_0, _, w_d_c⟩ := DataW.trod_int Tryz.underlying3 hy2_0
  obtain ⟨d_s, e2_1, _, w_d_s⟩ := DataW.trod_int Tryz.underlying3 hy2_1
  simp at e2_0 e2_1
  subst e2_0 e2_1
  have b_d_c := bounds_i64 w_d_c
  have b_d_s := bounds_i64 w_d_s
  obtain ⟨s, rfl, rfl, rfl, w_s⟩ := ChangeMaps.open_string Tryz.underlying9 (hval 3 9 v3 rfl rfl) h3
  clear hA0 hfz hnd hval
  have hm : MaxW W := Go.Proofs.cell_of_shapedOpen_int (zero := #[.int .i64 0]) (t := 3) hS (of_decide_eq_true (by kernel_rfl)) (by kernel_rfl) rfl (by kernel_rfl) (by kernel_rfl) Tryz.underlying3
  have hT : DM W := ⟨powW_of hL (by kernel_rfl), numW_of hL (by kernel_rfl) (by kernel_rfl), hm⟩
  have hq : Rows.uptoBulkAll _ ≤ 1048576 := of_decide_eq_true hk
  simp only [List.append_nil, Rows.uptoBulkAll, Rows.uptoBulk, Array.length_toList, *] at hq
  have hz : ∀ x : ByteArray, x.data.size = x.size := fun _ => rfl
  simp only [hz] at hq
  have hsz : p_pre.size + p_suf.size + s.size ≤ 1048576 := by omega
  refine Calls.mono (?_ : Calls Tryz.prog 7 #[.agg #[.string p_pre, .string p_suf, .int .i64 p_mi, .int .i64 p_nf, .int .i64 p_mf, .int .i64 p_g, .int .i64 p_g2], .agg #[.int .u8 y_p, .int .u8 y_c], .agg #[.int .i64 d_c, .int .i64 d_s], .string s] W fun e w' => e = .returned (.bool true) ∧ Below W.heap.size W w') fun e W' ⟨he, hb⟩ => ⟨_, he, hpost W' hb⟩
  obtain ⟨l0, rfl⟩ : ∃ l : List UInt8, p_pre = ⟨l.toArray⟩ := ⟨p_pre.data.toList, rfl⟩
  obtain ⟨l1, rfl⟩ : ∃ l : List UInt8, p_suf = ⟨l.toArray⟩ := ⟨p_suf.data.toList, rfl⟩
  obtain ⟨t, rfl⟩ : ∃ l : List UInt8, s = ⟨l.toArray⟩ := ⟨s.data.toList, rfl⟩
  simp only [size_mkl] at hsz
  obtain ⟨a, rfl⟩ : ∃ c : UInt8, y_p = (c.toNat : Int) := ⟨UInt8.ofNat y_p.toNat, by rw [UInt8.toNat_ofNat']; omega⟩
  obtain ⟨b, rfl⟩ : ∃ c : UInt8, y_c = (c.toNat : Int) := ⟨UInt8.ofNat y_c.toNat, by rw [UInt8.toNat_ofNat']; omega⟩
  exact nback_any ⟨l0, l1, p_mi, p_nf, p_mf, p_g, p_g2⟩ a b d_c d_s t W hT (by show l0.length ≤ _; omega) (by show l1.length ≤ _; omega) (by omega)

theorem start_met (os : Os) : laidMetH Tryz.prog Rows.noutBackUptoRow.laid ((World.laidAll Tryz.prog os Rows.noutBackUptoRow.laid).forCall (fun _ _ => 0) ⟨#[], #[.agg #[.string ⟨#[]⟩, .string ⟨#[]⟩, .int .i64 0, .int .i64 0, .int .i64 0, .int .i64 0, .int .i64 0], .agg #[.int .u8 0, .int .u8 0], .agg #[.int .i64 0, .int .i64 0], .string ⟨#[]⟩], []⟩).memory :=
  by rw [MakeChecks.laidMetH_plain _ _ _ (by kernel_rfl)]; exact laidMet_laidAll _ (by kernel_rfl) (by kernel_rfl)
theorem start_reads (os : Os) {H : Type} (enc : TypeId × Value → H) : ∃ places, DataW.whole enc Tryz.prog ((World.laidAll Tryz.prog os Rows.noutBackUptoRow.laid).forCall (fun _ _ => 0) ⟨#[], #[.agg #[.string ⟨#[]⟩, .string ⟨#[]⟩, .int .i64 0, .int .i64 0, .int .i64 0, .int .i64 0, .int .i64 0], .agg #[.int .u8 0, .int .u8 0], .agg #[.int .i64 0, .int .i64 0], .string ⟨#[]⟩], []⟩).memory Tryz.f7.params.toList Rows.noutBackSpec.vars false (#[.agg #[.string ⟨#[]⟩, .string ⟨#[]⟩, .int .i64 0, .int .i64 0, .int .i64 0, .int .i64 0, .int .i64 0], .agg #[.int .u8 0, .int .u8 0], .agg #[.int .i64 0, .int .i64 0], .string ⟨#[]⟩] : Array Value).toList 8 = some ([.agg [.lit (.string []), .lit (.string []), .lit (.int .i64 0), .lit (.int .i64 0), .lit (.int .i64 0), .lit (.int .i64 0), .lit (.int .i64 0)], .agg [.lit (.int .u8 0), .lit (.int .u8 0)], .agg [.lit (.int .i64 0), .lit (.int .i64 0)], .lit (.string [])], [], places) :=
  ⟨[], by kernel_rfl⟩

set_option maxRecDepth 100000 in
theorem lifted (os : Os) (started : os.Started) (H : Type) (enc : TypeId × Value → H) (F : Stop.Interp) :
    ReturnsInHanded {} Tryz.checked os 7 .any ((Rows.OpenSpec.upto Rows.noutBackSpec).preRow enc Tryz.prog Tryz.f7 Rows.noutBackUptoRow.domain false Rows.noutBackUptoRow.laid) (((Rows.OpenSpec.upto Rows.noutBackSpec).at F).post enc Tryz.prog Tryz.f7 false true false false) := by
  obtain ⟨places, hx⟩ := start_reads os enc
  refine returnsInHanded_of_row (C := Tryz.checked) (s := Rows.OpenSpec.upto Rows.noutBackSpec) own started (by kernel_rfl) Tryz.func7
    (witness_row_atRef (enc := enc) (C := Tryz.checked) false (World.laidAll Tryz.prog os Rows.noutBackUptoRow.laid) #[.agg #[.string ⟨#[]⟩, .string ⟨#[]⟩, .int .i64 0, .int .i64 0, .int .i64 0, .int .i64 0, .int .i64 0], .agg #[.int .u8 0, .int .u8 0], .agg #[.int .i64 0, .int .i64 0], .string ⟨#[]⟩] (World.laidAll_os _ _ _) (by kernel_rfl) (by kernel_rfl) (by kernel_rfl)
      (OpenSpec.preRow_of_cond 8 hx (by kernel_rfl) (fun k hk => by cases hk; kernel_rfl) (by kernel_rfl) (start_met os))) ?_
  intro W base args ds gs before hval hW _ hcond _ hL hS _
  exact contract H enc W base args ds gs before hval hW (hcond _ rfl) hL hS

theorem said : Rows.NoutBackUptoSaid :=
  OpenClaim.holds_of_cond 7 Tryz.f7 rfl rfl rfl rfl rfl rfl rfl ⟨rfl, rfl, rfl, rfl, rfl⟩ rfl rfl rfl rfl rfl (by kernel_rfl) Tryz.func7 (by kernel_rfl)
    (of_decide_eq_true (by kernel_rfl)) (by unfold Func.isWrapper; first | (rw [if_pos (by decide +kernel)]; kernel_rfl) | (rw [if_neg (by decide +kernel)]; exact ⟨rfl, rfl⟩))
    (fun os started H enc _ F => by rw [OpenClaim.pre_eq_preRow]; exact lifted os started H enc F)

theorem plain (f : FuncId) (fn : Func) (hf : Tryz.pinned.checked.prog.funcNamed "linguister/linguisterlaw1.NoutBack" = some f) (hfn : Tryz.pinned.checked.prog.funcs[f]? = some fn) :
    true = Tryz.pinned.checked.prog.looks [] ∧ ∀ (j : Nat) t, fn.params[j]? = some t → Tryz.pinned.checked.prog.wantsStandIn t = false := by
  obtain rfl : f = 7 := Option.some.inj ((show Tryz.prog.funcNamed "linguister/linguisterlaw1.NoutBack" = some 7 by kernel_rfl).symm.trans hf) |>.symm
  obtain rfl : fn = Tryz.f7 := (Option.some.inj (Tryz.func7.symm.trans hfn)).symm
  refine ⟨by kernel_rfl, fun j t ht => ?_⟩
  rw [Tryz.params7] at ht
  have hm : t ∈ [69, 71, 37, 9] := by simpa using Array.mem_of_getElem? ht
  have hall : ([69, 71, 37, 9].all fun u => !Tryz.prog.wantsStandIn u) = true := by kernel_rfl
  exact (show Tryz.prog.wantsStandIn t = false by simpa using List.all_eq_true.1 hall t hm)

theorem proved : Rows.NoutBackUptoCardSaid :=
  Claim7.holds_tied_plain_at .later [] _ _ _ _ said (fun _ h => by cases h) (by kernel_rfl) (fun _ h => by cases h) noutBackUpto_row_tie rfl ⟨rfl, rfl⟩ (by kernel_rfl) rfl plain (by kernel_rfl)
#print axioms proved
end Go.Proofs.YtaijjffnamjhiaaGreatDoor.lawNoutBack
