/- Patterns: of a pattern's text what is read is the pattern. No program. -/
import Derived.Test.YtjakpdfonnpchaaDoorPtx
import Derived.Test.YtjakpdfonnpchaaDoorNla
import Derived.Test.YtjakpdfonnpchaaDoorBys
namespace Go.Proofs.YtjakpdfonnpchaaDoor
namespace Nt
def gOf (l : List (List UInt8)) : Nat := if 1 < l.length then (l.getD (l.length - 1) []).length else 0
def g2Of (l : List (List UInt8)) : Nat := if 2 < l.length then (l.getD (l.length - 2) []).length else 0
/-- what is read of a text, the middle of which lies from a to b -/
def candP (s : List UInt8) (a b : Nat) : Pt :=
  ⟨s.take a, s.drop b, (Lib.countByte (Lib.cut ((s.take b).drop a) [46]).1 48 : Nat), (Lib.countByte (Lib.cut ((s.take b).drop a) [46]).2.1 48 : Nat), ((Lib.cut ((s.take b).drop a) [46]).2.1.length : Nat), (gOf (Lib.split (Lib.cut ((s.take b).drop a) [46]).1 [44]) : Nat), (g2Of (Lib.split (Lib.cut ((s.take b).drop a) [46]).1 [44]) : Nat)⟩
def headOk (l : List UInt8) : Bool := match l with | [] => false | b :: _ => b == 35 || b == 48
def wholeOk (M A C : Nat) : Bool :=
  decide (Lib.countByte (ptG M A C) 48 = M) && decide (gOf (Lib.split (ptG M A C) [44]) = A) && decide (g2Of (Lib.split (ptG M A C) [44]) = C) && !(ptG M A C).contains 46 && headOk (ptG M A C) && headOk (ptG M A C).reverse && decide ((ptG M A C).length ≤ 11)
def behOk (F X : Nat) : Bool :=
  decide (Lib.countByte ((ptF F X).drop 1) 48 = F) && decide (((ptF F X).drop 1).length = X) && (decide (X = 0) || (headOk (ptF F X).reverse && (ptF F X).head? == some 46)) && decide ((ptF F X).length ≤ 7)
theorem whole_all : ∀ M : Fin 10, ∀ A : Fin 5, ∀ C : Fin 5, 1 ≤ M.val → (C.val ≠ 0 → A.val ≠ 0) → wholeOk M.val A.val C.val = true := by decide +kernel
theorem beh_all : ∀ X : Fin 7, ∀ F : Fin 7, F.val ≤ X.val → behOk F.val X.val = true := by decide +kernel
theorem sgn_head {l : List UInt8} (h : headOk l = true) : ∃ b m, l = b :: m ∧ (b = 35 ∨ b = 48) := by
  unfold headOk at h
  split at h
  · cases h
  · exact ⟨_, _, rfl, by simpa using h⟩
theorem sgn_last {l : List UInt8} (h : headOk l.reverse = true) : ∃ b m, l = m ++ [b] ∧ (b = 35 ∨ b = 48) := by
  obtain ⟨b, m, e, hb⟩ := sgn_head h
  exact ⟨b, m.reverse, by rw [← List.reverse_reverse l, e]; simp, hb⟩
/-- a pattern's parts as small numbers -/
theorem parts_of {p : Pt} (h : patE p = 0) : affB p.pre = true ∧ affB p.suf = true ∧ ∃ M F X A C : Nat, p = ⟨p.pre, p.suf, (M : Int), (F : Int), (X : Int), (A : Int), (C : Int)⟩ ∧ 1 ≤ M ∧ M ≤ 9 ∧ F ≤ X ∧ X ≤ 6 ∧ A ≤ 4 ∧ C ≤ 4 ∧ (C ≠ 0 → A ≠ 0) := by
  have hp : affB p.pre = true ∧ affB p.suf = true ∧ sizeB p = true ∧ ¬ (p.g2 ≠ 0 ∧ p.g = 0) := by
    unfold patE at h
    split at h
    · rename_i ha
      rw [Bool.and_eq_true] at ha
      split at h
      · rename_i hs
        split at h
        · cases h
        · rename_i hg
          exact ⟨ha.1, ha.2, hs, hg⟩
      · cases h
    · cases h
  obtain ⟨a1, a2, hs, hg⟩ := hp
  obtain ⟨s1, s2, s3, s4, s5, s6, s7, s8, s9, s10⟩ := size_ok hs
  refine ⟨a1, a2, p.mi.toNat, p.nf.toNat, p.mf.toNat, p.g.toNat, p.g2.toNat, ?_, by omega, by omega, by omega, by omega, by omega, by omega, by omega⟩
  obtain ⟨pre, suf, mi, nf, mf, g, g2⟩ := p
  simp only [Pt.mk.injEq, true_and]
  dsimp only at *
  omega
/-- the middle of a pattern's text -/
theorem mid_of {M F X A C : Nat} (h1 : 1 ≤ M) (h2 : M ≤ 9) (h3 : F ≤ X) (h4 : X ≤ 6) (h5 : A ≤ 4) (h6 : C ≤ 4) (h7 : C ≠ 0 → A ≠ 0) :
    headOk (ptG M A C ++ ptF F X) = true ∧ headOk (ptG M A C ++ ptF F X).reverse = true ∧ (ptG M A C ++ ptF F X).length ≤ 18 ∧
    Lib.countByte (Lib.cut (ptG M A C ++ ptF F X) [46]).1 48 = M ∧ Lib.countByte (Lib.cut (ptG M A C ++ ptF F X) [46]).2.1 48 = F ∧ (Lib.cut (ptG M A C ++ ptF F X) [46]).2.1.length = X ∧ gOf (Lib.split (Lib.cut (ptG M A C ++ ptF F X) [46]).1 [44]) = A ∧ g2Of (Lib.split (Lib.cut (ptG M A C ++ ptF F X) [46]).1 [44]) = C := by
  have w := whole_all ⟨M, by omega⟩ ⟨A, by omega⟩ ⟨C, by omega⟩ h1 h7
  have f := beh_all ⟨X, by omega⟩ ⟨F, by omega⟩ h3
  simp only [wholeOk, behOk, Bool.and_eq_true, decide_eq_true_eq, Bool.or_eq_true, Bool.not_eq_true'] at w f
  obtain ⟨⟨⟨⟨⟨⟨w1, w2⟩, w3⟩, w4⟩, w5⟩, w6⟩, w7⟩ := w
  obtain ⟨⟨⟨f1, f2⟩, f3⟩, f4⟩ := f
  have hn : (46 : UInt8) ∉ ptG M A C := fun hm => by rw [List.contains_iff_mem.2 hm] at w4; cases w4
  have hh : headOk (ptG M A C ++ ptF F X) = true := by
    obtain ⟨b, m, e, hb⟩ := sgn_head w5
    rw [e]; simpa [headOk] using hb
  have hl : (ptG M A C ++ ptF F X).length ≤ 18 := by rw [List.length_append]; omega
  rcases f3 with rfl | ⟨f5, f6⟩
  · have e0 : ptF F 0 = [] := rfl
    rw [e0] at *
    rw [List.append_nil]
    have hc : Lib.cut (ptG M A C) [46] = (ptG M A C, [], false) := by unfold Lib.cut; rw [Byt.idx_miss hn]; rfl
    rw [hc]
    exact ⟨w5, w6, by omega, w1, f1, f2, w2, w3⟩
  · have e0 : ∃ r, ptF F X = 46 :: r := by
      cases hq : ptF F X with
      | nil => rw [hq] at f6; cases f6
      | cons b r => rw [hq] at f6; simp at f6; exact ⟨r, by rw [f6]⟩
    obtain ⟨r, er⟩ := e0
    rw [er] at f1 f2 hl f5 ⊢
    have hc : Lib.cut (ptG M A C ++ 46 :: r) [46] = (ptG M A C, r, true) := by
      unfold Lib.cut
      rw [Byt.idx_hit r hn, if_pos (by omega)]
      have e1 : (ptG M A C ++ 46 :: r).take ((ptG M A C).length : Int).toNat = ptG M A C := by simp
      have e2 : (ptG M A C ++ 46 :: r).drop (((ptG M A C).length : Int).toNat + [(46 : UInt8)].length) = r := by
        rw [Int.toNat_natCast, ← List.drop_drop, List.drop_left]; rfl
      rw [e1, e2]
    rw [hc]
    rw [er] at hh
    refine ⟨hh, ?_, hl, w1, f1, f2, w2, w3⟩
    obtain ⟨b, m, e, hb⟩ := sgn_last f5
    rw [e]
    simpa [headOk] using hb
theorem aff_no {l : List UInt8} (h : affB l = true) : ∀ c ∈ l, sgn.contains c = false := by
  unfold affB at h
  rw [Bool.and_eq_true, List.all_eq_true] at h
  intro c hc
  have h2 : ∀ c ∈ affL, sgn.contains c = false := by decide +kernel
  exact h2 c (List.contains_iff_mem.1 (h.1 c hc))
theorem ends_first {u m v : List UInt8} (hu : ∀ c ∈ u, sgn.contains c = false) (hm : headOk m = true) : Lib.indexAny (u ++ (m ++ v)) sgn = (u.length : Int) := by
  obtain ⟨b, r, rfl, hb⟩ := sgn_head hm
  refine Lib.indexAny_hit (x := b) (fun j c hj hc => ?_) ?_ (by rcases hb with rfl | rfl <;> rfl)
  · rw [List.getElem?_append_left hj] at hc
    exact hu c (List.mem_of_getElem? hc)
  · rw [List.getElem?_append_right (Nat.le_refl _), Nat.sub_self]; rfl
theorem ends_last {u m v : List UInt8} {V : Int} (hv : ∀ c ∈ v, sgn.contains c = false) (hm : headOk m.reverse = true) (h : LastAt (u ++ (m ++ v)) V) : V + 1 = ((u ++ m).length : Int) := by
  obtain ⟨b, r, rfl, hb⟩ := sgn_last hm
  have hbs : sgn.contains b = true := by rcases hb with rfl | rfl <;> rfl
  have e : u ++ (r ++ [b] ++ v) = (u ++ r) ++ (b :: v) := by simp
  rw [e] at h
  have hat : ((u ++ r) ++ (b :: v))[(u ++ r).length]? = some b := by rw [List.getElem?_append_right (Nat.le_refl _), Nat.sub_self]; rfl
  have hl : (u ++ (r ++ [b])).length = (u ++ r).length + 1 := by simp; omega
  rw [hl]
  rcases h with ⟨_, h⟩ | ⟨i, c, rfl, h1, h2, h3⟩
  · rw [h _ _ (Nat.zero_le _) hat] at hbs; cases hbs
  · have hle : (u ++ r).length ≤ i := by
      refine Nat.le_of_not_lt fun hlt => ?_
      rw [h3 _ _ (by omega) hat] at hbs; cases hbs
    have hge : i ≤ (u ++ r).length := by
      refine Nat.le_of_not_lt fun hlt => ?_
      rw [List.getElem?_append_right (by omega), show i - (u ++ r).length = (i - (u ++ r).length - 1) + 1 by omega, List.getElem?_cons_succ] at h1
      rw [hv c (List.mem_of_getElem? h1)] at h2; cases h2
    omega
/-- of a pattern's text what is read is the pattern -/
theorem cand_back {p : Pt} (h : patE p = 0) {V : Int} (hV : LastAt (patT p) V) :
    0 ≤ Lib.indexAny (patT p) sgn ∧ candP (patT p) (Lib.indexAny (patT p) sgn).toNat (V + 1).toNat = p := by
  obtain ⟨a1, a2, M, F, X, A, C, e, h1, h2, h3, h4, h5, h6, h7⟩ := parts_of h
  obtain ⟨m1, m2, m3, m4, m5, m6, m7, m8⟩ := mid_of h1 h2 h3 h4 h5 h6 h7
  have eT : patT p = p.pre ++ ((ptG M A C ++ ptF F X) ++ p.suf) := by rw [e]; simp [patT]
  rw [eT] at hV ⊢
  rw [ends_first (aff_no a1) m1]
  have hV2 := ends_last (aff_no a2) m2 hV
  rw [hV2]
  refine ⟨by omega, ?_⟩
  generalize ptG M A C ++ ptF F X = m at *
  have t0 : p.pre ++ (m ++ p.suf) = (p.pre ++ m) ++ p.suf := (List.append_assoc _ _ _).symm
  have t1 : (p.pre ++ (m ++ p.suf)).take (p.pre ++ m).length = p.pre ++ m := by rw [t0]; exact List.take_left
  have t2 : (p.pre ++ (m ++ p.suf)).drop (p.pre ++ m).length = p.suf := by rw [t0]; exact List.drop_left
  unfold candP
  rw [Int.toNat_natCast, Int.toNat_natCast, t1, t2, List.drop_left, List.take_left, m4, m5, m6, m7, m8]
  exact e.symm
theorem patT_inj {p q : Pt} (hp : patE p = 0) (hq : patE q = 0) (h : patT p = patT q) {V : Int} (hV : LastAt (patT p) V) : p = q := by
  rw [← (cand_back hp hV).2, ← (cand_back hq (h ▸ hV)).2, h]
theorem last_is (l : List UInt8) : ∃ V, LastAt l V := by
  have go : ∀ n, n ≤ l.length → NoBehind l n → ∃ V, LastAt l V := by
    intro n
    induction n with
    | zero => exact fun _ h => ⟨-1, .inl ⟨rfl, h⟩⟩
    | succ n ih =>
      intro hn h
      have hb : l[n]? = some l[n] := List.getElem?_eq_getElem (by omega)
      by_cases hs : sgn.contains l[n] = true
      · exact ⟨n, .inr ⟨n, l[n], rfl, hb, hs, h⟩⟩
      · exact ih (by omega) (h.step hb (by simpa using hs))
  exact go l.length (Nat.le_refl _) (NoBehind.end l)
/-- what a reader of patterns answers -/
def Par (s : List UInt8) : Option Pt → Prop
  | some q => patE q = 0 ∧ patT q = s
  | none => ∀ p, patE p = 0 → patT p ≠ s
theorem Par.one {s : List UInt8} {r t : Option Pt} (h : Par s r) (h' : Par s t) : r = t := by
  cases r with
  | none =>
    cases t with
    | none => rfl
    | some q => exact absurd h'.2 (h q h'.1)
  | some p =>
    cases t with
    | none => exact absurd h.2 (h' p h.1)
    | some q =>
      obtain ⟨V, hV⟩ := last_is (patT p)
      rw [patT_inj h.1 h'.1 (h.2.trans h'.2.symm) hV]
end Nt
end Go.Proofs.YtjakpdfonnpchaaDoor
