/- The walk of linguisterref1.DecOf, whole: a number whose text it is, or none. Conditions: the text is short of 4000000000 bytes. -/
import Derived.Test.YtmmjbjoefogmoaaGreatDoorDecOfC
namespace Go.Proofs.YtmmjbjoefogmoaaGreatDoor
open Go.RowKit
open Dcm (P10 okD mag)

theorem split_len_le (sub : List UInt8) : ∀ (k : Nat) (s x : List UInt8), x ∈ Lib.splitK sub 0 k s → x.length ≤ s.length := by
  intro k
  induction k with
  | zero => intro s x hx; simp [Lib.splitK] at hx; rw [hx]; omega
  | succ k ih =>
    intro s x hx
    unfold Lib.splitK at hx
    split at hx
    · simp at hx; rw [hx]; omega
    · rcases List.mem_cons.1 hx with rfl | hx
      · simp; omega
      · have := ih _ x hx
        simp at this; omega
theorem split_le {s sub x : List UInt8} (hx : x ∈ Lib.split s sub) : x.length ≤ s.length := split_len_le sub _ s x hx
/-- what linguisterref1.DecOf tells: a number whose text it is, or none -/
def RDPost (t : List UInt8) (w : World) (e : Ending) (w' : World) : Prop :=
  (∃ c s, okD c s ∧ Byt.decText c s = t ∧ e = .returned (.tuple #[.agg #[.int .i64 c, .int .i64 s], .bool true]) ∧ Below w.heap.size w w') ∨
  ((∀ c s, okD c s → Byt.decText c s ≠ t) ∧ e = .returned (.tuple #[.agg #[.int .i64 0, .int .i64 0], .bool false]) ∧ Below w.heap.size w w')
theorem rdpost_no {t : List UInt8} {w : World} (h : ∀ c s, Byt.decOfP t = some (c, s) → ¬ (okD c s ∧ Byt.decText c s = t))
    (g : Calls Tryz.prog 13 #[.string ⟨t.toArray⟩] w fun e w' => e = .returned (.tuple #[.agg #[.int .i64 0, .int .i64 0], .bool false]) ∧ Below w.heap.size w w') :
    Calls Tryz.prog 13 #[.string ⟨t.toArray⟩] w (RDPost t w) :=
  g.mono fun _ _ g => .inr ⟨fun c s hk e => h c s (by rw [← e]; exact Byt.decOf_text c s hk) ⟨hk, e⟩, g.1, g.2⟩
theorem rdpost_yes {t : List UInt8} {w : World} (c s : Int) (hk : okD c s) (he : Byt.decText c s = t)
    (g : Calls Tryz.prog 13 #[.string ⟨t.toArray⟩] w fun e w' => e = .returned (.tuple #[.agg #[.int .i64 c, .int .i64 s], .bool true]) ∧ Below w.heap.size w w') :
    Calls Tryz.prog 13 #[.string ⟨t.toArray⟩] w (RDPost t w) :=
  g.mono fun _ _ g => .inl ⟨c, s, hk, he, g.1, g.2⟩
theorem digs_out {b : List UInt8} : onlyB b Byt.digs 1 9 = true ↔ (b.all fun c => Byt.digs.contains c) = true ∧ 1 ≤ b.length ∧ b.length ≤ 9 := by
  unfold onlyB
  rw [Bool.and_eq_true, Bool.and_eq_true, decide_eq_true_eq, decide_eq_true_eq]
  constructor
  · rintro ⟨h1, h2, h3⟩; exact ⟨h1, by omega, by omega⟩
  · rintro ⟨h1, h2, h3⟩; exact ⟨h1, by omega, by omega⟩
theorem count_le_len (s : List UInt8) : Lib.count s [46] ≤ s.length := by
  rw [Lib.count_one]; exact List.count_le_length
/-- its ways, by the sign -/
theorem rdecof_sign (t B : List UInt8) (ng : Bool) (w : World) (ht : t.length ≤ 4000000000) (hng : (t.take 1 == [45]) = ng) (hbare : Byt.bare t = B) (hB : if ng then t.drop 1 = B else t = B) :
    Calls Tryz.prog 13 #[.string ⟨t.toArray⟩] w (RDPost t w) := by
  have hl1 : ng = true → 1 ≤ t.length := fun h => by
    subst h
    rcases t with _ | ⟨x, r⟩
    · simp at hng
    · simp
  have hBl : B.length ≤ 4000000000 := by
    cases ng
    · rw [← (show t = B from hB)]; exact ht
    · rw [← (show t.drop 1 = B from hB), List.length_drop]; omega
  have hP : Byt.decOfP t = match Lib.split B [46] with
      | [a] => if Byt.numP a < 0 then none else some (if ng then 0 - Byt.numP a else Byt.numP a, 0)
      | [a, b] => if Byt.numP a < 0 then none else if (b.all fun c => Byt.digs.contains c) = true ∧ 1 ≤ b.length ∧ b.length ≤ 9 ∧ Byt.numP a ≤ 1000000000000000 / P10 b.length then some (if ng then 0 - (Byt.foldD (Byt.numP a).toNat b : Int) else (Byt.foldD (Byt.numP a).toNat b : Int), b.length) else none
      | _ => none := by
    unfold Byt.decOfP
    rw [hbare, show Byt.neg t = ng from hng]
    generalize Lib.split B [46] = L
    rcases L with _ | ⟨a, _ | ⟨b, _ | ⟨d, r⟩⟩⟩ <;> rfl
  have hel : ∀ x ∈ Lib.split B [46], x.length ≤ 4000000000 := fun x hx => by have := split_le hx; omega
  rcases hL : Lib.split B [46] with _ | ⟨a, r⟩
  · have := Spl.split_len (sub := [46]) (s := B) (by simp)
    rw [hL] at this
    simp at this
  rw [hL] at hP hel
  have hal := hel a (by simp)
  by_cases hq : Byt.numP a < 0
  · refine rdpost_no (fun c s h => ?_) ?_
    · rw [hP] at h
      exfalso
      rcases r with _ | ⟨b, r⟩
      · simp [hq] at h
      · rcases r with _ | ⟨d, r⟩
        · simp [hq] at h
        · simp at h
    · cases ng
      · exact dof_neg0 r t B a w hng hB trivial hBl hL hal hq
      · exact dof_neg1 r t B a w hng hB (hl1 rfl) hBl hL hal hq
  have hqb := (Byt.numP_bd a).2
  rcases r with _ | ⟨b, r⟩
  · have hP1 : Byt.decOfP t = some (if ng then 0 - Byt.numP a else Byt.numP a, 0) := by rw [hP]; simp [hq]
    cases ng
    · by_cases hx : Byt.decText (Byt.numP a) 0 = t
      · exact rdpost_yes _ _ ⟨by omega, by omega, by omega, by omega⟩ hx (dof_one_ok0 t B a w hng hB trivial hBl hL hal hq hqb _ rfl hx)
      · refine rdpost_no (fun c s h => ?_) (dof_one_ne0 t B a w hng hB trivial hBl hL hal hq hqb _ rfl hx)
        rw [hP1] at h
        obtain ⟨rfl, rfl⟩ := Prod.mk.inj (Option.some.inj h)
        exact fun g => hx g.2
    · rw [if_pos rfl, Int.zero_sub] at hP1
      by_cases hx : Byt.decText (-Byt.numP a) 0 = t
      · exact rdpost_yes _ _ ⟨by omega, by omega, by omega, by omega⟩ hx (dof_one_ok1 t B a w hng hB (hl1 rfl) hBl hL hal hq hqb _ rfl hx)
      · refine rdpost_no (fun c s h => ?_) (dof_one_ne1 t B a w hng hB (hl1 rfl) hBl hL hal hq hqb _ rfl hx)
        rw [hP1] at h
        obtain ⟨rfl, rfl⟩ := Prod.mk.inj (Option.some.inj h)
        exact fun g => hx g.2
  rcases r with _ | ⟨d, r⟩
  · have hbl := hel b (by simp)
    cases hob : onlyB b Byt.digs 1 9
    · refine rdpost_no (fun c s h => ?_) ?_
      · rw [hP] at h
        have : ¬ ((b.all fun c => Byt.digs.contains c) = true ∧ 1 ≤ b.length ∧ b.length ≤ 9) := fun g => by rw [digs_out.2 g] at hob; exact absurd hob (by decide)
        simp only [hq, if_false] at h
        rw [if_neg (fun g => this ⟨g.1, g.2.1, g.2.2.1⟩)] at h
        exact absurd h (by simp)
      · cases ng
        · exact dof_odd0 t B a b w hng hB trivial hBl hL hal hq hqb hbl hob
        · exact dof_odd1 t B a b w hng hB (hl1 rfl) hBl hL hal hq hqb hbl hob
    have hdo := digs_out.1 hob
    by_cases hf : Byt.numP a ≤ 1000000000000000 / P10 b.length
    · have hP1 : Byt.decOfP t = some (if ng then 0 - (Byt.foldD (Byt.numP a).toNat b : Int) else (Byt.foldD (Byt.numP a).toNat b : Int), (b.length : Int)) := by
        rw [hP]; simp only [hq, if_false]; rw [if_pos ⟨hdo.1, hdo.2.1, hdo.2.2, hf⟩]
      cases ng
      · have hP2 : Byt.decOfP t = some ((Byt.foldD (Byt.numP a).toNat b : Int), (b.length : Int)) := hP1
        by_cases hk : okD (Byt.foldD (Byt.numP a).toNat b : Int) (b.length : Int)
        · by_cases hx : Byt.decText (Byt.foldD (Byt.numP a).toNat b : Int) (b.length : Int) = t
          · exact rdpost_yes _ _ hk hx (dof_two_ok0 t B a b w hng hB trivial hBl hL hal hq hqb hbl hob hf hk hx)
          · refine rdpost_no (fun c s h => ?_) (dof_two_ne0 t B a b w hng hB trivial hBl hL hal hq hqb hbl hob hf hk hx)
            rw [hP2] at h
            obtain ⟨rfl, rfl⟩ := Prod.mk.inj (Option.some.inj h)
            exact fun g => hx g.2
        · refine rdpost_no (fun c s h => ?_) (dof_two_out0 t B a b w hng hB trivial hBl hL hal hq hqb hbl hob hf hk)
          rw [hP2] at h
          obtain ⟨rfl, rfl⟩ := Prod.mk.inj (Option.some.inj h)
          exact fun g => hk g.1
      · have hP2 : Byt.decOfP t = some (-(Byt.foldD (Byt.numP a).toNat b : Int), (b.length : Int)) := by rw [hP1, if_pos rfl, Int.zero_sub]
        by_cases hk : okD (-(Byt.foldD (Byt.numP a).toNat b : Int)) (b.length : Int)
        · by_cases hx : Byt.decText (-(Byt.foldD (Byt.numP a).toNat b : Int)) (b.length : Int) = t
          · exact rdpost_yes _ _ hk hx (dof_two_ok1 t B a b w hng hB (hl1 rfl) hBl hL hal hq hqb hbl hob hf hk hx)
          · refine rdpost_no (fun c s h => ?_) (dof_two_ne1 t B a b w hng hB (hl1 rfl) hBl hL hal hq hqb hbl hob hf hk hx)
            rw [hP2] at h
            obtain ⟨rfl, rfl⟩ := Prod.mk.inj (Option.some.inj h)
            exact fun g => hx g.2
        · refine rdpost_no (fun c s h => ?_) (dof_two_out1 t B a b w hng hB (hl1 rfl) hBl hL hal hq hqb hbl hob hf hk)
          rw [hP2] at h
          obtain ⟨rfl, rfl⟩ := Prod.mk.inj (Option.some.inj h)
          exact fun g => hk g.1
    · refine rdpost_no (fun c s h => ?_) ?_
      · rw [hP] at h
        simp only [hq, if_false] at h
        rw [if_neg (fun g => hf g.2.2.2)] at h
        exact absurd h (by simp)
      · cases ng
        · exact dof_far0 t B a b w hng hB trivial hBl hL hal hq hqb hbl hob hdo.2.2 (by omega)
        · exact dof_far1 t B a b w hng hB (hl1 rfl) hBl hL hal hq hqb hbl hob hdo.2.2 (by omega)
  · refine rdpost_no (fun c s h => ?_) ?_
    · rw [hP] at h
      exact absurd h (by simp)
    · have hr : r.length ≤ 4000000000 := by
        have := Spl.split_len (sub := [46]) (s := B) (by simp)
        rw [hL] at this
        simp only [List.length_cons] at this
        have := count_le_len B
        omega
      cases ng
      · exact dof_many0 b d r t B a w hng hB trivial hBl hL hal hq hr
      · exact dof_many1 b d r t B a w hng hB (hl1 rfl) hBl hL hal hq hr
theorem rdecof_any (t : List UInt8) (w : World) (ht : t.length ≤ 4000000000) : Calls Tryz.prog 13 #[.string ⟨t.toArray⟩] w (RDPost t w) := by
  cases h : (t.take 1 == [45])
  · exact rdecof_sign t _ false w ht h (by unfold Byt.bare; rw [if_neg (beq_eq_false_iff_ne.1 h)]) rfl
  · exact rdecof_sign t _ true w ht h (by unfold Byt.bare; rw [if_pos (by simpa using h)]) rfl
end Go.Proofs.YtmmjbjoefogmoaaGreatDoor
