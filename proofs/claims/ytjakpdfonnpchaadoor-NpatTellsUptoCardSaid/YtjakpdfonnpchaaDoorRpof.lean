/- The walk of linguisterref1.PatOf: all patterns that could be are tried. -/
import Derived.Test.YtjakpdfonnpchaaDoorRptx
import Derived.Test.YtjakpdfonnpchaaDoorNpar
import Derived.Test.YtjakpdfonnpchaaDoorNpfl
namespace Go.Proofs.YtjakpdfonnpchaaDoor
open Go.RowKit
namespace Nt
/-- none that is left lies ahead of these numbers -/
def Left (s : List UInt8) (k1 k2 k3 k4 k5 : Nat) : Prop := ∀ p, patE p = 0 → patT p = s → (k1 : Int) < p.mi ∨ (k1 : Int) = p.mi ∧ ((k2 : Int) < p.nf ∨ (k2 : Int) = p.nf ∧ ((k3 : Int) < p.mf ∨ (k3 : Int) = p.mf ∧ ((k4 : Int) < p.g ∨ (k4 : Int) = p.g ∧ (k5 : Int) ≤ p.g2)))
theorem nums_of {p : Pt} (h : patE p = 0) : 1 ≤ p.mi ∧ p.mi ≤ 9 ∧ 0 ≤ p.nf ∧ p.nf ≤ p.mf ∧ p.mf ≤ 6 ∧ 0 ≤ p.g ∧ p.g ≤ 4 ∧ 0 ≤ p.g2 ∧ p.g2 ≤ 4 := by
  obtain ⟨_, _, M, F, X, A, C, e, h1, h2, h3, h4, h5, h6, _⟩ := parts_of h
  rw [e]; dsimp only; omega
theorem Left.start (s : List UInt8) : Left s 1 0 0 0 0 := fun p hp _ => by have := nums_of hp; omega
theorem Left.high {s : List UInt8} {k1 k2 : Nat} (h : Left s k1 k2 0 0 0) : Left s k1 k2 k2 0 0 := fun p hp hs => by have := nums_of hp; have := h p hp hs; omega
theorem Left.end5 {s : List UInt8} {k1 k2 k3 k4 k5 : Nat} (h : Left s k1 k2 k3 k4 k5) (hk : ¬ k5 ≤ 4) : Left s k1 k2 k3 (k4 + 1) 0 := fun p hp hs => by have := nums_of hp; have := h p hp hs; omega
theorem Left.end4 {s : List UInt8} {k1 k2 k3 k4 : Nat} (h : Left s k1 k2 k3 k4 0) (hk : ¬ k4 ≤ 4) : Left s k1 k2 (k3 + 1) 0 0 := fun p hp hs => by have := nums_of hp; have := h p hp hs; omega
theorem Left.end3 {s : List UInt8} {k1 k2 k3 : Nat} (h : Left s k1 k2 k3 0 0) (hk : ¬ k3 ≤ 6) : Left s k1 (k2 + 1) 0 0 0 := fun p hp hs => by have := nums_of hp; have := h p hp hs; omega
theorem Left.end2 {s : List UInt8} {k1 k2 : Nat} (h : Left s k1 k2 0 0 0) (hk : ¬ k2 ≤ 6) : Left s (k1 + 1) 0 0 0 0 := fun p hp hs => by have := nums_of hp; have := h p hp hs; omega
theorem Left.end1 {s : List UInt8} {k1 : Nat} (h : Left s k1 0 0 0 0) (hk : ¬ k1 ≤ 9) : Par s none := fun p hp hs => by have := nums_of hp; have := h p hp hs; omega
theorem Left.next {s U T : List UInt8} {k1 k2 k3 k4 k5 : Nat} (h : Left s k1 k2 k3 k4 k5) (hE : ∀ p, patE p = 0 → patT p = s → p.pre = U ∧ p.suf = T)
    (hn : ¬ (patE ⟨U, T, (k1 : Int), (k2 : Int), (k3 : Int), (k4 : Int), (k5 : Int)⟩ = 0 ∧ patT ⟨U, T, (k1 : Int), (k2 : Int), (k3 : Int), (k4 : Int), (k5 : Int)⟩ = s)) : Left s k1 k2 k3 k4 (k5 + 1) := fun p hp hs => by
  have h1 := h p hp hs
  by_cases e : (k1 : Int) = p.mi ∧ (k2 : Int) = p.nf ∧ (k3 : Int) = p.mf ∧ (k4 : Int) = p.g ∧ (k5 : Int) = p.g2
  · obtain ⟨e1, e2, e3, e4, e5⟩ := e
    obtain ⟨g1, g2⟩ := hE p hp hs
    refine absurd ?_ hn
    rw [← g1, ← g2, e1, e2, e3, e4, e5]
    exact ⟨hp, hs⟩
  · omega
/-- where the first and the last '#' or '0' stands -/
def Ends (s : List UInt8) (A B : Nat) : Prop :=
  (A ≤ B ∧ B ≤ s.length) ∧ (∀ j x, j < A → s[j]? = some x → x ≠ 35 ∧ x ≠ 48) ∧ (A = s.length ∨ ∃ x, s[A]? = some x ∧ (x = 35 ∨ x = 48)) ∧
  (∀ j x, B ≤ j → s[j]? = some x → x ≠ 35 ∧ x ≠ 48) ∧ (B = A ∨ A < B ∧ ∃ x, s[B - 1]? = some x ∧ (x = 35 ∨ x = 48))
theorem ends_is (s : List UInt8) : ∃ A B, Ends s A B := by
  have first : ∀ n, n ≤ s.length → (∃ A, A ≤ n ∧ (∀ j x, j < A → s[j]? = some x → x ≠ 35 ∧ x ≠ 48) ∧ (A = n ∨ ∃ x, s[A]? = some x ∧ (x = 35 ∨ x = 48))) := by
    intro n
    induction n with
    | zero => exact fun _ => ⟨0, Nat.le_refl _, fun j x hj => by omega, .inl rfl⟩
    | succ n ih =>
      intro hn
      obtain ⟨A, hA, h1, h2⟩ := ih (by omega)
      by_cases hx : A = n ∧ ¬ (s[n]? = some 35 ∨ s[n]? = some 48)
      · obtain ⟨rfl, hx⟩ := hx
        refine ⟨A + 1, by omega, fun j x hj hjx => ?_, .inl rfl⟩
        by_cases e : j = A
        · subst e; exact ⟨fun e => hx (.inl (e ▸ hjx)), fun e => hx (.inr (e ▸ hjx))⟩
        · exact h1 j x (by omega) hjx
      · refine ⟨A, by omega, h1, ?_⟩
        rcases h2 with h2 | h2
        · refine .inr ?_
          subst h2
          have : s[A]? = some 35 ∨ s[A]? = some 48 := Decidable.byContradiction fun e => hx ⟨rfl, e⟩
          rcases this with e | e
          · exact ⟨_, e, .inl rfl⟩
          · exact ⟨_, e, .inr rfl⟩
        · exact .inr h2
  obtain ⟨A, hA, h1, h2⟩ := first s.length (Nat.le_refl _)
  have last : ∀ d B, B = A + d → B ≤ s.length → (∀ j x, B ≤ j → s[j]? = some x → x ≠ 35 ∧ x ≠ 48) → ∃ B, Ends s A B := by
    intro d
    induction d with
    | zero => exact fun B hB hl h => ⟨B, ⟨⟨by omega, hl⟩, h1, h2, h, .inl (by omega)⟩⟩
    | succ d ih =>
      intro B hB hl h
      by_cases hx : s[B - 1]? = some 35 ∨ s[B - 1]? = some 48
      · refine ⟨B, ⟨by omega, hl⟩, h1, h2, h, .inr ⟨by omega, ?_⟩⟩
        rcases hx with e | e
        · exact ⟨_, e, .inl rfl⟩
        · exact ⟨_, e, .inr rfl⟩
      · refine ih (B - 1) (by omega) (by omega) (fun j x hj hjx => ?_)
        by_cases e : j = B - 1
        · subst e; exact ⟨fun e => hx (.inl (e ▸ hjx)), fun e => hx (.inr (e ▸ hjx))⟩
        · exact h j x (by omega) hjx
  obtain ⟨B, hB⟩ := last (s.length - A) s.length (by omega) (Nat.le_refl _) (fun j x hj hjx => by rw [List.getElem?_eq_none (by omega)] at hjx; cases hjx)
  exact ⟨A, B, hB⟩
theorem aff_sg {l : List UInt8} (h : affB l = true) : ∀ c ∈ l, c ≠ 35 ∧ c ≠ 48 := fun c hc => by
  have := aff_no h c hc
  refine ⟨fun e => ?_, fun e => ?_⟩
  · rw [e] at this; cases this
  · rw [e] at this; cases this
theorem good_ends {s : List UInt8} {A B : Nat} (h : Ends s A B) {p : Pt} (hp : patE p = 0) (hs : patT p = s) : p.pre = s.take A ∧ p.suf = s.drop B ∧ A ≤ 5 ∧ s.length - B ≤ 5 ∧ B - A ≤ 40 := by
  obtain ⟨a1, a2, M, F, X, AA, C, e, h1, h2, h3, h4, h5, h6, h7⟩ := parts_of hp
  obtain ⟨m1, m2, m3, _⟩ := mid_of h1 h2 h3 h4 h5 h6 h7
  have eT : patT p = p.pre ++ ((ptG M AA C ++ ptF F X) ++ p.suf) := by rw [e]; simp [patT]
  rw [eT] at hs
  have l1 : p.pre.length ≤ 5 := by unfold affB at a1; simp at a1; omega
  have l2 : p.suf.length ≤ 5 := by unfold affB at a2; simp at a2; omega
  generalize ptG M AA C ++ ptF F X = m at *
  obtain ⟨⟨hAB, hBl⟩, i1, i2, i3, i4⟩ := h
  obtain ⟨b1, r1, hm1, hb1⟩ := sgn_head m1
  obtain ⟨b2, r2, hm2, hb2⟩ := sgn_last m2
  have hml : 1 ≤ m.length := by rw [hm1]; simp
  have hlen : s.length = p.pre.length + (m.length + p.suf.length) := by rw [← hs]; simp
  have at1 : s[p.pre.length]? = some b1 := by rw [← hs, List.getElem?_append_right (Nat.le_refl _), Nat.sub_self, hm1]; rfl
  have at2 : s[p.pre.length + m.length - 1]? = some b2 := by
    rw [← hs, List.getElem?_append_right (by omega), List.getElem?_append_left (by omega), hm2, show p.pre.length + (r2 ++ [b2]).length - 1 - p.pre.length = r2.length by simp only [List.length_append, List.length_cons, List.length_nil]; omega, List.getElem?_append_right (Nat.le_refl _), Nat.sub_self]; rfl
  have eA : A = p.pre.length := by
    have c1 : ¬ p.pre.length < A := fun hlt => by
      obtain ⟨n1, n2⟩ := i1 _ _ hlt at1
      rcases hb1 with rfl | rfl
      · exact n1 rfl
      · exact n2 rfl
    have c2 : ¬ A < p.pre.length := fun hlt => by
      rcases i2 with i2 | ⟨x, hx, hxs⟩
      · omega
      · rw [← hs, List.getElem?_append_left hlt] at hx
        obtain ⟨n1, n2⟩ := aff_sg a1 x (List.mem_of_getElem? hx)
        exact hxs.elim n1 n2
    omega
  have eB : B = p.pre.length + m.length := by
    have c1 : ¬ B < p.pre.length + m.length := fun hlt => by
      obtain ⟨n1, n2⟩ := i3 _ _ (by omega) at2
      rcases hb2 with rfl | rfl
      · exact n1 rfl
      · exact n2 rfl
    have c2 : ¬ p.pre.length + m.length < B := fun hlt => by
      rcases i4 with i4 | ⟨_, x, hx, hxs⟩
      · omega
      · rw [← hs, List.getElem?_append_right (by omega), List.getElem?_append_right (by omega)] at hx
        obtain ⟨n1, n2⟩ := aff_sg a2 x (List.mem_of_getElem? hx)
        exact hxs.elim n1 n2
    omega
  refine ⟨?_, ?_, by omega, by omega, by omega⟩
  · rw [eA, ← hs, List.take_left]
  · rw [eB, ← hs, ← List.append_assoc]
    have : p.pre.length + m.length = (p.pre ++ m).length := by simp
    rw [this, List.drop_left]
end Nt
/-- what the loops keep: the result's cell holds the zero pattern -/
structure RK (w wr : World) : Prop where
  b : Below w.heap.size w wr
  z : Boxed wr w.heap.size #[.string ⟨#[]⟩, .string ⟨#[]⟩, .int .i64 0, .int .i64 0, .int .i64 0, .int .i64 0, .int .i64 0]
set_option maxRecDepth 100000 in
set_option maxHeartbeats 16000000 in
theorem rpof_any (s : List UInt8) (w : World) (hs : s.length ≤ 1000000000) :
    Calls Tryd.prog 12 #[.string ⟨s.toArray⟩] w fun e w' => ∃ r, Nt.Par s r ∧ e = .returned (.tuple #[Nt.patV r, .bool r.isSome]) ∧ Below w.heap.size w w' := by
  obtain ⟨A, B, hE⟩ := Nt.ends_is s
  have HG := Lib.hid fun p (hp : Nt.patE p = 0) (h : Nt.patT p = s) => Nt.good_ends hE hp h
  obtain ⟨⟨hAB, hBl⟩, i1, i2, i3, i4⟩ := hE
  have I1 := Lib.hid i1
  have I2 := Lib.hid i2
  have I3 := Lib.hid i3
  have I4 := Lib.hid i4
  have hsz : (⟨s.toArray⟩ : ByteArray).size = s.length := size_mkl s
  obtain ⟨U, hU⟩ : ∃ U, U = s.take A := ⟨_, rfl⟩
  obtain ⟨T, hT⟩ : ∃ T, T = s.drop B := ⟨_, rfl⟩
  have S1 := fun w => slice_to (P := Tryd.prog) 9 Tryd.underlying9 s .i64 A (by omega) w
  have S2 := fun w => slice_from (P := Tryd.prog) 9 Tryd.underlying9 s .i64 B (by omega) w
  rw [← hU] at S1 HG
  rw [← hT] at S2 HG
  have lU : U.length ≤ 1000000000 := by rw [hU]; simp; omega
  have lT : T.length ≤ 1000000000 := by rw [hT]; simp; omega
  have C1 := Lib.hid fun (k1 k2 k3 k4 k5 : Nat) wx => pfl_any ⟨U, T, (k1 : Int), (k2 : Int), (k3 : Int), (k4 : Int), (k5 : Int)⟩ wx lU lT
  have C2 := Lib.hid fun (k1 k2 k3 k4 k5 : Nat) wx => rpt_any ⟨U, T, (k1 : Int), (k2 : Int), (k3 : Int), (k4 : Int), (k5 : Int)⟩ wx
  dsimp only at C1 C2
  have X0 := Lib.hid (show RK w (w.alloc (.cells #[.string ⟨#[]⟩, .string ⟨#[]⟩, .int .i64 0, .int .i64 0, .int .i64 0, .int .i64 0, .int .i64 0] 23)) from ⟨blw_alloc w _, Boxed.made w _ _⟩)
  clear i1 i2 i3 i4 hU hT lU lT
  go_enter Tryd.func12, Tryd.ntmps12
  go_upto_region 1 with fail
  generalize w.alloc (.cells #[.string ⟨#[]⟩, .string ⟨#[]⟩, .int .i64 0, .int .i64 0, .int .i64 0, .int .i64 0, .int .i64 0] 23) = w1 at *
  go_wp2_with fail
  go_loopw [4] (fun va wr => ∃ a : Nat, va = .int .i64 (a : Int) ∧ a ≤ A ∧ w1 = wr) (fun va _ => A - (RowKit.intOf va).toNat)
  case atStart => exact ⟨0, rfl, Nat.zero_le _, rfl⟩
  case round =>
    obtain ⟨a, rfl, haA, rfl⟩ := hrel
    go_upto_region 2 with fail
    go_cut [27] from 12 to 27 (fun v wx => v = .bool (decide (a < A)) ∧ w1 = wx)
    case first =>
      by_cases ha : a < A
      · obtain ⟨x, hx⟩ : ∃ x, s[a]? = some x := ⟨s[a]'(by omega), List.getElem?_eq_getElem (by omega)⟩
        obtain ⟨n1, n2⟩ := I1.out a x ha hx
        have IX := fun w => index_str (P := Tryd.prog) 9 Tryd.underlying9 s .i64 a x hx w
        have q1 : ((x.toNat : Int) == 35) = false := beq_no (fun e => n1 (UInt8.toNat.inj (by show x.toNat = 35; omega)))
        have q2 : ((x.toNat : Int) == 48) = false := beq_no (fun e => n2 (UInt8.toNat.inj (by show x.toNat = 48; omega)))
        have q3 : ((x.toNat : Int) != 35) = true := by rw [bne, q1]; rfl
        have q4 : ((x.toNat : Int) != 48) = true := by rw [bne, q2]; rfl
        have d1 : decide ((a : Int) < (s.length : Int)) = true := dec_yes (by omega)
        have d2 : a < s.length := by omega
        have HH := Lib.hid ha
        clear hx n1 n2 ha
        go_wp2_with fail
        go_meet
        exact ⟨by rw [dec_yes HH.out], by first | rfl | trivial⟩
      · obtain rfl : a = A := by omega
        have HH := Lib.hid ha
        rcases I2.out with h | ⟨x, hx, hxs⟩
        · have d1 : ¬ a < s.length := by omega
          have d2 : decide ((a : Int) < (s.length : Int)) = false := dec_no (by omega)
          clear h ha
          go_wp2_with fail
          go_meet
          exact ⟨by rw [dec_no HH.out], by first | rfl | trivial⟩
        · have IX := fun w => index_str (P := Tryd.prog) 9 Tryd.underlying9 s .i64 a x hx w
          have d2 : a < s.length := (List.getElem?_eq_some_iff.1 hx).1
          have d1 : decide ((a : Int) < (s.length : Int)) = true := dec_yes (by omega)
          clear hx ha
          rcases hxs with rfl | rfl
          · go_wp2_with fail
            go_meet
            exact ⟨by rw [dec_no HH.out], by first | rfl | trivial⟩
          · go_wp2_with fail
            go_meet
            exact ⟨by rw [dec_no HH.out], by first | rfl | trivial⟩
    case rest =>
      obtain ⟨rfl, rfl⟩ := hcut
      by_cases ha : a < A
      · have d1 : decide (a < A) = true := dec_yes ha
        have ha1 : IntKind.i64.wrap ((a : Int) + 1) = ((a + 1 : Nat) : Int) := by rw [IntWalk.i64_in _ (by omega)]; omega
        go_wp2_with fail
        go_round
        case rel => exact ⟨a + 1, rfl, by omega, by first | rfl | trivial⟩
        case measure => show A - (a + 1) < A - a; omega
      · have d1 : decide (a < A) = false := dec_no ha
        obtain rfl : a = A := by omega
        go_wp2_with fail
        go_loopw [5] (fun vb wr => ∃ b : Nat, vb = .int .i64 (b : Int) ∧ B ≤ b ∧ b ≤ s.length ∧ w1 = wr) (fun vb _ => (RowKit.intOf vb).toNat)
        case atStart => exact ⟨s.length, rfl, by omega, Nat.le_refl _, rfl⟩
        case round =>
          obtain ⟨b, rfl, hbB, hbl, rfl⟩ := hrel
          go_upto_region 5 with fail
          go_cut [48] from 32 to 48 (fun v wx => v = .bool (decide (B < b)) ∧ w1 = wx)
          case first =>
            by_cases hb : B < b
            · obtain ⟨x, hx⟩ : ∃ x, s[b - 1]? = some x := ⟨s[b - 1]'(by omega), List.getElem?_eq_getElem (by omega)⟩
              obtain ⟨n1, n2⟩ := I3.out (b - 1) x (by omega) hx
              have IX := fun w => index_str (P := Tryd.prog) 9 Tryd.underlying9 s .i64 (b - 1) x hx w
              have q1 : ((x.toNat : Int) == 35) = false := beq_no (fun e => n1 (UInt8.toNat.inj (by show x.toNat = 35; omega)))
              have q2 : ((x.toNat : Int) == 48) = false := beq_no (fun e => n2 (UInt8.toNat.inj (by show x.toNat = 48; omega)))
              have q3 : ((x.toNat : Int) != 35) = true := by rw [bne, q1]; rfl
              have q4 : ((x.toNat : Int) != 48) = true := by rw [bne, q2]; rfl
              have d1 : decide ((a : Int) < (b : Int)) = true := dec_yes (by omega)
              have d2 : a < b := by omega
              have hb1 : IntKind.i64.wrap ((b : Int) - 1) = ((b - 1 : Nat) : Int) := by rw [IntWalk.i64_in _ (by omega)]; omega
              have HH := Lib.hid hb
              clear hx n1 n2 hb
              go_wp2_with fail
              go_meet
              exact ⟨by rw [dec_yes HH.out], by first | rfl | trivial⟩
            · obtain rfl : b = B := by omega
              have HH := Lib.hid hb
              rcases I4.out with h | ⟨hlt, x, hx, hxs⟩
              · have d1 : ¬ a < b := by omega
                have d2 : decide ((a : Int) < (b : Int)) = false := dec_no (by omega)
                clear h hb
                go_wp2_with fail
                go_meet
                exact ⟨by rw [dec_no HH.out], by first | rfl | trivial⟩
              · have IX := fun w => index_str (P := Tryd.prog) 9 Tryd.underlying9 s .i64 (b - 1) x hx w
                have d1 : decide ((a : Int) < (b : Int)) = true := dec_yes (by omega)
                have hb1 : IntKind.i64.wrap ((b : Int) - 1) = ((b - 1 : Nat) : Int) := by rw [IntWalk.i64_in _ (by omega)]; omega
                clear hx hb
                rcases hxs with rfl | rfl
                · go_wp2_with fail
                  go_meet
                  exact ⟨by rw [dec_no HH.out], by first | rfl | trivial⟩
                · go_wp2_with fail
                  go_meet
                  exact ⟨by rw [dec_no HH.out], by first | rfl | trivial⟩
          case rest =>
            obtain ⟨rfl, rfl⟩ := hcut
            by_cases hb : B < b
            · have d1 : decide (B < b) = true := dec_yes hb
              have hb1 : IntKind.i64.wrap ((b : Int) - 1) = ((b - 1 : Nat) : Int) := by rw [IntWalk.i64_in _ (by omega)]; omega
              go_wp2_with fail
              go_round
              case rel => exact ⟨b - 1, rfl, by omega, by omega, by first | rfl | trivial⟩
              case measure => show b - 1 < b; omega
            have d1 : decide (B < b) = false := dec_no hb
            obtain rfl : b = B := by omega
            clear I1 I2 I3 I4
            obtain ⟨D1, hD1⟩ : ∃ D, D = (s.length : Int) - (b : Int) := ⟨_, rfl⟩
            obtain ⟨D2, hD2⟩ : ∃ D, D = (b : Int) - (a : Int) := ⟨_, rfl⟩
            have w1s : IntKind.i64.wrap ((s.length : Int) - (b : Int)) = D1 := by rw [hD1]; exact IntWalk.i64_in _ (by omega)
            have w2s : IntKind.i64.wrap ((b : Int) - (a : Int)) = D2 := by rw [hD2]; exact IntWalk.i64_in _ (by omega)
            by_cases hfar : a ≤ 5 ∧ s.length - b ≤ 5 ∧ b - a ≤ 40
            · obtain ⟨f1, f2, f3⟩ := hfar
              have e1 : decide ((5 : Int) < (a : Int)) = false := dec_no (by omega)
              have e2 : decide ((5 : Int) < D1) = false := dec_no (by omega)
              have e3 : decide ((40 : Int) < D2) = false := dec_no (by omega)
              have e4 : ¬ 5 < a := by omega
              have HGE := Lib.hid fun p (hp : Nt.patE p = 0) (h : Nt.patT p = s) => (⟨(HG.out p hp h).1, (HG.out p hp h).2.1⟩ : p.pre = U ∧ p.suf = T)
              have e5 : ¬ 5 < D1 := by omega
              have e6 : ¬ 40 < D2 := by omega
              clear HG f1 f2 f3 hD1 hD2
              go_wp2_with fail
              clear e1 e2 e3 e4 e5 e6 w1s w2s
              go_loopw [6] (fun v wr => ∃ k1 : Nat, v = .int .i64 (k1 : Int) ∧ k1 ≤ 10 ∧ Hid (Nt.Left s k1 0 0 0 0) ∧ Hid (RK w wr)) (fun v _ => 10 - (RowKit.intOf v).toNat)
              case atStart => exact ⟨1, rfl, by omega, Lib.hid (Nt.Left.start s), X0⟩
              case round =>
                obtain ⟨k1, rfl, le1, HL1, X1⟩ := hrel
                have wk1 : IntKind.i64.wrap ((k1 : Int) + 1) = ((k1 + 1 : Nat) : Int) := by rw [IntWalk.i64_in _ (by omega)]; omega
                by_cases hk1 : k1 ≤ 9
                · have hk1' : (k1 : Int) ≤ 9 := by omega
                  clear X0
                  go_wp2_with fail
                  go_loopw [7] (fun v wr => ∃ k2 : Nat, v = .int .i64 (k2 : Int) ∧ k2 ≤ 7 ∧ Hid (Nt.Left s k1 k2 0 0 0) ∧ Hid (RK w wr)) (fun v _ => 7 - (RowKit.intOf v).toNat)
                  case atStart => exact ⟨0, rfl, by omega, HL1, X1⟩
                  case round =>
                    obtain ⟨k2, rfl, le2, HL2, X2⟩ := hrel
                    have wk2 : IntKind.i64.wrap ((k2 : Int) + 1) = ((k2 + 1 : Nat) : Int) := by rw [IntWalk.i64_in _ (by omega)]; omega
                    by_cases hk2 : k2 ≤ 6
                    · have hk2' : (k2 : Int) ≤ 6 := by omega
                      clear X1
                      go_wp2_with fail
                      go_loopw [8] (fun v wr => ∃ k3 : Nat, v = .int .i64 (k3 : Int) ∧ k2 ≤ k3 ∧ k3 ≤ 7 ∧ Hid (Nt.Left s k1 k2 k3 0 0) ∧ Hid (RK w wr)) (fun v _ => 7 - (RowKit.intOf v).toNat)
                      case atStart => exact ⟨k2, rfl, Nat.le_refl _, by omega, Lib.hid HL2.out.high, X2⟩
                      case round =>
                        obtain ⟨k3, rfl, lo3, le3, HL3, X3⟩ := hrel
                        have wk3 : IntKind.i64.wrap ((k3 : Int) + 1) = ((k3 + 1 : Nat) : Int) := by rw [IntWalk.i64_in _ (by omega)]; omega
                        by_cases hk3 : k3 ≤ 6
                        · have hk3' : (k3 : Int) ≤ 6 := by omega
                          clear X2
                          go_wp2_with fail
                          go_loopw [9] (fun v wr => ∃ k4 : Nat, v = .int .i64 (k4 : Int) ∧ k4 ≤ 5 ∧ Hid (Nt.Left s k1 k2 k3 k4 0) ∧ Hid (RK w wr)) (fun v _ => 5 - (RowKit.intOf v).toNat)
                          case atStart => exact ⟨0, rfl, by omega, HL3, X3⟩
                          case round =>
                            obtain ⟨k4, rfl, le4, HL4, X4⟩ := hrel
                            have wk4 : IntKind.i64.wrap ((k4 : Int) + 1) = ((k4 + 1 : Nat) : Int) := by rw [IntWalk.i64_in _ (by omega)]; omega
                            by_cases hk4 : k4 ≤ 4
                            · have hk4' : (k4 : Int) ≤ 4 := by omega
                              clear X3
                              go_wp2_with fail
                              go_loopw [10] (fun v wr => ∃ k5 : Nat, v = .int .i64 (k5 : Int) ∧ k5 ≤ 5 ∧ Hid (Nt.Left s k1 k2 k3 k4 k5) ∧ Hid (RK w wr)) (fun v _ => 5 - (RowKit.intOf v).toNat)
                              case atStart => exact ⟨0, rfl, by omega, HL4, X4⟩
                              case round =>
                                obtain ⟨k5, rfl, le5, HL5, X5⟩ := hrel
                                have wk5 : IntKind.i64.wrap ((k5 : Int) + 1) = ((k5 + 1 : Nat) : Int) := by rw [IntWalk.i64_in _ (by omega)]; omega
                                by_cases hk5 : k5 ≤ 4
                                · have hk5' : (k5 : Int) ≤ 4 := by omega
                                  clear X4
                                  have CF := Lib.hid fun wx => C1.out k1 k2 k3 k4 k5 wx
                                  have CT := Lib.hid fun wx => C2.out k1 k2 k3 k4 k5 wx
                                  have HNX := Lib.hid fun hn => (HL5.out.next HGE.out hn : Nt.Left s k1 k2 k3 k4 (k5 + 1))
                                  have HPA : Hid (Nt.patE ⟨U, T, (k1 : Int), (k2 : Int), (k3 : Int), (k4 : Int), (k5 : Int)⟩ = 0 → Nt.patT ⟨U, T, (k1 : Int), (k2 : Int), (k3 : Int), (k4 : Int), (k5 : Int)⟩ = s → Nt.Par s (some ⟨U, T, (k1 : Int), (k2 : Int), (k3 : Int), (k4 : Int), (k5 : Int)⟩)) := Lib.hid fun h1 h2 => ⟨h1, h2⟩
                                  generalize hEE : Nt.patE ⟨U, T, (k1 : Int), (k2 : Int), (k3 : Int), (k4 : Int), (k5 : Int)⟩ = EE at *
                                  generalize hTT : Nt.patT ⟨U, T, (k1 : Int), (k2 : Int), (k3 : Int), (k4 : Int), (k5 : Int)⟩ = TT at *
                                  clear hEE hTT
                                  go_wp2_with fail
                                  go_region
                                  have W6 := Lib.hid (Below.drew (blw_trans X5.out.b (blw_alloc wr (.cells #[.string ⟨U.toArray⟩, .string ⟨T.toArray⟩, .int .i64 (k1 : Int), .int .i64 (k2 : Int), .int .i64 (k3 : Int), .int .i64 (k4 : Int), .int .i64 (k5 : Int)] 23))))
                                  have B6 := Lib.hid (X5.out.z.alloc (.cells #[.string ⟨U.toArray⟩, .string ⟨T.toArray⟩, .int .i64 (k1 : Int), .int .i64 (k2 : Int), .int .i64 (k3 : Int), .int .i64 (k4 : Int), .int .i64 (k5 : Int)] 23)).drew
                                  have D6 := Lib.hid (Boxed.made wr #[.string ⟨U.toArray⟩, .string ⟨T.toArray⟩, .int .i64 (k1 : Int), .int .i64 (k2 : Int), .int .i64 (k3 : Int), .int .i64 (k4 : Int), .int .i64 (k5 : Int)] 23).drew
                                  generalize (wr.alloc (.cells #[.string ⟨U.toArray⟩, .string ⟨T.toArray⟩, .int .i64 (k1 : Int), .int .i64 (k2 : Int), .int .i64 (k3 : Int), .int .i64 (k4 : Int), .int .i64 (k5 : Int)] 23)).drew = w6 at *
                                  have d0 : w6.cell? ⟨wr.heap.size, 0, none⟩ = some (.string ⟨U.toArray⟩) := D6.out.cell 0 _ rfl
                                  have d1 : w6.cell? ⟨wr.heap.size, 1, none⟩ = some (.string ⟨T.toArray⟩) := D6.out.cell 1 _ rfl
                                  have d2 : w6.cell? ⟨wr.heap.size, 2, none⟩ = some (.int .i64 (k1 : Int)) := D6.out.cell 2 _ rfl
                                  have d3 : w6.cell? ⟨wr.heap.size, 3, none⟩ = some (.int .i64 (k2 : Int)) := D6.out.cell 3 _ rfl
                                  have d4 : w6.cell? ⟨wr.heap.size, 4, none⟩ = some (.int .i64 (k3 : Int)) := D6.out.cell 4 _ rfl
                                  have d5 : w6.cell? ⟨wr.heap.size, 5, none⟩ = some (.int .i64 (k4 : Int)) := D6.out.cell 5 _ rfl
                                  have d6 : w6.cell? ⟨wr.heap.size, 6, none⟩ = some (.int .i64 (k5 : Int)) := D6.out.cell 6 _ rfl
                                  have dl := D6.out.lt
                                  go_wp2_with fail
                                  refine (CF.out _).mono ?_
                                  rintro e w7 ⟨rfl, hb⟩
                                  have W7 := Lib.hid (blw_trans W6.out hb)
                                  have B7 := Lib.hid (B6.out.below hb)
                                  have D7 := Lib.hid (D6.out.below hb)
                                  clear hb W6 B6 D6 d0 d1 d2 d3 d4 d5 d6 dl
                                  have d0 : w7.cell? ⟨wr.heap.size, 0, none⟩ = some (.string ⟨U.toArray⟩) := D7.out.cell 0 _ rfl
                                  have d1 : w7.cell? ⟨wr.heap.size, 1, none⟩ = some (.string ⟨T.toArray⟩) := D7.out.cell 1 _ rfl
                                  have d2 : w7.cell? ⟨wr.heap.size, 2, none⟩ = some (.int .i64 (k1 : Int)) := D7.out.cell 2 _ rfl
                                  have d3 : w7.cell? ⟨wr.heap.size, 3, none⟩ = some (.int .i64 (k2 : Int)) := D7.out.cell 3 _ rfl
                                  have d4 : w7.cell? ⟨wr.heap.size, 4, none⟩ = some (.int .i64 (k3 : Int)) := D7.out.cell 4 _ rfl
                                  have d5 : w7.cell? ⟨wr.heap.size, 5, none⟩ = some (.int .i64 (k4 : Int)) := D7.out.cell 5 _ rfl
                                  have d6 : w7.cell? ⟨wr.heap.size, 6, none⟩ = some (.int .i64 (k5 : Int)) := D7.out.cell 6 _ rfl
                                  have dl := D7.out.lt
                                  have y0 : w7.cell? ⟨w.heap.size, 0, none⟩ = some (.string ⟨#[]⟩) := B7.out.cell 0 _ rfl
                                  have yf0 := B7.out.free 0 (by simp)
                                  have y1 : w7.cell? ⟨w.heap.size, 1, none⟩ = some (.string ⟨#[]⟩) := B7.out.cell 1 _ rfl
                                  have yf1 := B7.out.free 1 (by simp)
                                  have y2 : w7.cell? ⟨w.heap.size, 2, none⟩ = some (.int .i64 0) := B7.out.cell 2 _ rfl
                                  have yf2 := B7.out.free 2 (by simp)
                                  have y3 : w7.cell? ⟨w.heap.size, 3, none⟩ = some (.int .i64 0) := B7.out.cell 3 _ rfl
                                  have yf3 := B7.out.free 3 (by simp)
                                  have y4 : w7.cell? ⟨w.heap.size, 4, none⟩ = some (.int .i64 0) := B7.out.cell 4 _ rfl
                                  have yf4 := B7.out.free 4 (by simp)
                                  have y5 : w7.cell? ⟨w.heap.size, 5, none⟩ = some (.int .i64 0) := B7.out.cell 5 _ rfl
                                  have yf5 := B7.out.free 5 (by simp)
                                  have y6 : w7.cell? ⟨w.heap.size, 6, none⟩ = some (.int .i64 0) := B7.out.cell 6 _ rfl
                                  have yf6 := B7.out.free 6 (by simp)
                                  have yl := B7.out.lt
                                  by_cases hE : EE = 0
                                  · have HE := Lib.hid hE
                                    have e0 : (EE == 0) = true := beq_yes hE
                                    subst hE
                                    go_wp2_with fail
                                    refine (CT.out _ HE.out).mono ?_
                                    rintro e w8 ⟨rfl, hb⟩
                                    have W8 := Lib.hid (blw_trans W7.out hb)
                                    have B8 := Lib.hid (B7.out.below hb)
                                    have D8 := Lib.hid (D7.out.below hb)
                                    clear hb W7 B7 D7 d0 d1 d2 d3 d4 d5 d6 dl y0 yf0 y1 yf1 y2 yf2 y3 yf3 y4 yf4 y5 yf5 y6 yf6 yl
                                    have d0 : w8.cell? ⟨wr.heap.size, 0, none⟩ = some (.string ⟨U.toArray⟩) := D8.out.cell 0 _ rfl
                                    have d1 : w8.cell? ⟨wr.heap.size, 1, none⟩ = some (.string ⟨T.toArray⟩) := D8.out.cell 1 _ rfl
                                    have d2 : w8.cell? ⟨wr.heap.size, 2, none⟩ = some (.int .i64 (k1 : Int)) := D8.out.cell 2 _ rfl
                                    have d3 : w8.cell? ⟨wr.heap.size, 3, none⟩ = some (.int .i64 (k2 : Int)) := D8.out.cell 3 _ rfl
                                    have d4 : w8.cell? ⟨wr.heap.size, 4, none⟩ = some (.int .i64 (k3 : Int)) := D8.out.cell 4 _ rfl
                                    have d5 : w8.cell? ⟨wr.heap.size, 5, none⟩ = some (.int .i64 (k4 : Int)) := D8.out.cell 5 _ rfl
                                    have d6 : w8.cell? ⟨wr.heap.size, 6, none⟩ = some (.int .i64 (k5 : Int)) := D8.out.cell 6 _ rfl
                                    have dl := D8.out.lt
                                    have y0 : w8.cell? ⟨w.heap.size, 0, none⟩ = some (.string ⟨#[]⟩) := B8.out.cell 0 _ rfl
                                    have yf0 := B8.out.free 0 (by simp)
                                    have y1 : w8.cell? ⟨w.heap.size, 1, none⟩ = some (.string ⟨#[]⟩) := B8.out.cell 1 _ rfl
                                    have yf1 := B8.out.free 1 (by simp)
                                    have y2 : w8.cell? ⟨w.heap.size, 2, none⟩ = some (.int .i64 0) := B8.out.cell 2 _ rfl
                                    have yf2 := B8.out.free 2 (by simp)
                                    have y3 : w8.cell? ⟨w.heap.size, 3, none⟩ = some (.int .i64 0) := B8.out.cell 3 _ rfl
                                    have yf3 := B8.out.free 3 (by simp)
                                    have y4 : w8.cell? ⟨w.heap.size, 4, none⟩ = some (.int .i64 0) := B8.out.cell 4 _ rfl
                                    have yf4 := B8.out.free 4 (by simp)
                                    have y5 : w8.cell? ⟨w.heap.size, 5, none⟩ = some (.int .i64 0) := B8.out.cell 5 _ rfl
                                    have yf5 := B8.out.free 5 (by simp)
                                    have y6 : w8.cell? ⟨w.heap.size, 6, none⟩ = some (.int .i64 0) := B8.out.cell 6 _ rfl
                                    have yf6 := B8.out.free 6 (by simp)
                                    have yl := B8.out.lt
                                    by_cases hq : TT = s
                                    · have q1 : (TT == s) = true := by rw [hq]; simp
                                      have HH := Lib.hid hq
                                      have HP := Lib.hid (HPA.out HE.out hq)
                                      clear hq HPA HNX CF CT
                                      go_wp2_with fail
                                      refine bodyPost_ret (v := .tuple #[.agg #[.string ⟨U.toArray⟩, .string ⟨T.toArray⟩, .int .i64 (k1 : Int), .int .i64 (k2 : Int), .int .i64 (k3 : Int), .int .i64 (k4 : Int), .int .i64 (k5 : Int)], .bool true]) (by simp [results, Tryd.results12, go_sem, y0, y1, y2, y3, y4, y5, y6]) rfl ?_
                                      exact ⟨some ⟨U, T, (k1 : Int), (k2 : Int), (k3 : Int), (k4 : Int), (k5 : Int)⟩, HP.out, rfl, by repeat (first | with_reducible exact W8.out | refine Below.setCell ?_ (by simp) _)⟩
                                    · have q1 : (TT == s) = false := beq_eq_false_iff_ne.2 hq
                                      have HL := Lib.hid (HNX.out (fun h => hq h.2))
                                      clear hq HPA HNX CF CT
                                      go_wp2_with fail
                                      go_round
                                      case rel => exact ⟨k5 + 1, rfl, by omega, HL, Lib.hid ⟨W8.out, B8.out⟩⟩
                                      case measure => show 5 - (k5 + 1) < 5 - k5; omega
                                  · have e0 : (EE == 0) = false := beq_no hE
                                    have HL := Lib.hid (HNX.out (fun h => hE h.1))
                                    clear hE HPA HNX CF CT
                                    go_wp2_with fail
                                    go_round
                                    case rel => exact ⟨k5 + 1, rfl, by omega, HL, Lib.hid ⟨W7.out, B7.out⟩⟩
                                    case measure => show 5 - (k5 + 1) < 5 - k5; omega
                                · have hk5' : ¬ (k5 : Int) ≤ 4 := by omega
                                  have HL := Lib.hid (HL5.out.end5 hk5)
                                  go_wp2_with fail
                                  go_round
                                  case rel => exact ⟨k4 + 1, rfl, by omega, HL, X5⟩
                                  case measure => show 5 - (k4 + 1) < 5 - k4; omega
                            · have hk4' : ¬ (k4 : Int) ≤ 4 := by omega
                              have HL := Lib.hid (HL4.out.end4 hk4)
                              go_wp2_with fail
                              go_round
                              case rel => exact ⟨k3 + 1, rfl, by omega, by omega, HL, X4⟩
                              case measure => show 7 - (k3 + 1) < 7 - k3; omega
                        · have hk3' : ¬ (k3 : Int) ≤ 6 := by omega
                          have HL := Lib.hid (HL3.out.end3 hk3)
                          go_wp2_with fail
                          go_round
                          case rel => exact ⟨k2 + 1, rfl, by omega, HL, X3⟩
                          case measure => show 7 - (k2 + 1) < 7 - k2; omega
                    · have hk2' : ¬ (k2 : Int) ≤ 6 := by omega
                      have HL := Lib.hid (HL2.out.end2 hk2)
                      go_wp2_with fail
                      go_round
                      case rel => exact ⟨k1 + 1, rfl, by omega, HL, X2⟩
                      case measure => show 10 - (k1 + 1) < 10 - k1; omega
                · have hk1' : ¬ (k1 : Int) ≤ 9 := by omega
                  have HN := Lib.hid (HL1.out.end1 hk1)
                  clear X0
                  have y0 : wr.cell? ⟨w.heap.size, 0, none⟩ = some (.string ⟨#[]⟩) := (Lib.hid X1.out.z).out.cell 0 _ rfl
                  have yf0 := (Lib.hid X1.out.z).out.free 0 (by simp)
                  have y1 : wr.cell? ⟨w.heap.size, 1, none⟩ = some (.string ⟨#[]⟩) := (Lib.hid X1.out.z).out.cell 1 _ rfl
                  have yf1 := (Lib.hid X1.out.z).out.free 1 (by simp)
                  have y2 : wr.cell? ⟨w.heap.size, 2, none⟩ = some (.int .i64 0) := (Lib.hid X1.out.z).out.cell 2 _ rfl
                  have yf2 := (Lib.hid X1.out.z).out.free 2 (by simp)
                  have y3 : wr.cell? ⟨w.heap.size, 3, none⟩ = some (.int .i64 0) := (Lib.hid X1.out.z).out.cell 3 _ rfl
                  have yf3 := (Lib.hid X1.out.z).out.free 3 (by simp)
                  have y4 : wr.cell? ⟨w.heap.size, 4, none⟩ = some (.int .i64 0) := (Lib.hid X1.out.z).out.cell 4 _ rfl
                  have yf4 := (Lib.hid X1.out.z).out.free 4 (by simp)
                  have y5 : wr.cell? ⟨w.heap.size, 5, none⟩ = some (.int .i64 0) := (Lib.hid X1.out.z).out.cell 5 _ rfl
                  have yf5 := (Lib.hid X1.out.z).out.free 5 (by simp)
                  have y6 : wr.cell? ⟨w.heap.size, 6, none⟩ = some (.int .i64 0) := (Lib.hid X1.out.z).out.cell 6 _ rfl
                  have yf6 := (Lib.hid X1.out.z).out.free 6 (by simp)
                  have yl := (Lib.hid X1.out.z).out.lt
                  go_wp2_with fail
                  refine bodyPost_ret (v := .tuple #[.agg #[.string ⟨#[]⟩, .string ⟨#[]⟩, .int .i64 0, .int .i64 0, .int .i64 0, .int .i64 0, .int .i64 0], .bool false]) (by simp [results, Tryd.results12, go_sem, y0, y1, y2, y3, y4, y5, y6]) rfl ?_
                  exact ⟨none, HN.out, rfl, by repeat (first | with_reducible exact X1.out.b | refine Below.setCell ?_ (by simp) _)⟩
            · have HN := Lib.hid (show Nt.Par s none from fun p hp h => hfar (HG.out p hp h).2.2)
              clear HG
              have y0 : w1.cell? ⟨w.heap.size, 0, none⟩ = some (.string ⟨#[]⟩) := (Lib.hid X0.out.z).out.cell 0 _ rfl
              have yf0 := (Lib.hid X0.out.z).out.free 0 (by simp)
              have y1 : w1.cell? ⟨w.heap.size, 1, none⟩ = some (.string ⟨#[]⟩) := (Lib.hid X0.out.z).out.cell 1 _ rfl
              have yf1 := (Lib.hid X0.out.z).out.free 1 (by simp)
              have y2 : w1.cell? ⟨w.heap.size, 2, none⟩ = some (.int .i64 0) := (Lib.hid X0.out.z).out.cell 2 _ rfl
              have yf2 := (Lib.hid X0.out.z).out.free 2 (by simp)
              have y3 : w1.cell? ⟨w.heap.size, 3, none⟩ = some (.int .i64 0) := (Lib.hid X0.out.z).out.cell 3 _ rfl
              have yf3 := (Lib.hid X0.out.z).out.free 3 (by simp)
              have y4 : w1.cell? ⟨w.heap.size, 4, none⟩ = some (.int .i64 0) := (Lib.hid X0.out.z).out.cell 4 _ rfl
              have yf4 := (Lib.hid X0.out.z).out.free 4 (by simp)
              have y5 : w1.cell? ⟨w.heap.size, 5, none⟩ = some (.int .i64 0) := (Lib.hid X0.out.z).out.cell 5 _ rfl
              have yf5 := (Lib.hid X0.out.z).out.free 5 (by simp)
              have y6 : w1.cell? ⟨w.heap.size, 6, none⟩ = some (.int .i64 0) := (Lib.hid X0.out.z).out.cell 6 _ rfl
              have yf6 := (Lib.hid X0.out.z).out.free 6 (by simp)
              have yl := (Lib.hid X0.out.z).out.lt
              by_cases f1 : 5 < a
              · have e1 : decide ((5 : Int) < (a : Int)) = true := dec_yes (by omega)
                clear hfar hD1 hD2
                go_wp2_with fail
                refine bodyPost_ret (v := .tuple #[.agg #[.string ⟨#[]⟩, .string ⟨#[]⟩, .int .i64 0, .int .i64 0, .int .i64 0, .int .i64 0, .int .i64 0], .bool false]) (by simp [results, Tryd.results12, go_sem, y0, y1, y2, y3, y4, y5, y6]) rfl ?_
                exact ⟨none, HN.out, rfl, by repeat (first | with_reducible exact X0.out.b | refine Below.setCell ?_ (by simp) _)⟩
              · have e1 : decide ((5 : Int) < (a : Int)) = false := dec_no (by omega)
                by_cases f2 : 5 < s.length - b
                · have e2 : decide ((5 : Int) < D1) = true := dec_yes (by omega)
                  clear hfar f2 hD1 hD2
                  go_wp2_with fail
                  refine bodyPost_ret (v := .tuple #[.agg #[.string ⟨#[]⟩, .string ⟨#[]⟩, .int .i64 0, .int .i64 0, .int .i64 0, .int .i64 0, .int .i64 0], .bool false]) (by simp [results, Tryd.results12, go_sem, y0, y1, y2, y3, y4, y5, y6]) rfl ?_
                  exact ⟨none, HN.out, rfl, by repeat (first | with_reducible exact X0.out.b | refine Below.setCell ?_ (by simp) _)⟩
                · have e2 : decide ((5 : Int) < D1) = false := dec_no (by omega)
                  have e3 : decide ((40 : Int) < D2) = true := dec_yes (by omega)
                  clear hfar f2 hD1 hD2
                  go_wp2_with fail
                  refine bodyPost_ret (v := .tuple #[.agg #[.string ⟨#[]⟩, .string ⟨#[]⟩, .int .i64 0, .int .i64 0, .int .i64 0, .int .i64 0, .int .i64 0], .bool false]) (by simp [results, Tryd.results12, go_sem, y0, y1, y2, y3, y4, y5, y6]) rfl ?_
                  exact ⟨none, HN.out, rfl, by repeat (first | with_reducible exact X0.out.b | refine Below.setCell ?_ (by simp) _)⟩
end Go.Proofs.YtjakpdfonnpchaaDoor
