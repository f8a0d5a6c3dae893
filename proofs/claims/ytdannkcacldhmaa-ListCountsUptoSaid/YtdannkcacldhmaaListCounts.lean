/- The walk of the law ListCounts: it returns true of whatever texts, where they are not too great. -/
import Derived.Test.YtdannkcacldhmaaList
import Derived.Test.YtdannkcacldhmaaCut
import Derived.Lib.SplitLaws
namespace Go.Proofs.Ytdannkcacldhmaa
open Go.RowKit

theorem ljoin_fact (w : World) (v : Value) (h : StrsAt w v [[97], [98], [99]]) : Calls Try.prog 22 #[v, .string ⟨#[38]⟩, .string ⟨#[44]⟩, .string ⟨#[59]⟩] w fun e w' => e = .returned (.string ⟨#[97, 44, 98, 59, 99]⟩) ∧ Below w.heap.size w w' := by
  have c := ljoin_more [[97], [98]] [99] v [38] [44] [59] w h (by decide) (by decide) (by decide) (by decide)
  exact c
theorem abc_at (w : World) : StrsAt (w.alloc (.cells #[.string ⟨#[97]⟩, .string ⟨#[98]⟩, .string ⟨#[99]⟩] 9)) (.slice (some ⟨w.heap.size, 0, none⟩) 3 3) [[97], [98], [99]] := by
  refine .inr ⟨w.heap.size, 0, 3, rfl, by decide, by decide, by decide, fun j x hx => ?_⟩
  have hj : j < 3 := (List.getElem?_eq_some_iff.1 hx).1
  have h3 : j = 0 ∨ j = 1 ∨ j = 2 := by omega
  rcases h3 with rfl | rfl | rfl <;> (simp at hx; subst hx; simp)
/-- list.Join at the bar alone -/
theorem ljoin_bar (l : List (List UInt8)) (v : Value) (w : World) (h : StrsAt w v l) (h0 : l ≠ []) (ht : Lib.lens l + l.length ≤ 1048577) :
    Calls Try.prog 22 #[v, .string ⟨#[124]⟩, .string ⟨#[124]⟩, .string ⟨#[124]⟩] w fun e w' => e = .returned (.string ⟨(Lib.join l [124]).toArray⟩) ∧ Below w.heap.size w w' := by
  match l, h, h0, ht with
  | [x], h, _, ht =>
    have c := ljoin_few [x] v [124] [124] [124] w h (by simp) (by omega)
    rw [Lib.join_one] at c
    rw [Lib.join_one]
    exact c
  | [x, y], h, _, ht =>
    have c := ljoin_two x y v [124] [124] [124] w h (by omega) (by simp)
    have e : Lib.join [x, y] [124] = x ++ [124] ++ y := by rw [Lib.join_cons]; simp [Lib.joinTail]
    rw [e]
    exact c
  | x :: y :: z :: r, h, _, ht =>
    have hne : x :: y :: z :: r ≠ [] := by simp
    have el := List.dropLast_concat_getLast hne
    have hl : 2 ≤ ((x :: y :: z :: r).dropLast).length := by simp
    generalize (x :: y :: z :: r).dropLast = L at *
    generalize (x :: y :: z :: r).getLast hne = q at *
    rw [← el] at h ht ⊢
    have hz : (L ++ [q])[L.length]? = some q := by simp
    have ju := Lst.upto_succ (L ++ [q]) [124] q L.length (by omega) hz
    rw [Lst.upto_all _ _ _ (by simp)] at ju
    have jl : Lst.upto (L ++ [q]) [124] L.length = Lib.join L [124] := by unfold Lst.upto; rw [List.take_left]
    rw [jl] at ju
    rw [ju]
    simp only [List.length_append, List.length_singleton] at ht
    exact ljoin_more L q v [124] [124] [124] w h hl (by omega) (by unfold Lst.total; simp only [List.length_append, List.length_singleton]; omega) (by simp)
/-- no bar in it -/
def Free (x : List UInt8) : Prop := x.count 124 = 0
theorem cut_bar (x : List UInt8) : (Lib.split x [124]).length = x.count 124 + 1 := by rw [Spl.split_len (by simp), Lib.count_one]
theorem join_bar (l : List (List UInt8)) (h0 : l ≠ []) (hf : ∀ x ∈ l, Free x) : (Lib.split (Lib.join l [124]) [124]).length = l.length := by
  rw [cut_bar]
  match l, h0, hf with
  | x :: r, _, hf =>
    have g : ∀ m : List (List UInt8), (∀ x ∈ m, Free x) → (Lib.joinTail [124] m).count 124 = m.length := by
      intro m
      induction m with
      | nil => intro _; rfl
      | cons y m ih =>
        intro hy
        have e : Lib.joinTail [124] (y :: m) = [124] ++ y ++ Lib.joinTail [124] m := by simp [Lib.joinTail]
        rw [e, List.count_append, List.count_append, ih (fun z hz => hy z (List.mem_cons_of_mem _ hz)), hy y (List.mem_cons_self ..)]
        simp; omega
    rw [Lib.join_cons, List.count_append, hf x (List.mem_cons_self ..), g r (fun z hz => hf z (List.mem_cons_of_mem _ hz))]
    simp
theorem join_bar_len (l : List (List UInt8)) (ht : Lib.lens l + l.length ≤ 1048577) : (Lib.join l [124]).length ≤ 4000000000 := by
  have := Lst.join_le l [124]
  unfold Lst.total at this
  simp at this
  omega
theorem StrsAt.shape {w : World} {v : Value} {l : List (List UInt8)} (h : StrsAt w v l) : ∃ a cap, v = .slice a l.length cap := by
  rcases h with ⟨rfl, a, cap, rfl⟩ | ⟨b, off, cap, rfl, _⟩
  · exact ⟨a, cap, rfl⟩
  · exact ⟨_, cap, rfl⟩
def MaxW (w : World) : Prop := ∃ m, w.cell? ⟨0, 0, none⟩ = some (.int .i64 m)
theorem MaxW.below {w w' : World} (h : MaxW w) (hb : Below w.heap.size w w') : MaxW w' := h.imp fun _ g => cell_keep g hb
theorem MaxW.alloc {w : World} (h : MaxW w) (o : Obj) : MaxW (w.alloc o) := h.below (blw_alloc w o)

set_option maxRecDepth 100000 in
set_option maxHeartbeats 1000000 in
theorem listCounts_nil (a : Option Addr) (cap : Nat) (more : ByteArray) (w : World) :
    Calls Try.prog 9 #[.slice a 0 cap, .string more] w fun e w' => e = .returned (.bool true) ∧ Below w.heap.size w w' := by
  go_enter Try.func9, Try.ntmps9
  go_wp2_with fail
  refine (ljoin_fact _ _ (abc_at w)).mono ?_
  rintro e w1 ⟨rfl, hb⟩
  have W1 := Lib.hid (blw_trans (blw_alloc _ _) hb)
  clear hb
  go_wp2_with fail
  refine wp_loop_rounds 1 ?_
  rw [rounds_succ]
  go_wp2_with fail
  go_ret
  exact ⟨rfl, W1.out⟩

set_option maxRecDepth 100000 in
set_option maxHeartbeats 1000000 in
theorem listCounts_some (l : List (List UInt8)) (b off cap : Nat) (more : List UInt8) (w : World) (hT : MaxW w) (h0 : 0 < l.length) (h1 : l.length ≤ cap) (h2 : cap ≤ maxLen) (hc : ∀ (j : Nat) x, l[j]? = some x → w.cell? ⟨b, off + j, none⟩ = some (.string ⟨x.toArray⟩)) (hb : Lib.lens l + l.length + more.length ≤ 1048576) :
    Calls Try.prog 9 #[.slice (some ⟨b, off, none⟩) l.length cap, .string ⟨more.toArray⟩] w fun e w' => e = .returned (.bool true) ∧ Below w.heap.size w w' := by
  have HS : Hid (StrsAt w (.slice (some ⟨b, off, none⟩) l.length cap) l) := .inr ⟨b, off, cap, rfl, h0, h1, h2, hc⟩
  have HC := Lib.hid hc
  have HM := Lib.hid h2
  have HX := Lib.hid fun j x (hx : l[j]? = some x) => Lst.lens_at l j x hx
  clear hc h2
  unfold maxLen at HM
  have hcap := HM.out
  go_enter Try.func9, Try.ntmps9
  go_wp2_with fail
  refine (ljoin_fact _ _ (abc_at w)).mono ?_
  rintro e w1 ⟨rfl, hb1⟩
  have W1 := Lib.hid (blw_trans (blw_alloc _ _) hb1)
  have S1 := Lib.hid ((HS.out.alloc _).below hb1)
  have T1 := (hT.alloc _).below hb1
  clear hb1
  go_wp2_with fail
  go_loopw [6] (fun i wr => ∃ k : Nat, k ≤ l.length ∧ i = .int .i64 k ∧ Hid (Below w.heap.size w wr) ∧ Hid (∀ (j : Nat) x, j < k → l[j]? = some x → Free x)) (fun i _ => l.length - (RowKit.intOf i).toNat)
  case atStart => exact ⟨0, Nat.zero_le _, rfl, W1, fun j x hj _ => by omega⟩
  case round =>
    obtain ⟨k, hk, rfl, HB, HF⟩ := hrel
    by_cases hlt : k < l.length
    · obtain ⟨x, hx⟩ : ∃ x, l[k]? = some x := ⟨_, List.getElem?_eq_getElem hlt⟩
      have hxl := HX.out k x hx
      have ck := cell_keep (HC.out k x hx) HB.out
      have CX := Lib.hid fun w => cut_any x [124] w (by simp) (by omega) (by simp)
      have CL := Lib.hid (cut_bar x)
      by_cases hf : Free x
      · have HF' : Hid (∀ (j : Nat) x, j < k + 1 → l[j]? = some x → Free x) := fun j y hj hy => by
          by_cases e : j = k
          · subst e; rw [hx] at hy; obtain rfl := Option.some.inj hy; exact hf
          · exact HF.out j y (by omega) hy
        have CL1 : Hid ((Lib.split x [124]).length = 1) := by have := CL.out; unfold Free at hf; rw [hf] at this; exact this
        clear hf HF hx CL
        go_wp2_with fail
        refine (CX.out _).mono ?_
        rintro e w2 ⟨u, rfl, hS, hb2⟩
        have HB2 := Lib.hid (HB.out.trans (hb2.mono HB.out.size))
        obtain ⟨ua, uc, rfl⟩ := hS.shape
        rw [CL1.out]
        clear hS hb2 HB ck
        go_wp2_with fail
        go_roundw
        case rel => exact ⟨k + 1, by omega, by go_num, HB2, HF'⟩
        case measure => simp [RowKit.intOf]; omega
      · have CL1 : 1 < (Lib.split x [124]).length := by have := CL.out; unfold Free at hf; omega
        clear hf HF hx CL
        go_wp2_with fail
        refine (CX.out _).mono ?_
        rintro e w2 ⟨u, rfl, hS, hb2⟩
        have HB2 := Lib.hid (HB.out.trans (hb2.mono HB.out.size))
        obtain ⟨ua, uc, rfl⟩ := hS.shape
        generalize (Lib.split x [124]).length = n at *
        clear hS hb2 HB ck
        go_wp2_with fail
        go_ret
        exact ⟨rfl, HB2.out⟩
    · have hkl : k = l.length := by omega
      subst hkl
      have FA : Hid (∀ x ∈ l, Free x) := fun x hx => by
        obtain ⟨j, hj, e⟩ := List.getElem_of_mem hx
        exact HF.out j x hj (by rw [List.getElem?_eq_getElem hj, e])
      clear HF
      have ne0 : ((l.length : Int) == 0) = false := beq_no (by omega)
      have hne : l ≠ [] := fun g => by rw [g] at h0; simp at h0
      have SR := Lib.hid (HS.out.below HB.out)
      have TR := hT.below HB.out
      have CX := Lib.hid fun w => cut_any more [124] w (by simp) (by omega) (by simp)
      have CL := Lib.hid (cut_bar more)
      by_cases hf : Free more
      · have CL1 : Hid ((Lib.split more [124]).length = 1) := by have := CL.out; unfold Free at hf; rw [hf] at this; exact this
        have CJ := Lib.hid fun w h => ljoin_bar l (.slice (some ⟨b, off, none⟩) l.length cap) w h hne (by omega)
        have CC := Lib.hid fun m w hm => lcount_yes (Lib.join l [124]) [124] m w hm (by simp) (join_bar_len l (by omega))
        have JL := Lib.hid (join_bar l hne FA.out)
        have hlen : Lib.lens (l ++ [more]) + (l ++ [more]).length ≤ 1048577 := by
          have e : Lib.lens (l ++ [more]) = Lib.lens l + more.length := by simp [Lib.lens]
          rw [e]; simp; omega
        have CJ2 := Lib.hid fun v w h => ljoin_bar (l ++ [more]) v w h (by simp) hlen
        have CC2 := Lib.hid fun m w hm => lcount_yes (Lib.join (l ++ [more]) [124]) [124] m w hm (by simp) (join_bar_len _ hlen)
        have JL2 := Lib.hid (join_bar (l ++ [more]) (by simp) (fun x hx => by
          rcases List.mem_append.1 hx with g | g
          · exact FA.out x g
          · rw [List.mem_singleton.1 g]; exact hf))
        generalize Lib.join l [124] = J at *
        generalize Lib.join (l ++ [more]) [124] = J2 at *
        clear hf CL FA hlen hne
        obtain ⟨i0, hi, hz0, hz1, hz2⟩ := info_parts infoStr
        go_wp2_with fail
        refine (CX.out _).mono ?_
        rintro e w2 ⟨u, rfl, hS, hb2⟩
        have HB2 := Lib.hid (HB.out.trans (hb2.mono HB.out.size))
        obtain ⟨ua, uc, rfl⟩ := hS.shape
        rw [CL1.out]
        have S2 := Lib.hid (SR.out.below hb2)
        have T2 := TR.below hb2
        clear hS hb2 HB SR TR
        go_wp2_with fail
        refine (CJ.out _ S2.out).mono ?_
        rintro e w3 ⟨rfl, hb3⟩
        have HB3 := Lib.hid (HB2.out.trans (hb3.mono HB2.out.size))
        have T3 := T2.below hb3
        clear hb3 HB2 T2 S2
        obtain ⟨m3, hm3⟩ := T3
        go_wp2_with fail
        refine (CC.out m3 _ hm3).mono ?_
        rintro e w' ⟨rfl, rfl⟩
        rw [JL.out]
        have hown : (w3.alloc (.cells #[] 9)).ownsRow w3.heap.size 9 1 (.slice (some ⟨w3.heap.size, 0, none⟩) 0 0) 0 [] := ⟨rfl, .inr ⟨w3.heap.size, 0, #[], rfl, Nat.le_refl _, by show (w3.heap.push _)[w3.heap.size]? = _; simp, Nat.le_refl _, by decide, rfl, rfl⟩⟩
        have hnews : ∀ (j : Nat) u, (l.map txtV)[j]? = some u → (w3.alloc (.cells #[] 9)).cell? ((⟨b, off, none⟩ : Addr).add j) = some u := fun j u hu => by
          rw [List.getElem?_map] at hu
          obtain ⟨x, hx, rfl⟩ := Option.map_eq_some_iff.1 hu
          have g := HC.out j x hx
          rw [← Go.WideShapes.add_plain] at g
          exact cell_keep ((HB3.out.cell (World.block_lt_of_cell? w _ g)).trans g) (blw_alloc _ _)
        have hll := hb
        go_wp2_with (first | (at_builtin; refine wpList_append_own _ rfl _ _ 45 rfl w3.heap.size 9 i0 (.string ByteArray.empty) 1 16 Try.underlying45 hi hz0 hz1 hz2 rfl (by decide) _ _ _ rfl hown ⟨b, off, none⟩ l.length cap (l.map txtV) rfl (by simp) hnews (fun x hx => by obtain ⟨y, _, rfl⟩ := List.mem_map.1 hx; rfl) (by unfold maxLen; omega) (by omega) (by simp) ?_; intro v1 w4 hown1 hgrow1 _) | (at_builtin; refine wpList_append_own _ rfl _ _ 45 rfl w3.heap.size 9 i0 (.string ByteArray.empty) 1 16 Try.underlying45 hi hz0 hz1 hz2 rfl (by decide) _ _ _ rfl (hown1.alloc _) ⟨w4.heap.size, 0, none⟩ 1 1 [txtV more] rfl rfl (cell_one_new _ _ _) (fun x hx => by simp at hx; subst hx; rfl) (by unfold maxLen; omega) (by omega) (by have := hgrow1.size; simp at this; simp; omega) ?_; intro v2 w5 hown2 hgrow2 _))
        have B34 : Below w3.heap.size w3 w4 := (blw_alloc w3 (.cells #[] 9)).grown hgrow1 (by simp) (fun k hk => (hown.lt k hk).1)
        have B35 : Below w3.heap.size w3 w5 := (B34.alloc B34.size _).grown hgrow2 (by have := B34.size; simp; omega) (fun k hk => (hown1.lt k hk).1)
        have HB5 := Lib.hid (HB3.out.trans (B35.mono HB3.out.size))
        have hm5 := cell_keep hm3 B35
        have S5 := Lib.hid (StrsAt.of_row (l := l ++ [more]) (show w5.ownsRow w3.heap.size 9 1 v2 (0 + l.length + 1) ((l ++ [more]).map txtV) by simpa using hown2))
        clear B34 B35 hown hown1 hown2 hgrow1 hgrow2 hnews HB3 hm3
        go_wp2_with fail
        refine (CJ2.out _ _ S5.out).mono ?_
        rintro e w6 ⟨rfl, hb6⟩
        have HB6 := Lib.hid (HB5.out.trans (hb6.mono HB5.out.size))
        have hm6 := cell_keep hm5 hb6
        clear hb6 HB5 hm5
        go_wp2_with fail
        refine (CC2.out m3 _ hm6).mono ?_
        rintro e w' ⟨rfl, rfl⟩
        rw [JL2.out, List.length_append, List.length_singleton]
        go_wp2_with fail
        go_ret
        exact ⟨ret_bool (by simp), HB6.out⟩
      · have CL1 : 1 < (Lib.split more [124]).length := by have := CL.out; unfold Free at hf; omega
        clear hf CL FA
        go_wp2_with fail
        refine (CX.out _).mono ?_
        rintro e w2 ⟨u, rfl, hS, hb2⟩
        have HB2 := Lib.hid (HB.out.trans (hb2.mono HB.out.size))
        obtain ⟨ua, uc, rfl⟩ := hS.shape
        generalize (Lib.split more [124]).length = n at *
        clear hS hb2 HB SR TR
        go_wp2_with fail
        go_ret
        exact ⟨rfl, HB2.out⟩

theorem listCounts_any (l : List (List UInt8)) (a : Option Addr) (n cap : Nat) (more : ByteArray) (w : World) (hT : MaxW w) (h : StrsAt w (.slice a n cap) l) (hb : Lib.lens l + l.length + more.size ≤ 1048576) :
    Calls Try.prog 9 #[.slice a n cap, .string more] w fun e w' => e = .returned (.bool true) ∧ Below w.heap.size w w' := by
  obtain ⟨⟨more⟩⟩ := more
  rcases h with ⟨rfl, a', cap', e⟩ | ⟨b, off, c, e, h0, h1, h2, h3⟩
  · injection e with e1 e2 e3
    subst e1 e2 e3
    exact listCounts_nil _ _ _ w
  · injection e with e1 e2 e3
    subst e1 e2 e3
    exact listCounts_some l b off cap more w hT h0 h1 h2 h3 hb
end Go.Proofs.Ytdannkcacldhmaa
