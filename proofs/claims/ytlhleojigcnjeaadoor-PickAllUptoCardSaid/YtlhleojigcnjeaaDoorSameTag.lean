/- The walks of linguistersame.Texts and Tag: are two the same? -/
import Derived.Test.YtlhleojigcnjeaaDoorTagFlt
import Derived.OwnWalk
namespace Go.Proofs.YtlhleojigcnjeaaDoor
open Go.RowKit

set_option maxRecDepth 100000 in
set_option maxHeartbeats 1000000 in
theorem texts_far (a b : Option Addr) (n m ca cb : Nat) (w : World) (h : n ≠ m) :
    Calls Tryd.prog 21 #[.slice a n ca, .slice b m cb] w fun e w' => e = .returned (.bool false) ∧ Drew w w' := by
  have q1 : ((n : Int) == (m : Int)) = false := beq_no (by omega)
  have q2 : ((n : Int) != (m : Int)) = true := by rw [bne, q1]; rfl
  clear h
  go_enter Tryd.func21, Tryd.ntmps21
  go_wp2
  go_ret
  exact ⟨rfl, Drew.refl _⟩
set_option maxRecDepth 100000 in
set_option maxHeartbeats 1000000 in
theorem texts_none (a b : Option Addr) (ca cb : Nat) (w : World) :
    Calls Tryd.prog 21 #[.slice a 0 ca, .slice b 0 cb] w fun e w' => e = .returned (.bool true) ∧ Drew w w' := by
  go_enter Tryd.func21, Tryd.ntmps21
  go_wp2_with fail
  refine wp_loop_rounds 1 ?_
  rw [rounds_succ]
  go_wp2_with fail
  go_ret
  exact ⟨rfl, Drew.refl _⟩
set_option maxRecDepth 100000 in
set_option maxHeartbeats 1000000 in
theorem texts_some (la lb : List (List UInt8)) (n b off cap b' off' cap' : Nat) (w : World) (hla : la.length = n) (hlb : lb.length = n) (h1 : n ≤ cap) (h2 : cap ≤ maxLen)
    (hc : ∀ (j : Nat) x, la[j]? = some x → w.cell? ⟨b, off + j, none⟩ = some (.string ⟨x.toArray⟩)) (hc' : ∀ (j : Nat) x, lb[j]? = some x → w.cell? ⟨b', off' + j, none⟩ = some (.string ⟨x.toArray⟩)) :
    Calls Tryd.prog 21 #[.slice (some ⟨b, off, none⟩) n cap, .slice (some ⟨b', off', none⟩) n cap'] w fun e w' => e = .returned (.bool (decide (la = lb))) ∧ Drew w w' := by
  generalize HPOST : decide (la = lb) = POST
  have HP := Lib.hid HPOST
  have HC := Lib.hid hc
  have HC' := Lib.hid hc'
  have HA := Lib.hid hla
  have HB := Lib.hid hlb
  unfold maxLen at h2
  clear HPOST hc hc' hla hlb
  go_enter Tryd.func21, Tryd.ntmps21
  go_wp2_with fail
  go_loopw [5] (fun i wr => ∃ k : Nat, i = .int .i64 k ∧ k ≤ n ∧ Hid (Drew w wr) ∧ Hid (la.take k = lb.take k)) (fun i _ => n - (RowKit.intOf i).toNat)
  case atStart => exact ⟨0, rfl, Nat.zero_le _, Drew.refl _, Lib.hid rfl⟩
  case round =>
    obtain ⟨k, rfl, hk, HD, HE⟩ := hrel
    by_cases hlt : k < n
    · obtain ⟨x, hx⟩ : ∃ x, la[k]? = some x := ⟨la[k]'(by have := HA.out; omega), List.getElem?_eq_getElem (by have := HA.out; omega)⟩
      obtain ⟨y, hy⟩ : ∃ y, lb[k]? = some y := ⟨lb[k]'(by have := HB.out; omega), List.getElem?_eq_getElem (by have := HB.out; omega)⟩
      have xc := cell_keep (HC.out k x hx) HD.out.below
      have yc := cell_keep (HC'.out k y hy) HD.out.below
      have HX := Lib.hid hx
      have HY := Lib.hid hy
      clear hx hy
      have k0 : (0 : Int) ≤ (k : Int) := by omega
      have k1 : (k : Int) < (n : Int) := by omega
      by_cases e : x = y
      · subst e
        have HE2 := Lib.hid (show la.take (k + 1) = lb.take (k + 1) by rw [List.take_add_one, List.take_add_one, HX.out, HY.out, HE.out])
        go_wp2_with fail
        go_quiet (fail)
        go_wp2_with fail
        go_roundw
        case rel => exact ⟨k + 1, by go_num, by omega, Lib.hid (HD.out.drewN _), HE2⟩
        case measure => simp [RowKit.intOf]; omega
      · have q1 : (x == y) = false := beq_eq_false_iff_ne.2 e
        have q2 : (x != y) = true := by rw [bne, q1]; rfl
        have HF := Lib.hid (show POST = false by
          rw [← HP.out]
          refine decide_eq_false fun g => e ?_
          have := HX.out
          rw [g, HY.out] at this
          exact (Option.some.inj this).symm)
        clear e
        go_wp2_with fail
        go_quiet (fail)
        go_wp2_with fail
        go_ret
        exact ⟨ret_bool HF.out.symm, HD.out.drewN _⟩
    · have HF := Lib.hid (show POST = true by
        rw [← HP.out]
        have h := HE.out
        have a := HA.out
        have b := HB.out
        rw [List.take_of_length_le (by omega), List.take_of_length_le (by omega)] at h
        exact decide_eq_true h)
      go_wp2_with fail
      go_ret
      exact ⟨ret_bool HF.out.symm, HD.out⟩
theorem StrsAt.len {w : World} {v : Value} {l : List (List UInt8)} (h : StrsAt w v l) (hl : l.length ≤ maxLen) : ∃ a cap, v = .slice a l.length cap := by
  rcases h with ⟨rfl, a, cap, rfl⟩ | ⟨b, off, cap, rfl, _⟩
  · exact ⟨a, cap, rfl⟩
  · exact ⟨_, cap, rfl⟩
theorem texts_any (la lb : List (List UInt8)) (va vb : Value) (w : World) (ha : StrsAt w va la) (hb : StrsAt w vb lb) (na : la.length ≤ maxLen) (nb : lb.length ≤ maxLen) :
    Calls Tryd.prog 21 #[va, vb] w fun e w' => e = .returned (.bool (decide (la = lb))) ∧ Drew w w' := by
  by_cases hl : la.length = lb.length
  · rcases ha with ⟨rfl, a, ca, rfl⟩ | ⟨b, off, cap, rfl, h0, h1, h2, hc⟩
    · obtain rfl : lb = [] := List.length_eq_zero_iff.1 hl.symm
      obtain ⟨a', ca', rfl⟩ := hb.len nb
      exact texts_none a a' ca ca' w
    · rcases hb with ⟨rfl, a, ca, rfl⟩ | ⟨b', off', cap', rfl, h0', _, _, hc'⟩
      · simp at hl; rw [hl] at h0; simp at h0
      · rw [hl] at h1 ⊢
        exact texts_some la lb _ b off cap b' off' cap' w hl rfl h1 h2 hc hc'
  · obtain ⟨a, ca, rfl⟩ := ha.len na
    obtain ⟨b, cb, rfl⟩ := hb.len nb
    rw [decide_eq_false (fun e => hl (by rw [e]))]
    exact texts_far a b _ _ ca cb w hl

set_option maxRecDepth 100000 in
set_option maxHeartbeats 2000000 in
theorem sameTag_any (l s r l' s' r' : List UInt8) (vs vs' : List (List UInt8)) (V V' : Value) (w : World) (hV : StrsAt w V vs) (hV' : StrsAt w V' vs') (nv : vs.length ≤ maxLen) (nv' : vs'.length ≤ maxLen) :
    Calls Tryd.prog 18 #[.agg #[.string ⟨l.toArray⟩, .string ⟨s.toArray⟩, .string ⟨r.toArray⟩, V], .agg #[.string ⟨l'.toArray⟩, .string ⟨s'.toArray⟩, .string ⟨r'.toArray⟩, V']] w fun e w' => e = .returned (.bool (decide (vs = vs') && (l == l') && (s == s') && (r == r'))) ∧ Below w.heap.size w w' := by
  have CT := Lib.hid fun w h h' => texts_any vs vs' V V' w h h' nv nv'
  have HV := Lib.hid hV
  have HV' := Lib.hid hV'
  clear hV hV'
  generalize decide (vs = vs') = B at *
  cases B <;> cases h1 : (l == l') <;> cases h2 : (s == s') <;> cases h3 : (r == r') <;>
    (go_enter Tryd.func18, Tryd.ntmps18
     go_wp2_with fail
     refine (CT.out _ ((HV.out.alloc _).alloc _) ((HV'.out.alloc _).alloc _)).mono ?_
     rintro e w1 ⟨rfl, hD⟩
     have hb := hD.below
     have W1 := Lib.hid (blw_trans (blw_trans (blw_alloc w _) (blw_alloc _ _)) hb)
     have k0 := cell_keep (a := ⟨w.heap.size, 0, none⟩) (v := .string ⟨l.toArray⟩) (by simp [go_sem]) hb
     have k1 := cell_keep (a := ⟨w.heap.size, 1, none⟩) (v := .string ⟨s.toArray⟩) (by simp [go_sem]) hb
     have k2 := cell_keep (a := ⟨w.heap.size, 2, none⟩) (v := .string ⟨r.toArray⟩) (by simp [go_sem]) hb
     have j0 := cell_keep (a := ⟨w.heap.size + 1, 0, none⟩) (v := .string ⟨l'.toArray⟩) (by simp [go_sem]) hb
     have j1 := cell_keep (a := ⟨w.heap.size + 1, 1, none⟩) (v := .string ⟨s'.toArray⟩) (by simp [go_sem]) hb
     have j2 := cell_keep (a := ⟨w.heap.size + 1, 2, none⟩) (v := .string ⟨r'.toArray⟩) (by simp [go_sem]) hb
     clear hb hD
     go_wp2_with fail
     go_ret
     exact ⟨ret_bool (by simp), W1.out⟩)
end Go.Proofs.YtlhleojigcnjeaaDoor
