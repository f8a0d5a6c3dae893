/- The walk of chain.less: a tag without its last part. Condition: the tag has at most 1000000000 variants. -/
import Derived.Test.YtlhleojigcnjeaaDoorChSt
namespace Go.Proofs.YtlhleojigcnjeaaDoor
open Go.RowKit

def LessPost (w : World) (l s r : List UInt8) (vs : List (List UInt8)) (V : Value) (is : Bool) (e : Ending) (w' : World) : Prop :=
  ∃ a n c, e = .returned (.tuple #[.agg #[.string ⟨l.toArray⟩, .string ⟨s.toArray⟩, .string ⟨r.toArray⟩, .slice a n c], .bool is]) ∧ StrsAt w' (.slice a n c) vs ∧ Nil0 (.slice a n c) ∧ (∀ q, q < w.heap.size → NotRow (some q) V → NotRow (some q) (.slice a n c)) ∧ Below w.heap.size w w'

set_option maxRecDepth 100000 in
set_option maxHeartbeats 2000000 in
theorem less_v (l s r : List UInt8) (vs : List (List UInt8)) (ad : Addr) (cap : Nat) (w : World) (hn : 0 < vs.length) (hl : vs.length ≤ 1000000000) (hc : vs.length ≤ cap)
    (hv : ∀ (j : Nat) u, (vs.map txtV)[j]? = some u → w.cell? (ad.add j) = some u) :
    Calls Tryd.prog 53 #[.agg #[.string ⟨l.toArray⟩, .string ⟨s.toArray⟩, .string ⟨r.toArray⟩, .slice (some ad) vs.length cap]] w (LessPost w l s r (vs.take (vs.length - 1)) (.slice (some ad) vs.length cap) true) := by
  obtain ⟨i0, hi, hz0, hz1, hz2⟩ := info_parts infoStr
  obtain ⟨b, hbx⟩ : ∃ b, b = w.heap.size := ⟨_, rfl⟩
  have HV := Lib.hid (show ∀ wx, Below w.heap.size w wx → ∀ (j : Nat) u, ((vs.take (vs.length - 1)).map txtV)[j]? = some u → wx.cell? (ad.add j) = some u from fun wx hb j u hu => cell_keep (hv j u (by
    have hj := (List.getElem?_eq_some_iff.1 hu).1
    rw [List.length_map, List.length_take] at hj
    rw [List.map_take, List.getElem?_take, if_pos (by omega)] at hu
    exact hu)) hb)
  have HL := Lib.hid (show ((vs.take (vs.length - 1)).map txtV).length = (vs.length - 1) * 1 by rw [List.length_map, List.length_take]; omega)
  have HTL := Lib.hid (show (vs.take (vs.length - 1)).length = vs.length - 1 by rw [List.length_take]; omega)
  generalize vs.take (vs.length - 1) = vt at *
  clear hv
  have hgt : (((vs.length : Nat) : Int) > 0) := by omega
  generalize vs.length = N at *
  obtain ⟨M, rfl⟩ : ∃ M, N = M + 1 := ⟨N - 1, by omega⟩
  rw [Nat.add_sub_cancel] at HL HTL
  have OM := own_made (w := (w.alloc (.cells #[.string ⟨l.toArray⟩, .string ⟨s.toArray⟩, .string ⟨r.toArray⟩, .slice (some ad) (M + 1) cap] 24)).alloc (.cells #[.string ByteArray.empty, .string ByteArray.empty, .string ByteArray.empty, .slice none 0 0] 24)) (base := w.heap.size + 2) (q := w.heap.size + 1 + 1) (by omega) (by simp) [] 9 (by unfold maxLen; simp)
  have B1 : Boxed (((w.alloc (.cells #[.string ⟨l.toArray⟩, .string ⟨s.toArray⟩, .string ⟨r.toArray⟩, .slice (some ad) (M + 1) cap] 24)).alloc (.cells #[.string ByteArray.empty, .string ByteArray.empty, .string ByteArray.empty, .slice none 0 0] 24)).alloc (.cells ([] : List Value).toArray 9)) w.heap.size #[.string ⟨l.toArray⟩, .string ⟨s.toArray⟩, .string ⟨r.toArray⟩, .slice (some ad) (M + 1) cap] := ((Boxed.made _ _ _).alloc _).alloc _
  have B2 : Boxed (((w.alloc (.cells #[.string ⟨l.toArray⟩, .string ⟨s.toArray⟩, .string ⟨r.toArray⟩, .slice (some ad) (M + 1) cap] 24)).alloc (.cells #[.string ByteArray.empty, .string ByteArray.empty, .string ByteArray.empty, .slice none 0 0] 24)).alloc (.cells ([] : List Value).toArray 9)) (w.heap.size + 1) #[.string ByteArray.empty, .string ByteArray.empty, .string ByteArray.empty, .slice none 0 0] := ((Boxed.made (w.alloc (.cells #[.string ⟨l.toArray⟩, .string ⟨s.toArray⟩, .string ⟨r.toArray⟩, .slice (some ad) (M + 1) cap] 24)) _ _).at (by simp)).alloc _
  have W0 : Below w.heap.size w (((w.alloc (.cells #[.string ⟨l.toArray⟩, .string ⟨s.toArray⟩, .string ⟨r.toArray⟩, .slice (some ad) (M + 1) cap] 24)).alloc (.cells #[.string ByteArray.empty, .string ByteArray.empty, .string ByteArray.empty, .slice none 0 0] 24)).alloc (.cells ([] : List Value).toArray 9)) := blw_trans (blw_trans (blw_alloc _ _) (blw_alloc _ _)) (blw_alloc _ _)
  have HB := Lib.hid (And.intro B1 (And.intro B2 W0))
  clear B1 B2 W0
  go_enter Tryd.func53, Tryd.ntmps53
  go_wp2_with (at_builtin; refine wpList_append_own_at _ rfl (.tmp 12) (.tmp 17) 22 rfl (w.heap.size + 2) 9 i0 (.string ByteArray.empty) 1 16 Tryd.underlying22 hi hz0 hz1 hz2 rfl (by decide) _ 0 [] rfl (show World.ownsRow _ _ _ _ (.slice (some ⟨w.heap.size + 1 + 1, 0, none⟩) 0 0) 0 [] from OM) ad M cap (vt.map txtV) rfl HL.out (HV.out _ HB.out.2.2) (fun x hx => by obtain ⟨y, _, rfl⟩ := List.mem_map.1 hx; rfl) (by unfold maxLen; omega) (by omega) (by simp) ?_; intro v' w2 hown hgrow _ _; have HOW := Lib.hid hown; have hg2 := (show World.grownBy _ _ (some (w.heap.size + 1 + 1)) from hgrow); have C1 := Lib.hid (HB.out.1.grown hg2 (by intro e; injection e with e; omega)); have C2 := Lib.hid (HB.out.2.1.grown hg2 (by intro e; injection e with e; omega)); have CB := Lib.hid (HB.out.2.2.grown hg2 (by simp; omega) (fun k hk => by injection hk with hk; omega)); clear hown hgrow hg2 OM; have HN7 := Lib.hid (Nil0.of_row HOW.out); have HF7 := Lib.hid (FarV.of_row HOW.out); have HV7 := Lib.hid (show StrsAt w2 v' vt from StrsAt.of_row (by have h7 := HOW.out; rw [List.nil_append] at h7; exact h7)); clear HOW; obtain ⟨x0, n0, cp0, rfl⟩ := HV7.out.isSlice; have k0 := C1.out.cell 0 _ rfl; have k1 := C1.out.cell 1 _ rfl; have k2 := C1.out.cell 2 _ rfl; have k3 := C1.out.cell 3 _ rfl; have f3 := C1.out.free 3 (by simp); have rc0 := C2.out.cell 0 _ rfl; have rc1 := C2.out.cell 1 _ rfl; have rc2 := C2.out.cell 2 _ rfl; have rc3 := C2.out.cell 3 _ rfl; have rf0 := C2.out.free 0 (by simp); have rf1 := C2.out.free 1 (by simp); have rf2 := C2.out.free 2 (by simp); have rf3 := C2.out.free 3 (by simp))
  refine bodyPost_ret (v := .tuple #[.agg #[.string ⟨l.toArray⟩, .string ⟨s.toArray⟩, .string ⟨r.toArray⟩, .slice x0 n0 cp0], .bool true]) (by simp [results, Tryd.results53, go_sem, rc0, rc1, rc2, rc3]) rfl ?_
  refine ⟨x0, n0, cp0, rfl, ?_, HN7.out, fun q hq _ => HF7.out.not (by omega), ?_⟩
  · repeat (first | with_reducible exact HV7.out | refine StrsAt.setCell ?_ HF7.out _ (by simp) _)
  · repeat (first | with_reducible exact CB.out | refine Below.setCell ?_ (by simp) _)

set_option maxRecDepth 100000 in
set_option maxHeartbeats 2000000 in
theorem less_r (l s r : List UInt8) (a : Option Addr) (c : Nat) (w : World) (h0 : Nil0 (.slice a 0 c)) (hr : r.isEmpty = false) :
    Calls Tryd.prog 53 #[.agg #[.string ⟨l.toArray⟩, .string ⟨s.toArray⟩, .string ⟨r.toArray⟩, .slice a 0 c]] w (LessPost w l s [] [] (.slice a 0 c) true) := by
  go_enter Tryd.func53, Tryd.ntmps53
  go_wp2_with fail
  refine bodyPost_ret (v := .tuple #[.agg #[.string ⟨l.toArray⟩, .string ⟨s.toArray⟩, .string ⟨#[]⟩, .slice a 0 c], .bool true]) (by simp [results, Tryd.results53, go_sem]) rfl ?_
  refine ⟨a, 0, c, rfl, .inl ⟨rfl, _, _, rfl⟩, h0, fun q hq h => h, ?_⟩
  repeat (first | exact Below.refl _ _ | refine Below.setCell ?_ (by simp) _ | refine Below.alloc ?_ (by simp) _)

set_option maxRecDepth 100000 in
set_option maxHeartbeats 2000000 in
theorem less_s (l s : List UInt8) (a : Option Addr) (c : Nat) (w : World) (h0 : Nil0 (.slice a 0 c)) (hs : s.isEmpty = false) :
    Calls Tryd.prog 53 #[.agg #[.string ⟨l.toArray⟩, .string ⟨s.toArray⟩, .string ⟨#[]⟩, .slice a 0 c]] w (LessPost w l [] [] [] (.slice a 0 c) true) := by
  go_enter Tryd.func53, Tryd.ntmps53
  go_wp2_with fail
  refine bodyPost_ret (v := .tuple #[.agg #[.string ⟨l.toArray⟩, .string ⟨#[]⟩, .string ⟨#[]⟩, .slice a 0 c], .bool true]) (by simp [results, Tryd.results53, go_sem]) rfl ?_
  refine ⟨a, 0, c, rfl, .inl ⟨rfl, _, _, rfl⟩, h0, fun q hq h => h, ?_⟩
  repeat (first | exact Below.refl _ _ | refine Below.setCell ?_ (by simp) _ | refine Below.alloc ?_ (by simp) _)

set_option maxRecDepth 100000 in
set_option maxHeartbeats 2000000 in
theorem less_n (l : List UInt8) (a : Option Addr) (c : Nat) (w : World) (h0 : Nil0 (.slice a 0 c)) :
    Calls Tryd.prog 53 #[.agg #[.string ⟨l.toArray⟩, .string ⟨#[]⟩, .string ⟨#[]⟩, .slice a 0 c]] w (LessPost w l [] [] [] (.slice a 0 c) false) := by
  go_enter Tryd.func53, Tryd.ntmps53
  go_wp2_with fail
  refine bodyPost_ret (v := .tuple #[.agg #[.string ⟨l.toArray⟩, .string ⟨#[]⟩, .string ⟨#[]⟩, .slice a 0 c], .bool false]) (by simp [results, Tryd.results53, go_sem]) rfl ?_
  refine ⟨a, 0, c, rfl, .inl ⟨rfl, _, _, rfl⟩, h0, fun q hq h => h, ?_⟩
  repeat (first | exact Below.refl _ _ | refine Below.setCell ?_ (by simp) _ | refine Below.alloc ?_ (by simp) _)

theorem less_any (t : Tg) (V : Value) (w : World) (hV : StrsAt w V t.vs) (h0 : Nil0 V) (hl : t.vs.length ≤ 1000000000) :
    Calls Tryd.prog 53 #[.agg #[.string ⟨t.l.toArray⟩, .string ⟨t.s.toArray⟩, .string ⟨t.r.toArray⟩, V]] w (LessPost w (t.less.getD t).l (t.less.getD t).s (t.less.getD t).r (t.less.getD t).vs V t.less.isSome) := by
  obtain ⟨l, s, r, vs⟩ := t
  dsimp only at hV hl
  rcases hV with ⟨rfl, a, cap, rfl⟩ | ⟨b, off, cap, rfl, hn, hc, _, hcell⟩
  · by_cases hr : r = []
    · subst hr
      by_cases hs : s = []
      · subst hs; exact less_n l a cap w h0
      · have e : (⟨l, s, [], []⟩ : Tg).less = some ⟨l, [], [], []⟩ := by unfold Tg.less; rw [if_neg (by simp), if_pos rfl, if_neg hs]
        rw [e]
        exact less_s l s a cap w h0 (by cases s with | nil => exact absurd rfl hs | cons _ _ => rfl)
    · have e : (⟨l, s, r, []⟩ : Tg).less = some ⟨l, s, [], []⟩ := by unfold Tg.less; rw [if_neg (by simp), if_neg hr]
      rw [e]
      exact less_r l s r a cap w h0 (by cases r with | nil => exact absurd rfl hr | cons _ _ => rfl)
  · have e : (⟨l, s, r, vs⟩ : Tg).less = some ⟨l, s, r, vs.take (vs.length - 1)⟩ := by unfold Tg.less; rw [if_pos hn]
    rw [e]
    exact less_v l s r vs ⟨b, off, none⟩ cap w hn hl hc (fun j u hu => by
      rw [List.getElem?_map] at hu
      obtain ⟨x, hx, rfl⟩ := Option.map_eq_some_iff.1 hu
      rw [show (⟨b, off, none⟩ : Addr).add j = ⟨b, off + j, none⟩ from Go.WideShapes.add_plain ..]
      exact hcell j x hx)
end Go.Proofs.YtlhleojigcnjeaaDoor
