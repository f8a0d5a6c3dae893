/- The walk of tag.Text: it tells what linguisterref1.TagText tells. -/
import Derived.Test.YtlhleojigcnjeaaDoorConcat
import Derived.Test.YtlhleojigcnjeaaDoorRtagText
import Derived.Test.YtlhleojigcnjeaaDoorSjoin
namespace Go.Proofs.YtlhleojigcnjeaaDoor
open Go.RowKit

set_option maxRecDepth 100000 in
set_option maxHeartbeats 2000000 in
theorem text_nil (l s r : List UInt8) (w : World) (bt : l.length + s.length + r.length + Lib.lens ([] : List (List UInt8)) + ([] : List (List UInt8)).length ≤ 100000000) :
    Calls Tryd.prog 15 #[.agg #[.string ⟨l.toArray⟩, .string ⟨s.toArray⟩, .string ⟨r.toArray⟩, .slice none 0 0]] w fun e w' => e = .returned (.string ⟨(tagText l s r ([] : List (List UInt8))).toArray⟩) ∧ Below w.heap.size w w' := by
  have ps := parts_small l s r ([] : List (List UInt8))
  have HT := Lib.hid (show tagText l s r ([] : List (List UInt8)) = Lib.join (parts l s r ([] : List (List UInt8))) [45] from rfl)
  have HP := Lib.hid (show parts l s r ([] : List (List UInt8)) = ([l, s, r] ++ ([] : List (List UInt8))).filter (fun x => !x.isEmpty) from rfl)
  have HB0 := Lib.hid (show Below w.heap.size w (((w.alloc (.cells #[.string ⟨l.toArray⟩, .string ⟨s.toArray⟩, .string ⟨r.toArray⟩, .slice none 0 0] 24)).alloc (.cells #[.string ⟨l.toArray⟩, .string ⟨s.toArray⟩, .string ⟨r.toArray⟩] 9)).alloc (.cells #[.slice (some ⟨w.heap.size + 1, 0, none⟩) 3 3, .slice none 0 0] 22)) from blw_trans (blw_trans (blw_alloc _ _) (blw_alloc _ _)) (blw_alloc _ _))
  have CC := Lib.hid (concat_nil [l, s, r] (w.heap.size + 2) ⟨w.heap.size + 1, 0, none⟩ 3 (((w.alloc (.cells #[.string ⟨l.toArray⟩, .string ⟨s.toArray⟩, .string ⟨r.toArray⟩, .slice none 0 0] 24)).alloc (.cells #[.string ⟨l.toArray⟩, .string ⟨s.toArray⟩, .string ⟨r.toArray⟩] 9)).alloc (.cells #[.slice (some ⟨w.heap.size + 1, 0, none⟩) 3 3, .slice none 0 0] 22)) (by simp) (by simp) (by simp [go_sem]) (by simp [go_sem]) (fun j u hu => by
    match j, hu with
    | 0, hu => obtain rfl : txtV l = u := Option.some.inj hu; simp [go_sem, Addr.add]
    | 1, hu => obtain rfl : txtV s = u := Option.some.inj hu; simp [go_sem, Addr.add]
    | 2, hu => obtain rfl : txtV r = u := Option.some.inj hu; simp [go_sem, Addr.add]))
  have hl3 : ([l, s, r] ++ ([] : List (List UInt8))).length ≤ 100000003 := by simp; try omega
  have hp3 : 0 < ([l, s, r] ++ ([] : List (List UInt8))).length := by simp
  generalize parts l s r ([] : List (List UInt8)) = P at *
  generalize hALL : [l, s, r] ++ ([] : List (List UInt8)) = ALL at *
  clear hALL
  obtain ⟨X, hX⟩ : ∃ X, X = tagText l s r ([] : List (List UInt8)) := ⟨_, rfl⟩
  rw [← hX] at HT ⊢
  clear hX
  go_enter Tryd.func15, Tryd.ntmps15
  go_wp2_with fail
  refine CC.out.mono ?_
  rintro e w1 ⟨v, rfl, ho, hb⟩
  have CD := Lib.hid (del_any ALL v _ w1 hp3 (by omega) ho)
  have HB1 := Lib.hid (blw_trans HB0.out hb)
  have HB := Lib.hid hb
  have hle : w.heap.size ≤ (((w.alloc (.cells #[.string ⟨l.toArray⟩, .string ⟨s.toArray⟩, .string ⟨r.toArray⟩, .slice none 0 0] 24)).alloc (.cells #[.string ⟨l.toArray⟩, .string ⟨s.toArray⟩, .string ⟨r.toArray⟩] 9)).alloc (.cells #[.slice (some ⟨w.heap.size + 1, 0, none⟩) 3 3, .slice none 0 0] 22)).heap.size := HB0.out.size
  clear ho CC
  go_wp2_with fail
  refine CD.out.mono ?_
  rintro e w2 ⟨v2, rfl, hs, hB⟩
  have HB2 := Lib.hid (hB w.heap.size w hle HB1.out)
  rw [← HP.out] at hs
  have CJ := Lib.hid (sjoin_any P v2 [45] w2 hs (by omega) (by unfold Lst.total; simp only [List.length_cons, List.length_nil]; omega))
  rw [← HT.out] at CJ
  clear hs hB CD hb hle
  go_wp2_with fail
  refine CJ.out.mono ?_
  rintro e w3 ⟨rfl, hb⟩
  have HB3 := Lib.hid (blw_trans HB2.out hb)
  clear hb
  go_wp2_with fail
  go_ret
  exact ⟨rfl, HB3.out⟩

set_option maxRecDepth 100000 in
set_option maxHeartbeats 2000000 in
theorem text_some (l s r : List UInt8) (vs : List (List UInt8)) (ad : Addr) (cv : Nat) (w : World) (bt : l.length + s.length + r.length + Lib.lens vs + vs.length ≤ 100000000)
    (hv : ∀ (j : Nat) u, (vs.map txtV)[j]? = some u → w.cell? (ad.add j) = some u) :
    Calls Tryd.prog 15 #[.agg #[.string ⟨l.toArray⟩, .string ⟨s.toArray⟩, .string ⟨r.toArray⟩, .slice (some ad) vs.length cv]] w fun e w' => e = .returned (.string ⟨(tagText l s r vs).toArray⟩) ∧ Below w.heap.size w w' := by
  have ps := parts_small l s r vs
  have HT := Lib.hid (show tagText l s r vs = Lib.join (parts l s r vs) [45] from rfl)
  have HP := Lib.hid (show parts l s r vs = ([l, s, r] ++ vs).filter (fun x => !x.isEmpty) from rfl)
  have HB0 := Lib.hid (show Below w.heap.size w (((w.alloc (.cells #[.string ⟨l.toArray⟩, .string ⟨s.toArray⟩, .string ⟨r.toArray⟩, .slice (some ad) vs.length cv] 24)).alloc (.cells #[.string ⟨l.toArray⟩, .string ⟨s.toArray⟩, .string ⟨r.toArray⟩] 9)).alloc (.cells #[.slice (some ⟨w.heap.size + 1, 0, none⟩) 3 3, .slice (some ad) vs.length cv] 22)) from blw_trans (blw_trans (blw_alloc _ _) (blw_alloc _ _)) (blw_alloc _ _))
  have HV := Lib.hid (show ∀ (j : Nat) u, (vs.map txtV)[j]? = some u → (((w.alloc (.cells #[.string ⟨l.toArray⟩, .string ⟨s.toArray⟩, .string ⟨r.toArray⟩, .slice (some ad) vs.length cv] 24)).alloc (.cells #[.string ⟨l.toArray⟩, .string ⟨s.toArray⟩, .string ⟨r.toArray⟩] 9)).alloc (.cells #[.slice (some ⟨w.heap.size + 1, 0, none⟩) 3 3, .slice (some ad) vs.length cv] 22)).cell? (ad.add j) = some u from fun j u hu => cell_keep (hv j u hu) HB0.out)
  clear hv
  have CC := Lib.hid (concat_some [l, s, r] vs (w.heap.size + 2) ⟨w.heap.size + 1, 0, none⟩ 3 cv ad (((w.alloc (.cells #[.string ⟨l.toArray⟩, .string ⟨s.toArray⟩, .string ⟨r.toArray⟩, .slice (some ad) vs.length cv] 24)).alloc (.cells #[.string ⟨l.toArray⟩, .string ⟨s.toArray⟩, .string ⟨r.toArray⟩] 9)).alloc (.cells #[.slice (some ⟨w.heap.size + 1, 0, none⟩) 3 3, .slice (some ad) vs.length cv] 22)) (by simp) (by simp; omega) (by simp [go_sem]) (by simp [go_sem]) (fun j u hu => by
    match j, hu with
    | 0, hu => obtain rfl : txtV l = u := Option.some.inj hu; simp [go_sem, Addr.add]
    | 1, hu => obtain rfl : txtV s = u := Option.some.inj hu; simp [go_sem, Addr.add]
    | 2, hu => obtain rfl : txtV r = u := Option.some.inj hu; simp [go_sem, Addr.add]) HV.out)
  have hl3 : ([l, s, r] ++ vs).length ≤ 100000003 := by simp; try omega
  have hp3 : 0 < ([l, s, r] ++ vs).length := by simp
  generalize parts l s r vs = P at *
  generalize hALL : [l, s, r] ++ vs = ALL at *
  clear hALL
  obtain ⟨X, hX⟩ : ∃ X, X = tagText l s r vs := ⟨_, rfl⟩
  rw [← hX] at HT ⊢
  clear hX
  go_enter Tryd.func15, Tryd.ntmps15
  go_wp2_with fail
  refine CC.out.mono ?_
  rintro e w1 ⟨v, rfl, ho, hb⟩
  have CD := Lib.hid (del_any ALL v _ w1 hp3 (by omega) ho)
  have HB1 := Lib.hid (blw_trans HB0.out hb)
  have HB := Lib.hid hb
  have hle : w.heap.size ≤ (((w.alloc (.cells #[.string ⟨l.toArray⟩, .string ⟨s.toArray⟩, .string ⟨r.toArray⟩, .slice (some ad) vs.length cv] 24)).alloc (.cells #[.string ⟨l.toArray⟩, .string ⟨s.toArray⟩, .string ⟨r.toArray⟩] 9)).alloc (.cells #[.slice (some ⟨w.heap.size + 1, 0, none⟩) 3 3, .slice (some ad) vs.length cv] 22)).heap.size := HB0.out.size
  clear ho CC
  go_wp2_with fail
  refine CD.out.mono ?_
  rintro e w2 ⟨v2, rfl, hs, hB⟩
  have HB2 := Lib.hid (hB w.heap.size w hle HB1.out)
  rw [← HP.out] at hs
  have CJ := Lib.hid (sjoin_any P v2 [45] w2 hs (by omega) (by unfold Lst.total; simp only [List.length_cons, List.length_nil]; omega))
  rw [← HT.out] at CJ
  clear hs hB CD hb hle
  go_wp2_with fail
  refine CJ.out.mono ?_
  rintro e w3 ⟨rfl, hb⟩
  have HB3 := Lib.hid (blw_trans HB2.out hb)
  clear hb
  go_wp2_with fail
  go_ret
  exact ⟨rfl, HB3.out⟩
theorem text_any (l s r : List UInt8) (vs : List (List UInt8)) (V : Value) (w : World) (hV : StrsAt w V vs) (h0 : Nil0 V) (bt : l.length + s.length + r.length + Lib.lens vs + vs.length ≤ 100000000) :
    Calls Tryd.prog 15 #[.agg #[.string ⟨l.toArray⟩, .string ⟨s.toArray⟩, .string ⟨r.toArray⟩, V]] w fun e w' => e = .returned (.string ⟨(tagText l s r vs).toArray⟩) ∧ Below w.heap.size w w' := by
  rcases hV.open with ⟨cap, rfl, rfl⟩ | ⟨ad, cap, rfl, hc⟩
  · obtain rfl := h0 _ _ rfl
    exact text_nil l s r w bt
  · exact text_some l s r vs ad cap w bt hc
end Go.Proofs.YtlhleojigcnjeaaDoor
