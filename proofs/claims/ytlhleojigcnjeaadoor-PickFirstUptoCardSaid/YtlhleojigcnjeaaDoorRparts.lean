/- The walks of linguisterref1.Parts and TagText. -/
import Derived.Test.YtlhleojigcnjeaaDoorTagFlt
import Derived.Test.YtlhleojigcnjeaaDoorJoined
import Derived.Test.YtlhleojigcnjeaaDoorCut
import Derived.OwnWalk
import Derived.OpenShut
import Derived.Laws.AppendOwnNone
namespace Go.Proofs.YtlhleojigcnjeaaDoor
open Go.RowKit

/-- the parts of a tag -/
def parts (l s r : List UInt8) (vs : List (List UInt8)) : List (List UInt8) := (l :: s :: r :: vs).filter (fun x => !x.isEmpty)
theorem StrsAt.open {w : World} {v : Value} {l : List (List UInt8)} (h : StrsAt w v l) : (∃ cap, v = .slice none 0 cap ∧ l = []) ∨ ∃ ad cap, v = .slice (some ad) l.length cap ∧ ∀ (j : Nat) u, (l.map txtV)[j]? = some u → w.cell? (ad.add j) = some u := by
  rcases h with ⟨rfl, a, cap, rfl⟩ | ⟨b, off, cap, rfl, _, _, _, hc⟩
  · cases a with
    | none => exact .inl ⟨cap, rfl, rfl⟩
    | some ad => exact .inr ⟨ad, cap, rfl, fun j u hu => by simp at hu⟩
  · refine .inr ⟨_, cap, rfl, fun j u hu => ?_⟩
    rw [List.getElem?_map] at hu
    obtain ⟨x, hx, rfl⟩ := Option.map_eq_some_iff.1 hu
    rw [show (⟨b, off, none⟩ : Addr).add j = ⟨b, off + j, none⟩ from Go.WideShapes.add_plain ..]
    exact hc j x hx
theorem own_made {w : World} {base q : Nat} (hb : base ≤ q) (hq : w.heap.size = q) (xs : List Value) (t : TypeId) (hm : xs.length ≤ maxLen) : (w.alloc (.cells xs.toArray t)).ownsRow base t 1 (.slice (some ⟨q, 0, none⟩) xs.length xs.length) xs.length xs := by
  subst hq
  exact ⟨by simp, .inr ⟨w.heap.size, xs.length, xs.toArray, rfl, hb, by show (w.heap.push _)[w.heap.size]? = _; simp, Nat.le_refl _, hm, by simp, by simp⟩⟩
theorem keepF (all : List (List UInt8)) (k : Nat) (x : List UInt8) (h : all[k]? = some x) : (all.take (k + 1)).filter (fun x => !x.isEmpty) = (all.take k).filter (fun x => !x.isEmpty) ++ (if x.isEmpty then [] else [x]) := by
  rw [List.take_add_one, h, List.filter_append]
  congr 1
  cases e : x.isEmpty <;> simp [e]
/-- a slice of texts whose nil has no room -/
def Nil0 (V : Value) : Prop := ∀ n c, V = .slice none n c → c = 0

set_option maxRecDepth 100000 in
set_option maxHeartbeats 2000000 in
theorem rparts_nil (l s r : List UInt8) (w : World) :
    Calls Tryd.prog 20 #[.agg #[.string ⟨l.toArray⟩, .string ⟨s.toArray⟩, .string ⟨r.toArray⟩, .slice none 0 0]] w (GivesStrs w (parts l s r [])) := by
  obtain ⟨i0, hi, hz0, hz1, hz2⟩ := info_parts infoStr
  have OM := own_made (w := w.alloc (.cells #[.string ⟨l.toArray⟩, .string ⟨s.toArray⟩, .string ⟨r.toArray⟩, .slice none 0 0] 24)) (base := w.heap.size) (q := w.heap.size + 1) (by omega) (by simp) [txtV l, txtV s, txtV r] 9 (by unfold maxLen; simp)
  go_enter Tryd.func20, Tryd.ntmps20
  go_wp2_with (at_builtin; refine wpList_append_own_none rfl _ _ 22 rfl w.heap.size 9 i0 1 Tryd.underlying22 hi _ _ _ rfl OM rfl ?_)
  have HB1 := Lib.hid (show Below w.heap.size w ((w.alloc (.cells #[.string ⟨l.toArray⟩, .string ⟨s.toArray⟩, .string ⟨r.toArray⟩, .slice none 0 0] 24)).alloc (.cells [txtV l, txtV s, txtV r].toArray 9)) from blw_trans (blw_alloc _ _) (blw_alloc _ _))
  have hown1 := OM
  generalize (w.alloc (.cells #[.string ⟨l.toArray⟩, .string ⟨s.toArray⟩, .string ⟨r.toArray⟩, .slice none 0 0] 24)).alloc (.cells [txtV l, txtV s, txtV r].toArray 9) = w1 at *
  clear OM
  have hg0 := own_cells hown1 (by first | (simp; done) | (simp; omega))
  obtain ⟨gb, gc, hve, hg1, hg2, hg3, hcell⟩ := hg0
  obtain ⟨rfl, rfl⟩ : gb = w.heap.size + 1 ∧ gc = 3 := by
    injection hve with a1 a2 a3
    injection a1 with b1
    injection b1 with c1
    exact ⟨c1.symm, a3.symm⟩
  clear hown1
  have hall : [txtV l, txtV s, txtV r] = (l :: s :: r :: []).map txtV := by simp
  have HC := Lib.hid (show ∀ (j : Nat) x, (l :: s :: r :: [])[j]? = some x → w1.cell? ⟨(w.heap.size + 1), 0 + j, none⟩ = some (.string ⟨x.toArray⟩) from fun j x hx => by
    rw [Nat.zero_add]
    exact hcell j _ (by rw [hall, List.getElem?_map, hx]; rfl))
  have hl1 : (l :: s :: r :: []).length ≤ 3 := by simp; try omega
  have hl2 : 3 ≤ (l :: s :: r :: []).length := by simp; try omega
  have HP := Lib.hid (show parts l s r [] = (l :: s :: r :: []).filter (fun x => !x.isEmpty) from rfl)
  unfold maxLen at hg3
  clear hcell hall
  generalize l :: s :: r :: [] = ALL at *
  go_wp2_with fail
  go_loopw [3, 5] (fun o i wr => ∃ k : Nat, i = .int .i64 k ∧ k ≤ 3 ∧ Hid (wr.ownsRow w1.heap.size 9 1 o ((ALL.take k).filter (fun x => !x.isEmpty)).length (((ALL.take k).filter (fun x => !x.isEmpty)).map txtV)) ∧ Hid (Below w1.heap.size w1 wr)) (fun _ i _ => 3 - (RowKit.intOf i).toNat)
  case atStart => exact ⟨0, rfl, Nat.zero_le _, Lib.hid ⟨rfl, .inl ⟨rfl, rfl⟩⟩, Lib.hid (Below.refl _ _)⟩
  case round =>
    obtain ⟨k, rfl, hk, HO, HB⟩ := hrel
    by_cases hlt : k < 3
    · obtain ⟨x, hx⟩ : ∃ x, ALL[k]? = some x := ⟨ALL[k]'(by omega), List.getElem?_eq_getElem (by omega)⟩
      have xc := cell_keep (HC.out k x hx) HB.out
      have xc2 : wr.cell? ⟨(w.heap.size + 1), k, none⟩ = some (.string ⟨x.toArray⟩) := by simpa using xc
      have HK := Lib.hid (keepF ALL k x hx)
      have flen : ((ALL.take k).filter (fun x => !x.isEmpty)).length ≤ k := Nat.le_trans (List.length_filter_le _ _) (List.length_take_le _ _)
      clear hx xc
      generalize (ALL.take k).filter (fun x => !x.isEmpty) = R at *
      cases x with
      | nil =>
        have HK2 := Lib.hid (show (ALL.take (k + 1)).filter (fun x => !x.isEmpty) = R by rw [HK.out]; simp)
        clear HK
        go_wp2_with fail
        go_roundw
        case rel => exact ⟨k + 1, by go_num, by omega, by rw [HK2.out]; exact HO, HB⟩
        case measure => simp [RowKit.intOf]; omega
      | cons y z =>
        have HK2 := Lib.hid (show (ALL.take (k + 1)).filter (fun x => !x.isEmpty) = R ++ [y :: z] by rw [HK.out]; simp)
        clear HK
        generalize hyz : y :: z = x at *
        have hne : x ≠ [] := fun e => by rw [e] at hyz; cases hyz
        have e1 : (x == []) = false := by cases x with | nil => exact absurd rfl hne | cons => rfl
        have e2 : x.isEmpty = false := by cases x with | nil => exact absurd rfl hne | cons => rfl
        clear hyz hne
        have hown := HO.out
        have hbs := HB.out.size
        go_wp2_with (at_builtin; refine wpList_append_own _ rfl _ _ 22 rfl w1.heap.size 9 i0 (.string ByteArray.empty) 1 16 Tryd.underlying22 hi hz0 hz1 hz2 rfl (by decide) _ _ _ rfl (hown.alloc _) ⟨wr.heap.size, 0, none⟩ 1 1 [txtV x] rfl rfl (cell_one_new _ _ _) (fun x hx => by simp at hx; subst hx; rfl) (by unfold maxLen; omega) (by omega) (by simp; omega) ?_; intro v' w2 hown' hgrow _)
        have HO' := Lib.hid (show w2.ownsRow w1.heap.size 9 1 v' (R ++ [x]).length ((R ++ [x]).map txtV) by simpa using hown')
        have HB' := Lib.hid (show Below w1.heap.size w1 w2 from (HB.out.alloc hbs _).grown hgrow (by simp; omega) (fun k hk => (hown.lt k hk).1))
        clear hown hown' hgrow hbs HO HB xc2
        go_wp2_with fail
        go_roundw
        case rel => exact ⟨k + 1, by go_num, by omega, by rw [HK2.out]; exact HO', HB'⟩
        case measure => simp [RowKit.intOf]; omega
    · have HE := Lib.hid (show ALL.take k = ALL from List.take_of_length_le (by omega))
      go_wp2_with fail
      go_ret
      exact ⟨_, rfl, by rw [HP.out, ← HE.out]; exact StrsAt.of_row HO.out, blw_trans HB1.out HB.out⟩

set_option maxRecDepth 100000 in
set_option maxHeartbeats 2000000 in
theorem rparts_some (l s r : List UInt8) (vs : List (List UInt8)) (ad : Addr) (cap : Nat) (w : World) (hn : vs.length ≤ 1000000000)
    (hc : ∀ (j : Nat) u, (vs.map txtV)[j]? = some u → w.cell? (ad.add j) = some u) :
    Calls Tryd.prog 20 #[.agg #[.string ⟨l.toArray⟩, .string ⟨s.toArray⟩, .string ⟨r.toArray⟩, .slice (some ad) vs.length cap]] w (GivesStrs w (parts l s r vs)) := by
  obtain ⟨i0, hi, hz0, hz1, hz2⟩ := info_parts infoStr
  have HC0 := Lib.hid hc
  clear hc
  have OM := own_made (w := w.alloc (.cells #[.string ⟨l.toArray⟩, .string ⟨s.toArray⟩, .string ⟨r.toArray⟩, .slice (some ad) vs.length cap] 24)) (base := w.heap.size) (q := w.heap.size + 1) (by omega) (by simp) [txtV l, txtV s, txtV r] 9 (by unfold maxLen; simp)
  have HN := Lib.hid (show ∀ (j : Nat) u, (vs.map txtV)[j]? = some u → ((w.alloc (.cells #[.string ⟨l.toArray⟩, .string ⟨s.toArray⟩, .string ⟨r.toArray⟩, .slice (some ad) vs.length cap] 24)).alloc (.cells [txtV l, txtV s, txtV r].toArray 9)).cell? (ad.add j) = some u from fun j u hu => cell_keep (cell_keep (HC0.out j u hu) (blw_alloc _ _)) (blw_alloc _ _))
  go_enter Tryd.func20, Tryd.ntmps20
  go_wp2_with (at_builtin; refine wpList_append_own _ rfl _ _ 22 rfl w.heap.size 9 i0 (.string ByteArray.empty) 1 16 Tryd.underlying22 hi hz0 hz1 hz2 rfl (by decide) _ _ _ rfl OM ad vs.length cap (vs.map txtV) rfl (by simp) HN.out (fun x hx => by simp at hx; obtain ⟨y, _, rfl⟩ := hx; rfl) (by unfold maxLen; simp; omega) (by simp; omega) (by simp; omega) ?_; intro v' w1 hown1 hgrow _)
  have HB1 := Lib.hid (show Below w.heap.size w w1 from (show Below w.heap.size w ((w.alloc (.cells #[.string ⟨l.toArray⟩, .string ⟨s.toArray⟩, .string ⟨r.toArray⟩, .slice (some ad) vs.length cap] 24)).alloc (.cells [txtV l, txtV s, txtV r].toArray 9)) from blw_trans (blw_alloc _ _) (blw_alloc _ _)).grown hgrow (by simp; omega) (fun k hk => (OM.lt k hk).1))
  clear hgrow OM HN
  have hg0 := own_cells hown1 (by first | (simp; done) | (simp; omega))
  obtain ⟨gb, gc, hve, hg1, hg2, hg3, hcell⟩ := hg0
  subst hve
  clear hown1
  have hall : [txtV l, txtV s, txtV r] ++ vs.map txtV = (l :: s :: r :: vs).map txtV := by simp
  have HC := Lib.hid (show ∀ (j : Nat) x, (l :: s :: r :: vs)[j]? = some x → w1.cell? ⟨gb, 0 + j, none⟩ = some (.string ⟨x.toArray⟩) from fun j x hx => by
    rw [Nat.zero_add]
    exact hcell j _ (by rw [hall, List.getElem?_map, hx]; rfl))
  have hl1 : (l :: s :: r :: vs).length ≤ 3 + vs.length := by simp; try omega
  have hl2 : 3 + vs.length ≤ (l :: s :: r :: vs).length := by simp; try omega
  have HP := Lib.hid (show parts l s r vs = (l :: s :: r :: vs).filter (fun x => !x.isEmpty) from rfl)
  unfold maxLen at hg3
  clear hcell hall
  generalize l :: s :: r :: vs = ALL at *
  go_wp2_with fail
  have hNb : 3 + vs.length ≤ 1000000003 := by omega
  generalize 3 + vs.length = N at *
  go_loopw [3, 5] (fun o i wr => ∃ k : Nat, i = .int .i64 k ∧ k ≤ N ∧ Hid (wr.ownsRow w1.heap.size 9 1 o ((ALL.take k).filter (fun x => !x.isEmpty)).length (((ALL.take k).filter (fun x => !x.isEmpty)).map txtV)) ∧ Hid (Below w1.heap.size w1 wr)) (fun _ i _ => N - (RowKit.intOf i).toNat)
  case atStart => exact ⟨0, rfl, Nat.zero_le _, Lib.hid ⟨rfl, .inl ⟨rfl, rfl⟩⟩, Lib.hid (Below.refl _ _)⟩
  case round =>
    obtain ⟨k, rfl, hk, HO, HB⟩ := hrel
    by_cases hlt : k < N
    · obtain ⟨x, hx⟩ : ∃ x, ALL[k]? = some x := ⟨ALL[k]'(by omega), List.getElem?_eq_getElem (by omega)⟩
      have xc := cell_keep (HC.out k x hx) HB.out
      have xc2 : wr.cell? ⟨gb, k, none⟩ = some (.string ⟨x.toArray⟩) := by simpa using xc
      have HK := Lib.hid (keepF ALL k x hx)
      have flen : ((ALL.take k).filter (fun x => !x.isEmpty)).length ≤ k := Nat.le_trans (List.length_filter_le _ _) (List.length_take_le _ _)
      clear hx xc
      generalize (ALL.take k).filter (fun x => !x.isEmpty) = R at *
      cases x with
      | nil =>
        have HK2 := Lib.hid (show (ALL.take (k + 1)).filter (fun x => !x.isEmpty) = R by rw [HK.out]; simp)
        clear HK
        go_wp2_with fail
        go_roundw
        case rel => exact ⟨k + 1, by go_num, by omega, by rw [HK2.out]; exact HO, HB⟩
        case measure => simp [RowKit.intOf]; omega
      | cons y z =>
        have HK2 := Lib.hid (show (ALL.take (k + 1)).filter (fun x => !x.isEmpty) = R ++ [y :: z] by rw [HK.out]; simp)
        clear HK
        generalize hyz : y :: z = x at *
        have hne : x ≠ [] := fun e => by rw [e] at hyz; cases hyz
        have e1 : (x == []) = false := by cases x with | nil => exact absurd rfl hne | cons => rfl
        have e2 : x.isEmpty = false := by cases x with | nil => exact absurd rfl hne | cons => rfl
        clear hyz hne
        have hown := HO.out
        have hbs := HB.out.size
        go_wp2_with (at_builtin; refine wpList_append_own _ rfl _ _ 22 rfl w1.heap.size 9 i0 (.string ByteArray.empty) 1 16 Tryd.underlying22 hi hz0 hz1 hz2 rfl (by decide) _ _ _ rfl (hown.alloc _) ⟨wr.heap.size, 0, none⟩ 1 1 [txtV x] rfl rfl (cell_one_new _ _ _) (fun x hx => by simp at hx; subst hx; rfl) (by unfold maxLen; omega) (by omega) (by simp; omega) ?_; intro v' w2 hown' hgrow _)
        have HO' := Lib.hid (show w2.ownsRow w1.heap.size 9 1 v' (R ++ [x]).length ((R ++ [x]).map txtV) by simpa using hown')
        have HB' := Lib.hid (show Below w1.heap.size w1 w2 from (HB.out.alloc hbs _).grown hgrow (by simp; omega) (fun k hk => (hown.lt k hk).1))
        clear hown hown' hgrow hbs HO HB xc2
        go_wp2_with fail
        go_roundw
        case rel => exact ⟨k + 1, by go_num, by omega, by rw [HK2.out]; exact HO', HB'⟩
        case measure => simp [RowKit.intOf]; omega
    · have HE := Lib.hid (show ALL.take k = ALL from List.take_of_length_le (by omega))
      go_wp2_with fail
      go_ret
      exact ⟨_, rfl, by rw [HP.out, ← HE.out]; exact StrsAt.of_row HO.out, blw_trans HB1.out HB.out⟩
end Go.Proofs.YtlhleojigcnjeaaDoor
