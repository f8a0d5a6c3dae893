/- A map of texts that the call made, whatever its values: a look-up, a store of a new key. No program. -/
import Derived.Test.YtghohnbajbikjaaGreatDoorTa0
import Derived.Deep.RegionHeld3
import Derived.Maps.AppendAt
import Derived.OwnWalk
import Derived.Lib.ItoaNum
import Derived.Lib.AtoiAll
import Derived.Lib.AtoiAllCases
import Derived.Lib.IndexMore
import Derived.Lib.Strings
import Derived.Lib.Repeat
import Derived.Lib.Join
import Derived.Lib.SplitLaws
import Derived.Laws.AppendOwn
import Derived.Deep.DeepCutAuto
import Derived.Shelf.Strings.SlTrimAscii
import Derived.WalkKit
import Derived.MapKept
namespace Go.Proofs.YtghohnbajbikjaaGreatDoor
open Go.RowKit

set_option maxRecDepth 100000 in
set_option maxHeartbeats 2000000 in
theorem text_nil (l s r : List UInt8) (w : World) (bt : l.length + s.length + r.length + Lib.lens ([] : List (List UInt8)) + ([] : List (List UInt8)).length ≤ 100000000) :
    Calls Tryz.prog 8 #[.agg #[.string ⟨l.toArray⟩, .string ⟨s.toArray⟩, .string ⟨r.toArray⟩, .slice none 0 0]] w fun e w' => e = .returned (.string ⟨(tagText l s r ([] : List (List UInt8))).toArray⟩) ∧ Below w.heap.size w w' := by
  have ps := parts_small l s r ([] : List (List UInt8))
  have HT := Lib.hid (show tagText l s r ([] : List (List UInt8)) = Lib.join (parts l s r ([] : List (List UInt8))) [45] from rfl)
  have HP := Lib.hid (show parts l s r ([] : List (List UInt8)) = ([l, s, r] ++ ([] : List (List UInt8))).filter (fun x => !x.isEmpty) from rfl)
  have HB0 := Lib.hid (show Below w.heap.size w (((w.alloc (.cells #[.string ⟨l.toArray⟩, .string ⟨s.toArray⟩, .string ⟨r.toArray⟩, .slice none 0 0] 29)).alloc (.cells #[.string ⟨l.toArray⟩, .string ⟨s.toArray⟩, .string ⟨r.toArray⟩] 9)).alloc (.cells #[.slice (some ⟨w.heap.size + 1, 0, none⟩) 3 3, .slice none 0 0] 27)) from blw_trans (blw_trans (blw_alloc _ _) (blw_alloc _ _)) (blw_alloc _ _))
  have CC := Lib.hid (concat_nil [l, s, r] (w.heap.size + 2) ⟨w.heap.size + 1, 0, none⟩ 3 (((w.alloc (.cells #[.string ⟨l.toArray⟩, .string ⟨s.toArray⟩, .string ⟨r.toArray⟩, .slice none 0 0] 29)).alloc (.cells #[.string ⟨l.toArray⟩, .string ⟨s.toArray⟩, .string ⟨r.toArray⟩] 9)).alloc (.cells #[.slice (some ⟨w.heap.size + 1, 0, none⟩) 3 3, .slice none 0 0] 27)) (by simp) (by simp) (by simp [go_sem]) (by simp [go_sem]) (fun j u hu => by
    match j, hu with
    | 0, hu => obtain rfl : txtV l = u := Option.some.inj hu; simp [go_sem, Addr.add]
    | 1, hu => obtain rfl : txtV s = u := Option.some.inj hu; simp [go_sem, Addr.add]
    | 2, hu => obtain rfl : txtV r = u := Option.some.inj hu; simp [go_sem, Addr.add]))
  have hl3 : ([l, s, r] ++ ([] : List (List UInt8))).length ≤ 100000003 := by simp; try omega
  have hp3 : 0 < ([l, s, r] ++ ([] : List (List UInt8))).length := by simp
  generalize parts l s r ([] : List (List UInt8)) = P at *
  generalize hALL : [l, s, r] ++ ([] : List (List UInt8)) = ALL at *
  clear hALL
  obtain ⟨X, hX⟩ : ∃ X, X = tagText l s r ([] : List (List UInt8)) := ⟨_, rfl⟩
  rw [← hX] at HT ⊢
  clear hX
  go_enter Tryz.func8, Tryz.ntmps8
  go_wp2_with fail
  refine CC.out.mono ?_
  rintro e w1 ⟨v, rfl, ho, hb⟩
  have CD := Lib.hid (del_any ALL v _ w1 hp3 (by omega) ho)
  have HB1 := Lib.hid (blw_trans HB0.out hb)
  have HB := Lib.hid hb
  have hle : w.heap.size ≤ (((w.alloc (.cells #[.string ⟨l.toArray⟩, .string ⟨s.toArray⟩, .string ⟨r.toArray⟩, .slice none 0 0] 29)).alloc (.cells #[.string ⟨l.toArray⟩, .string ⟨s.toArray⟩, .string ⟨r.toArray⟩] 9)).alloc (.cells #[.slice (some ⟨w.heap.size + 1, 0, none⟩) 3 3, .slice none 0 0] 27)).heap.size := HB0.out.size
  clear ho CC
  go_wp2_with fail
  refine CD.out.mono ?_
  rintro e w2 ⟨v2, rfl, hs, hB⟩
  have HB2 := Lib.hid (hB w.heap.size w hle HB1.out)
  rw [← HP.out] at hs
  have CJ := Lib.hid (sjoin_any P v2 [45] w2 hs (by omega) (by unfold Lst.total; simp only [List.length_cons, List.length_nil]; omega))
  rw [← HT.out] at CJ
  clear hs hB CD hb hle
  go_wp2_with fail
  refine CJ.out.mono ?_
  rintro e w3 ⟨rfl, hb⟩
  have HB3 := Lib.hid (blw_trans HB2.out hb)
  clear hb
  go_wp2_with fail
  go_ret
  exact ⟨rfl, HB3.out⟩

set_option maxRecDepth 100000 in
set_option maxHeartbeats 2000000 in
theorem text_some (l s r : List UInt8) (vs : List (List UInt8)) (ad : Addr) (cv : Nat) (w : World) (bt : l.length + s.length + r.length + Lib.lens vs + vs.length ≤ 100000000)
    (hv : ∀ (j : Nat) u, (vs.map txtV)[j]? = some u → w.cell? (ad.add j) = some u) :
    Calls Tryz.prog 8 #[.agg #[.string ⟨l.toArray⟩, .string ⟨s.toArray⟩, .string ⟨r.toArray⟩, .slice (some ad) vs.length cv]] w fun e w' => e = .returned (.string ⟨(tagText l s r vs).toArray⟩) ∧ Below w.heap.size w w' := by
  have ps := parts_small l s r vs
  have HT := Lib.hid (show tagText l s r vs = Lib.join (parts l s r vs) [45] from rfl)
  have HP := Lib.hid (show parts l s r vs = ([l, s, r] ++ vs).filter (fun x => !x.isEmpty) from rfl)
  have HB0 := Lib.hid (show Below w.heap.size w (((w.alloc (.cells #[.string ⟨l.toArray⟩, .string ⟨s.toArray⟩, .string ⟨r.toArray⟩, .slice (some ad) vs.length cv] 29)).alloc (.cells #[.string ⟨l.toArray⟩, .string ⟨s.toArray⟩, .string ⟨r.toArray⟩] 9)).alloc (.cells #[.slice (some ⟨w.heap.size + 1, 0, none⟩) 3 3, .slice (some ad) vs.length cv] 27)) from blw_trans (blw_trans (blw_alloc _ _) (blw_alloc _ _)) (blw_alloc _ _))
  have HV := Lib.hid (show ∀ (j : Nat) u, (vs.map txtV)[j]? = some u → (((w.alloc (.cells #[.string ⟨l.toArray⟩, .string ⟨s.toArray⟩, .string ⟨r.toArray⟩, .slice (some ad) vs.length cv] 29)).alloc (.cells #[.string ⟨l.toArray⟩, .string ⟨s.toArray⟩, .string ⟨r.toArray⟩] 9)).alloc (.cells #[.slice (some ⟨w.heap.size + 1, 0, none⟩) 3 3, .slice (some ad) vs.length cv] 27)).cell? (ad.add j) = some u from fun j u hu => cell_keep (hv j u hu) HB0.out)
  clear hv
  have CC := Lib.hid (concat_some [l, s, r] vs (w.heap.size + 2) ⟨w.heap.size + 1, 0, none⟩ 3 cv ad (((w.alloc (.cells #[.string ⟨l.toArray⟩, .string ⟨s.toArray⟩, .string ⟨r.toArray⟩, .slice (some ad) vs.length cv] 29)).alloc (.cells #[.string ⟨l.toArray⟩, .string ⟨s.toArray⟩, .string ⟨r.toArray⟩] 9)).alloc (.cells #[.slice (some ⟨w.heap.size + 1, 0, none⟩) 3 3, .slice (some ad) vs.length cv] 27)) (by simp) (by simp; omega) (by simp [go_sem]) (by simp [go_sem]) (fun j u hu => by
    match j, hu with
    | 0, hu => obtain rfl : txtV l = u := Option.some.inj hu; simp [go_sem, Addr.add]
    | 1, hu => obtain rfl : txtV s = u := Option.some.inj hu; simp [go_sem, Addr.add]
    | 2, hu => obtain rfl : txtV r = u := Option.some.inj hu; simp [go_sem, Addr.add]) HV.out)
  have hl3 : ([l, s, r] ++ vs).length ≤ 100000003 := by simp; try omega
  have hp3 : 0 < ([l, s, r] ++ vs).length := by simp
  generalize parts l s r vs = P at *
  generalize hALL : [l, s, r] ++ vs = ALL at *
  clear hALL
  obtain ⟨X, hX⟩ : ∃ X, X = tagText l s r vs := ⟨_, rfl⟩
  rw [← hX] at HT ⊢
  clear hX
  go_enter Tryz.func8, Tryz.ntmps8
  go_wp2_with fail
  refine CC.out.mono ?_
  rintro e w1 ⟨v, rfl, ho, hb⟩
  have CD := Lib.hid (del_any ALL v _ w1 hp3 (by omega) ho)
  have HB1 := Lib.hid (blw_trans HB0.out hb)
  have HB := Lib.hid hb
  have hle : w.heap.size ≤ (((w.alloc (.cells #[.string ⟨l.toArray⟩, .string ⟨s.toArray⟩, .string ⟨r.toArray⟩, .slice (some ad) vs.length cv] 29)).alloc (.cells #[.string ⟨l.toArray⟩, .string ⟨s.toArray⟩, .string ⟨r.toArray⟩] 9)).alloc (.cells #[.slice (some ⟨w.heap.size + 1, 0, none⟩) 3 3, .slice (some ad) vs.length cv] 27)).heap.size := HB0.out.size
  clear ho CC
  go_wp2_with fail
  refine CD.out.mono ?_
  rintro e w2 ⟨v2, rfl, hs, hB⟩
  have HB2 := Lib.hid (hB w.heap.size w hle HB1.out)
  rw [← HP.out] at hs
  have CJ := Lib.hid (sjoin_any P v2 [45] w2 hs (by omega) (by unfold Lst.total; simp only [List.length_cons, List.length_nil]; omega))
  rw [← HT.out] at CJ
  clear hs hB CD hb hle
  go_wp2_with fail
  refine CJ.out.mono ?_
  rintro e w3 ⟨rfl, hb⟩
  have HB3 := Lib.hid (blw_trans HB2.out hb)
  clear hb
  go_wp2_with fail
  go_ret
  exact ⟨rfl, HB3.out⟩
theorem text_any (l s r : List UInt8) (vs : List (List UInt8)) (V : Value) (w : World) (hV : StrsAt w V vs) (h0 : Nil0 V) (bt : l.length + s.length + r.length + Lib.lens vs + vs.length ≤ 100000000) :
    Calls Tryz.prog 8 #[.agg #[.string ⟨l.toArray⟩, .string ⟨s.toArray⟩, .string ⟨r.toArray⟩, V]] w fun e w' => e = .returned (.string ⟨(tagText l s r vs).toArray⟩) ∧ Below w.heap.size w w' := by
  rcases hV.open with ⟨cap, rfl, rfl⟩ | ⟨ad, cap, rfl, hc⟩
  · obtain rfl := h0 _ _ rfl
    exact text_nil l s r w bt
  · exact text_some l s r vs ad cap w bt hc
end Go.Proofs.YtghohnbajbikjaaGreatDoor
namespace Go.Proofs.YtghohnbajbikjaaGreatDoor
open Go.RowKit

theorem size_setCell (w : World) (a : Addr) (v : Value) : (w.setCell a v).heap.size = w.heap.size := by simp [World.setCell]
/-- a store into the block -/
theorem Boxed.set {w : World} {p : Nat} {vs : Array Value} (h : Boxed w p vs) (j : Nat) (v : Value) (hj : j < vs.size) : Boxed (w.setCell ⟨p, j, none⟩ v) p (vs.setIfInBounds j v) := by
  refine ⟨by rw [size_setCell]; exact h.lt, fun k u hk => ?_, fun k hk => ?_⟩
  · rw [Array.getElem?_setIfInBounds] at hk
    by_cases e : j = k
    · subst e
      rw [if_pos rfl, if_pos hj] at hk
      obtain rfl := Option.some.inj hk
      exact World.cell?_setCell_same _ _ _ (h.cell j _ (Array.getElem?_eq_getElem hj))
    · rw [if_neg e] at hk
      rw [World.cell?_setCell_other _ _ _ _ (fun g => e (by injection g))]
      exact h.cell k u hk
  · rw [World.frozen?_setCell]; exact h.free k (by simpa using hk)
/-- a store into another block -/
theorem Boxed.far {w : World} {p : Nat} {vs : Array Value} (h : Boxed w p vs) {q : Nat} (hq : q ≠ p) (j : Nat) (v : Value) : Boxed (w.setCell ⟨q, j, none⟩ v) p vs :=
  ⟨by rw [size_setCell]; exact h.lt, fun k u hk => by rw [World.cell?_setCell_other _ _ _ _ (fun g => hq (by injection g))]; exact h.cell k u hk, fun k hk => by rw [World.frozen?_setCell]; exact h.free k hk⟩
theorem Boxed.at {w : World} {p q : Nat} {vs : Array Value} (h : Boxed w p vs) (e : p = q) : Boxed w q vs := e ▸ h
end Go.Proofs.YtghohnbajbikjaaGreatDoor
namespace Go.Proofs.YtghohnbajbikjaaGreatDoor
open Go.RowKit

/-- the state of tag.Parse: the result's block, the tag's block p, the parts in block b -/
structure PSt (w wx : World) (b p : Nat) (a s r : List UInt8) (V : Value) (L : List (List UInt8)) : Prop where
  bel : Below w.heap.size w wx
  res : Boxed wx w.heap.size #[.string ByteArray.empty, .string ByteArray.empty, .string ByteArray.empty, .slice none 0 0]
  box : Boxed wx p #[.string ⟨a.toArray⟩, .string ⟨s.toArray⟩, .string ⟨r.toArray⟩, V]
  cell : ∀ (j : Nat) x, L[j]? = some x → wx.cell? ⟨b, j, none⟩ = some (.string ⟨x.toArray⟩)
theorem PSt.below {w wx wy : World} {b p : Nat} {a s r : List UInt8} {V : Value} {L : List (List UInt8)} (h : PSt w wx b p a s r V L) (hb : Below wx.heap.size wx wy) : PSt w wy b p a s r V L :=
  ⟨blw_trans h.bel hb, h.res.below hb, h.box.below hb, fun j x hx => cell_keep (h.cell j x hx) hb⟩
theorem PSt.drew {w wx : World} {b p : Nat} {a s r : List UInt8} {V : Value} {L : List (List UInt8)} (h : PSt w wx b p a s r V L) : PSt w wx.drew b p a s r V L :=
  ⟨Below.drew h.bel, h.res.drew, h.box.drew, h.cell⟩
theorem PSt.setS {w wx : World} {b p : Nat} {a s r : List UInt8} {V : Value} {L : List (List UInt8)} (h : PSt w wx b p a s r V L) (hb : b < p) (hw : w.heap.size < b) (X : List UInt8) : PSt w (wx.setCell ⟨p, 1, none⟩ (.string ⟨X.toArray⟩)) b p a X r V L :=
  ⟨h.bel.setCell (by show w.heap.size ≤ p; omega) _, h.res.far (by omega) _ _, by have z := h.box.set 1 (.string ⟨X.toArray⟩) (by simp); simpa using z,
    fun j x hx => (World.cell?_setCell_other _ _ _ _ (fun e => by have e1 := congrArg Addr.block e; dsimp only at e1; omega)).trans (h.cell j x hx)⟩
theorem PSt.setR {w wx : World} {b p : Nat} {a s r : List UInt8} {V : Value} {L : List (List UInt8)} (h : PSt w wx b p a s r V L) (hb : b < p) (hw : w.heap.size < b) (X : List UInt8) : PSt w (wx.setCell ⟨p, 2, none⟩ (.string ⟨X.toArray⟩)) b p a s X V L :=
  ⟨h.bel.setCell (by show w.heap.size ≤ p; omega) _, h.res.far (by omega) _ _, by have z := h.box.set 2 (.string ⟨X.toArray⟩) (by simp); simpa using z,
    fun j x hx => (World.cell?_setCell_other _ _ _ _ (fun e => by have e1 := congrArg Addr.block e; dsimp only at e1; omega)).trans (h.cell j x hx)⟩
theorem PSt.setV {w wx : World} {b p : Nat} {a s r : List UInt8} {V : Value} {L : List (List UInt8)} (h : PSt w wx b p a s r V L) (hb : b < p) (hw : w.heap.size < b) (U : Value) : PSt w (wx.setCell ⟨p, 3, none⟩ U) b p a s r U L :=
  ⟨h.bel.setCell (by show w.heap.size ≤ p; omega) _, h.res.far (by omega) _ _, by have z := h.box.set 3 U (by simp); simpa using z,
    fun j x hx => (World.cell?_setCell_other _ _ _ _ (fun e => by have e1 := congrArg Addr.block e; dsimp only at e1; omega)).trans (h.cell j x hx)⟩
theorem lens_mem : ∀ {l : List (List UInt8)} {x : List UInt8}, x ∈ l → x.length ≤ Lib.lens l
  | [], _, h => by simp at h
  | y :: r, x, h => by
    simp only [Lib.lens, List.map_cons, List.sum_cons]
    rcases List.mem_cons.1 h with rfl | h
    · omega
    · have := lens_mem h
      simp only [Lib.lens] at this; omega
theorem lens_cons (x : List UInt8) (r : List (List UInt8)) : Lib.lens (x :: r) = x.length + Lib.lens r := by simp [Lib.lens]
theorem cutS_small (P : List UInt8 → Bool) (T : List (List UInt8)) : (cutS P T).1.length + (Lib.lens (cutS P T).2 + (cutS P T).2.length) ≤ Lib.lens T + T.length := by
  cases T with
  | nil => simp [cutS, Lib.lens]
  | cons a r =>
    simp only [cutS]
    split
    · simp only [lens_cons, scr_len, List.length_cons]; omega
    · simp only [List.length_nil]; omega
theorem cutR_small (P : List UInt8 → Bool) (T : List (List UInt8)) : (cutR P T).1.length + (Lib.lens (cutR P T).2 + (cutR P T).2.length) ≤ Lib.lens T + T.length := by
  cases T with
  | nil => simp [cutR, Lib.lens]
  | cons a r =>
    simp only [cutR]
    split
    · simp only [lens_cons, List.length_map, List.length_cons]; omega
    · simp only [List.length_nil]; omega
theorem split_small (q : List UInt8) {a : List UInt8} {T : List (List UInt8)} (h : Lib.split q [45] = a :: T) : q.length = a.length + (Lib.lens T + T.length) := by
  obtain ⟨_, h1, _⟩ := join_split_one 45 q.length q (Nat.le_refl _)
  have e := congrArg List.length h1
  rw [h, join_cons_len] at e
  omega
/-- what a text reads as: the tag, and the number of the error -/
def readTag (P Q : List UInt8 → Bool) (s : List UInt8) : Option Tg :=
  match Lib.split (s.map lowC) [45] with
  | [] => none
  | l :: T => if okT (s.map lowC) l (cutS P T).1 (cutR Q (cutS P T).2).1 (cutR Q (cutS P T).2).2 then some ⟨l, (cutS P T).1, (cutR Q (cutS P T).2).1, (cutR Q (cutS P T).2).2⟩ else none
def noTag : Tg := ⟨[], [], [], []⟩
def readT (s : List UInt8) : Tg := (readTag PS1 PR1 s).getD noTag
def readOk (s : List UInt8) : Bool := (readTag PS1 PR1 s).isSome
theorem text_len (l s r : List UInt8) (vs : List (List UInt8)) : (tagText l s r vs).length ≤ l.length + s.length + r.length + Lib.lens vs + (vs.length + 3) := by
  have h := parts_small l s r vs
  unfold tagText
  cases e : parts l s r vs with
  | nil => simp [Lib.join]
  | cons x t =>
    rw [e, lens_cons, List.length_cons] at h
    rw [join_cons_len]; omega
theorem errE_nil {n : Int} (h : n = 0) : errE n = .nilIface := by rw [h]; rfl
theorem errE_some {n : Int} (h : n ≠ 0) : errE n = errV n := by unfold errE; rw [if_neg h]
/-- the state behind the reading: the variants' value is V -/
structure PVt (w wx : World) (b p : Nat) (a s r : List UInt8) (vs : List (List UInt8)) (L : List (List UInt8)) (V : Value) : Prop where
  st : PSt w wx b p a s r V L
  at' : StrsAt wx V vs
  nil : Nil0 V
  far : FarV (w.heap.size + 1) V
/-- the part at the head is a script's -/
def headP (P : List UInt8 → Bool) : List (List UInt8) → Bool
  | [] => false
  | c :: _ => P c

end Go.Proofs.YtghohnbajbikjaaGreatDoor
namespace Go.Proofs.YtghohnbajbikjaaGreatDoor
open Go.RowKit

/-- the state of TagOf: the result's block, the tag's block p, the parts in block b, as C tells -/
structure PSc (w wx : World) (b p : Nat) (a s r : List UInt8) (V : Value) (C : Nat → Option (List UInt8)) : Prop where
  bel : Below w.heap.size w wx
  res : Boxed wx w.heap.size #[.string ByteArray.empty, .string ByteArray.empty, .string ByteArray.empty, .slice none 0 0]
  box : Boxed wx p #[.string ⟨a.toArray⟩, .string ⟨s.toArray⟩, .string ⟨r.toArray⟩, V]
  cell : ∀ (j : Nat) x, C j = some x → wx.cell? ⟨b, j, none⟩ = some (.string ⟨x.toArray⟩)
theorem PSc.below {w wx wy : World} {b p : Nat} {a s r : List UInt8} {V : Value} {C : Nat → Option (List UInt8)} (h : PSc w wx b p a s r V C) (hb : Below wx.heap.size wx wy) : PSc w wy b p a s r V C :=
  ⟨blw_trans h.bel hb, h.res.below hb, h.box.below hb, fun j x hx => cell_keep (h.cell j x hx) hb⟩
theorem PSc.drew {w wx : World} {b p : Nat} {a s r : List UInt8} {V : Value} {C : Nat → Option (List UInt8)} (h : PSc w wx b p a s r V C) : PSc w wx.drew b p a s r V C :=
  ⟨Below.drew h.bel, h.res.drew, h.box.drew, h.cell⟩
theorem PSc.setS {w wx : World} {b p : Nat} {a s r : List UInt8} {V : Value} {C : Nat → Option (List UInt8)} (h : PSc w wx b p a s r V C) (hb : b < p) (hw : w.heap.size < p) (X : List UInt8) : PSc w (wx.setCell ⟨p, 1, none⟩ (.string ⟨X.toArray⟩)) b p a X r V C :=
  ⟨h.bel.setCell (by show w.heap.size ≤ p; omega) _, h.res.far (by omega) _ _, by have z := h.box.set 1 (.string ⟨X.toArray⟩) (by simp); simpa using z,
    fun j x hx => (World.cell?_setCell_other _ _ _ _ (fun e => by have e1 := congrArg Addr.block e; dsimp only at e1; omega)).trans (h.cell j x hx)⟩
theorem PSc.setR {w wx : World} {b p : Nat} {a s r : List UInt8} {V : Value} {C : Nat → Option (List UInt8)} (h : PSc w wx b p a s r V C) (hb : b < p) (hw : w.heap.size < p) (X : List UInt8) : PSc w (wx.setCell ⟨p, 2, none⟩ (.string ⟨X.toArray⟩)) b p a s X V C :=
  ⟨h.bel.setCell (by show w.heap.size ≤ p; omega) _, h.res.far (by omega) _ _, by have z := h.box.set 2 (.string ⟨X.toArray⟩) (by simp); simpa using z,
    fun j x hx => (World.cell?_setCell_other _ _ _ _ (fun e => by have e1 := congrArg Addr.block e; dsimp only at e1; omega)).trans (h.cell j x hx)⟩
theorem PSc.setV {w wx : World} {b p : Nat} {a s r : List UInt8} {V : Value} {C : Nat → Option (List UInt8)} (h : PSc w wx b p a s r V C) (hb : b < p) (hw : w.heap.size < p) (U : Value) : PSc w (wx.setCell ⟨p, 3, none⟩ U) b p a s r U C :=
  ⟨h.bel.setCell (by show w.heap.size ≤ p; omega) _, h.res.far (by omega) _ _, by have z := h.box.set 3 U (by simp); simpa using z,
    fun j x hx => (World.cell?_setCell_other _ _ _ _ (fun e => by have e1 := congrArg Addr.block e; dsimp only at e1; omega)).trans (h.cell j x hx)⟩
theorem Nil0.of_row {w : World} {base n k : Nat} {e : TypeId} {v : Value} {l : List Value} (h : w.ownsRow base e k v n l) : Nil0 v := by
  obtain ⟨_, ⟨rfl, _⟩ | ⟨g, cap, cur, rfl, _⟩⟩ := h
  · intro n c e; injection e with _ _ e; exact e.symm
  · intro n c e; injection e with e; cases e
end Go.Proofs.YtghohnbajbikjaaGreatDoor
namespace Go.Proofs.YtghohnbajbikjaaGreatDoor
open Go.RowKit

section
variable {P : Program} {l : List Oper} {Q : Exit → Act → World → Prop} {md : Region.Mode} {S : World → Prop}
/-- take number i: it yields v in every world that meets S -/
theorem take_run {d : Option Nat} {oi : Oper} {v : Value} {fuel : Nat} {listed : Array Bool} {a : Act} {w : World} (i : Nat) (hi : l[i]? = some oi) (hd : oi.dst = d)
    (hs : Region.noSelect l.toArray = true) (hf : Region.free md l.toArray listed i = true) (hr : (Region.ready md l.toArray listed).contains i = true)
    (hQ : ∀ c a w, Q (.panic c) (a.put d v) w → Q (.panic c) a w) (hw : Region.wanted oi (yielded l.toArray a.tmps) = true) (hS : S w)
    (hrun : ∀ w, S w → (execOp a.eval oi).run P w = .ok (.value v) w)
    (h : wpAnyH P md l.toArray Q S fuel (listed.setIfInBounds i true) (a.put d v) w) : wpAnyH P md l.toArray Q S (fuel + 1) listed a w := by
  subst hd
  exact wpAnyH_take (by simpa using hi) hs hf hr hQ (.inl ⟨hw, hrun⟩) hS h
/-- pass number i over: its guard is not met -/
theorem take_skip {d : Option Nat} {oi : Oper} {fuel : Nat} {listed : Array Bool} {a : Act} {w : World} (i : Nat) (hi : l[i]? = some oi) (hd : oi.dst = d)
    (hs : Region.noSelect l.toArray = true) (hf : Region.free md l.toArray listed i = true) (hr : (Region.ready md l.toArray listed).contains i = true)
    (hQ : ∀ c a w, Q (.panic c) (a.put d undef) w → Q (.panic c) a w) (hw : Region.wanted oi (yielded l.toArray a.tmps) = false) (hS : S w)
    (h : wpAnyH P md l.toArray Q S fuel (listed.setIfInBounds i true) (a.put d undef) w) : wpAnyH P md l.toArray Q S (fuel + 1) listed a w := by
  subst hd
  exact wpAnyH_take (by simpa using hi) hs hf hr hQ (.inr ⟨hw, rfl⟩) hS h
/-- number i alone may come up: a call -/
theorem take_call {oi : Oper} {fuel : Nat} {listed : Array Bool} {a : Act} {w : World} (i : Nat) (hi : l[i]? = some oi) (hr : Region.ready md l.toArray listed = [i]) (hw : Region.wanted oi (yielded l.toArray a.tmps) = true)
    (h : ∀ K' : Act → World → Prop, Shut (∀ a w, S w → (S w → wpAnyH P md l.toArray Q S fuel (listed.setIfInBounds i true) a w) → K' a w) → Oper.wp P oi a w K' Q) : wpAnyH P md l.toArray Q S (fuel + 1) listed a w :=
  wpAnyH_ready hr (by simp) (AllReadyH.cons (by simpa using hi) (fun K' hK => by rw [if_pos hw]; exact h K' hK) AllReadyH.nil)
/-- the same, with what closes by computing left to the elaborator -/
theorem tkr {d : Option Nat} {oi : Oper} {v : Value} {fuel : Nat} {listed : Array Bool} {a : Act} {w : World} (i : Nat) (hi : l[i]? = some oi) (hd : oi.dst = d)
    (hS : S w) (hrun : ∀ w, S w → (execOp a.eval oi).run P w = .ok (.value v) w) (h : wpAnyH P md l.toArray Q S fuel (listed.setIfInBounds i true) (a.put d v) w)
    (hs : Region.noSelect l.toArray = true := by kernel_rfl) (hf : Region.free md l.toArray listed i = true := by kernel_rfl) (hr : (Region.ready md l.toArray listed).contains i = true := by kernel_rfl)
    (hQ : ∀ c a w, Q (.panic c) (a.put d v) w → Q (.panic c) a w := by exact fun _ _ _ h => h) (hw : Region.wanted oi (yielded l.toArray a.tmps) = true := by rfl) : wpAnyH P md l.toArray Q S (fuel + 1) listed a w :=
  take_run i hi hd hs hf hr hQ hw hS hrun h
theorem tks {d : Option Nat} {oi : Oper} {fuel : Nat} {listed : Array Bool} {a : Act} {w : World} (i : Nat) (hi : l[i]? = some oi) (hd : oi.dst = d)
    (hS : S w) (h : wpAnyH P md l.toArray Q S fuel (listed.setIfInBounds i true) (a.put d undef) w)
    (hs : Region.noSelect l.toArray = true := by kernel_rfl) (hf : Region.free md l.toArray listed i = true := by kernel_rfl) (hr : (Region.ready md l.toArray listed).contains i = true := by kernel_rfl)
    (hQ : ∀ c a w, Q (.panic c) (a.put d undef) w → Q (.panic c) a w := by exact fun _ _ _ h => h) (hw : Region.wanted oi (yielded l.toArray a.tmps) = false := by rfl) : wpAnyH P md l.toArray Q S (fuel + 1) listed a w :=
  take_skip i hi hd hs hf hr hQ hw hS h
end
end Go.Proofs.YtghohnbajbikjaaGreatDoor
namespace Go.Proofs.YtghohnbajbikjaaGreatDoor
open Go.RowKit

/-- the texts do not lie in this block -/
def NotRow (row : Option Nat) (V : Value) : Prop := ∀ ad n c, V = .slice (some ad) n c → 0 < n → some ad.block ≠ row
theorem NotRow.nil (row : Option Nat) (n c : Nat) : NotRow row (.slice none n c) := fun _ _ _ e _ => by injection e with e; cases e
theorem NotRow.none (V : Value) : NotRow none V := fun _ _ _ _ _ e => by cases e
theorem NotRow.zero (row : Option Nat) (a : Option Addr) (c : Nat) : NotRow row (.slice a 0 c) := fun _ n _ e h => by injection e with _ e; omega
theorem FarV.not {B q : Nat} {V : Value} (h : FarV B V) (hq : q < B) : NotRow (some q) V := fun ad n c e h0 g => by
  have := h ad n c e h0
  injection g with g; omega
theorem StrsAt.old {w : World} {V : Value} {l : List (List UInt8)} (h : StrsAt w V l) {q : Nat} (hq : w.heap.size ≤ q) : NotRow (some q) V := fun ad n c e h0 g => by
  rcases h with ⟨_, a, cap, rfl⟩ | ⟨b, off, cap, rfl, h1, _, _, hc⟩
  · injection e with _ e; omega
  · injection e with e _
    injection e with e
    subst e
    injection g with g
    have := World.block_lt_of_cell? _ _ (hc 0 _ (List.getElem?_eq_getElem h1))
    dsimp only at this g; omega
theorem StrsAt.grown {w w' : World} {V : Value} {l : List (List UInt8)} {row : Option Nat} (h : StrsAt w V l) (hg : w.grownBy w' row) (hn : NotRow row V) : StrsAt w' V l := by
  rcases h with h | ⟨b, off, cap, rfl, h2, h3, h4, h5⟩
  · exact .inl h
  · exact .inr ⟨b, off, cap, rfl, h2, h3, h4, fun j x hx => hg.cell (h5 j x hx) (show some b ≠ row from hn ⟨b, off, none⟩ _ cap rfl h2)⟩
theorem StrsAt.put {w : World} {V : Value} {l : List (List UInt8)} (h : StrsAt w V l) (a : Addr) (hn : NotRow (some a.block) V) (u : Value) : StrsAt (w.setCell a u) V l := by
  rcases h with h | ⟨b, off, cap, rfl, h2, h3, h4, h5⟩
  · exact .inl h
  · exact .inr ⟨b, off, cap, rfl, h2, h3, h4, fun j x hx => (World.cell?_setCell_other _ _ _ _ (fun e => hn ⟨b, off, none⟩ _ cap rfl h2 (by rw [e]))).trans (h5 j x hx)⟩
theorem Boxed.grown {w w' : World} {p : Nat} {vs : Array Value} {row : Option Nat} (h : Boxed w p vs) (hg : w.grownBy w' row) (hn : some p ≠ row) : Boxed w' p vs :=
  ⟨Nat.lt_of_lt_of_le h.lt hg.size, fun j v hj => hg.cell (h.cell j v hj) hn, fun j hj => (World.frozen?_of_block (hg.block p h.lt hn)).trans (h.free j hj)⟩
theorem grown_below {w w' : World} (hb : Below w.heap.size w w') (row : Option Nat) : w.grownBy w' row :=
  ⟨hb.os, hb.tape, hb.output, hb.size, fun k hk _ => hb.block k hk⟩
theorem grown_set (w : World) (a : Addr) (u : Value) : w.grownBy (w.setCell a u) (some a.block) :=
  ⟨rfl, rfl, rfl, by rw [size_setCell]; exact Nat.le_refl _, fun k _ hk => by
    have e : a.block ≠ k := fun e => hk (by rw [e])
    unfold World.setCell
    split <;> simp [Array.getElem?_modify, e]⟩
/-- a growth of what lies behind the old world -/
theorem grown_new {w w' w'' : World} {q : Nat} (h : w.grownBy w' none) (k : w'.grownBy w'' (some q)) (hq : w.heap.size ≤ q) : w.grownBy w'' none :=
  ⟨k.os.trans h.os, k.tape.trans h.tape, k.output.trans h.output, Nat.le_trans h.size k.size, fun i hi _ => (k.block i (Nat.lt_of_lt_of_le hi h.size) (fun e => by injection e with e; omega)).trans (h.block i hi (by simp))⟩
/-- the cells of a tag -/
def tcells (t : Tg) (V : Value) : List Value := [.string ⟨t.l.toArray⟩, .string ⟨t.s.toArray⟩, .string ⟨t.r.toArray⟩, V]
def flat (A : List (Tg × Value)) : List Value := A.flatMap fun x => tcells x.1 x.2
theorem flat_snoc (A : List (Tg × Value)) (c : Tg) (V : Value) : flat (A ++ [(c, V)]) = flat A ++ tcells c V := by simp [flat]
theorem flat_len (A : List (Tg × Value)) : (flat A).length = A.length * 4 := by
  induction A with
  | nil => rfl
  | cons x r ih => simp only [flat, List.flatMap_cons, List.length_append, List.length_cons] at *; rw [ih]; simp [tcells]; omega
theorem flat_at : ∀ (A : List (Tg × Value)) (j : Nat) (x : Tg × Value), A[j]? = some x → ∀ k u, (tcells x.1 x.2)[k]? = some u → (flat A)[j * 4 + k]? = some u
  | [], j, x, h, _, _, _ => by simp at h
  | y :: r, 0, x, h, k, u, hu => by
    obtain rfl : y = x := by simpa using h
    have hk : k < 4 := (List.getElem?_eq_some_iff.1 hu).1
    simp only [flat, List.flatMap_cons]
    rw [List.getElem?_append_left (by show _ < 4; omega), Nat.zero_mul, Nat.zero_add]
    exact hu
  | y :: r, j + 1, x, h, k, u, hu => by
    have := flat_at r j x (by simpa using h) k u hu
    simp only [flat, List.flatMap_cons] at this ⊢
    rw [List.getElem?_append_right (by show 4 ≤ _; omega), show (j + 1) * 4 + k - (tcells y.1 y.2).length = j * 4 + k by show (j + 1) * 4 + k - 4 = _; omega]
    exact this
/-- the texts of these tags -/
def TagsOf (w : World) (A : List (Tg × Value)) : Prop := ∀ x ∈ A, StrsAt w x.2 x.1.vs ∧ Nil0 x.2
/-- a tag lies in the four cells from k on -/
def TagCell (w : World) (b k : Nat) (t : Tg) : Prop := ∃ a n c, w.cell? ⟨b, k, none⟩ = some (.string ⟨t.l.toArray⟩) ∧ w.cell? ⟨b, k + 1, none⟩ = some (.string ⟨t.s.toArray⟩) ∧ w.cell? ⟨b, k + 2, none⟩ = some (.string ⟨t.r.toArray⟩) ∧ w.cell? ⟨b, k + 3, none⟩ = some (.slice a n c) ∧ StrsAt w (.slice a n c) t.vs ∧ Nil0 (.slice a n c)
/-- a slice of tags -/
def TagsAt (w : World) (v : Value) (L : List Tg) : Prop :=
  (L = [] ∧ ∃ a cap, v = .slice a 0 cap) ∨
  ∃ b off cap, v = .slice (some ⟨b, off, none⟩) L.length cap ∧ 0 < L.length ∧ L.length ≤ cap ∧ cap ≤ maxLen ∧ ∀ (j : Nat) t, L[j]? = some t → TagCell w b (off + j * 4) t
theorem TagCell.below {w w' : World} {b k : Nat} {t : Tg} (h : TagCell w b k t) (hb : Below w.heap.size w w') : TagCell w' b k t := by
  obtain ⟨a, n, c, h0, h1, h2, h3, h4, h5⟩ := h
  exact ⟨a, n, c, cell_keep h0 hb, cell_keep h1 hb, cell_keep h2 hb, cell_keep h3 hb, h4.below hb, h5⟩
theorem TagsAt.below {w w' : World} {v : Value} {L : List Tg} (h : TagsAt w v L) (hb : Below w.heap.size w w') : TagsAt w' v L := by
  rcases h with h | ⟨b, off, cap, h1, h2, h3, h4, h5⟩
  · exact .inl h
  · exact .inr ⟨b, off, cap, h1, h2, h3, h4, fun j t ht => (h5 j t ht).below hb⟩
theorem TagsAt.isSlice {w : World} {v : Value} {L : List Tg} (h : TagsAt w v L) : ∃ a n c, v = .slice a n c := by
  rcases h with ⟨_, a, cap, rfl⟩ | ⟨_, _, cap, rfl, _⟩
  · exact ⟨_, _, _, rfl⟩
  · exact ⟨_, _, _, rfl⟩
theorem TagsAt.of_row {w : World} {base : Nat} {e : TypeId} {v : Value} {n : Nat} {A : List (Tg × Value)} (h : w.ownsRow base e 4 v n (flat A)) (ht : TagsOf w A) : TagsAt w v (A.map (·.1)) := by
  obtain ⟨hl, h⟩ := h
  rw [flat_len] at hl
  obtain rfl : n = A.length := by omega
  rcases h with ⟨rfl, h0⟩ | ⟨g, cap, cur, rfl, _, hg, h1, h2, h3, h4⟩
  · exact .inl ⟨by rw [List.length_eq_zero_iff.1 h0]; rfl, none, 0, rfl⟩
  · by_cases h0 : A.length = 0
    · exact .inl ⟨by rw [List.length_eq_zero_iff.1 h0]; rfl, _, _, by rw [h0]⟩
    · refine .inr ⟨g, 0, cap, by rw [List.length_map], by rw [List.length_map]; omega, by rw [List.length_map]; exact h1, h2, fun j t hj => ?_⟩
      rw [List.getElem?_map] at hj
      obtain ⟨⟨t', V⟩, hx, e⟩ := Option.map_eq_some_iff.1 hj
      obtain rfl : t' = t := e
      have hjl : j < A.length := (List.getElem?_eq_some_iff.1 hx).1
      obtain ⟨hs, hz⟩ := ht _ (List.mem_of_getElem? hx)
      have hc : ∀ k u, (tcells t' V)[k]? = some u → w.cell? ⟨g, 0 + j * 4 + k, none⟩ = some u := fun k u hu => by
        have hk : k < 4 := (List.getElem?_eq_some_iff.1 hu).1
        have q := flat_at A j _ hx k u hu
        have e : (cur.toList.take (A.length * 4))[j * 4 + k]? = some u := by rw [h4]; exact q
        rw [List.getElem?_take, if_pos (by omega)] at e
        have e2 : cur[j * 4 + k]? = some u := by simpa using e
        rw [Nat.zero_add]
        simp [World.cell?, hg, e2]
      obtain ⟨a, n, c, rfl⟩ := hs.isSlice
      exact ⟨a, n, c, hc 0 _ rfl, hc 1 _ rfl, hc 2 _ rfl, hc 3 _ rfl, hs, hz⟩
end Go.Proofs.YtghohnbajbikjaaGreatDoor
namespace Go.Proofs.YtghohnbajbikjaaGreatDoor
open Go.RowKit

def LessPost (w : World) (l s r : List UInt8) (vs : List (List UInt8)) (V : Value) (is : Bool) (e : Ending) (w' : World) : Prop :=
  ∃ a n c, e = .returned (.tuple #[.agg #[.string ⟨l.toArray⟩, .string ⟨s.toArray⟩, .string ⟨r.toArray⟩, .slice a n c], .bool is]) ∧ StrsAt w' (.slice a n c) vs ∧ Nil0 (.slice a n c) ∧ (∀ q, q < w.heap.size → NotRow (some q) V → NotRow (some q) (.slice a n c)) ∧ Below w.heap.size w w'

set_option maxRecDepth 100000 in
set_option maxHeartbeats 2000000 in
theorem less_v (l s r : List UInt8) (vs : List (List UInt8)) (ad : Addr) (cap : Nat) (w : World) (hn : 0 < vs.length) (hl : vs.length ≤ 1000000000) (hc : vs.length ≤ cap)
    (hv : ∀ (j : Nat) u, (vs.map txtV)[j]? = some u → w.cell? (ad.add j) = some u) :
    Calls Tryz.prog 24 #[.agg #[.string ⟨l.toArray⟩, .string ⟨s.toArray⟩, .string ⟨r.toArray⟩, .slice (some ad) vs.length cap]] w (LessPost w l s r (vs.take (vs.length - 1)) (.slice (some ad) vs.length cap) true) := by
  obtain ⟨i0, hi, hz0, hz1, hz2⟩ := info_parts infoStr
  obtain ⟨b, hbx⟩ : ∃ b, b = w.heap.size := ⟨_, rfl⟩
  have HV := Lib.hid (show ∀ wx, Below w.heap.size w wx → ∀ (j : Nat) u, ((vs.take (vs.length - 1)).map txtV)[j]? = some u → wx.cell? (ad.add j) = some u from fun wx hb j u hu => cell_keep (hv j u (by
    have hj := (List.getElem?_eq_some_iff.1 hu).1
    rw [List.length_map, List.length_take] at hj
    rw [List.map_take, List.getElem?_take, if_pos (by omega)] at hu
    exact hu)) hb)
  have HL := Lib.hid (show ((vs.take (vs.length - 1)).map txtV).length = (vs.length - 1) * 1 by rw [List.length_map, List.length_take]; omega)
  have HTL := Lib.hid (show (vs.take (vs.length - 1)).length = vs.length - 1 by rw [List.length_take]; omega)
  generalize vs.take (vs.length - 1) = vt at *
  clear hv
  have hgt : (((vs.length : Nat) : Int) > 0) := by omega
  generalize vs.length = N at *
  obtain ⟨M, rfl⟩ : ∃ M, N = M + 1 := ⟨N - 1, by omega⟩
  rw [Nat.add_sub_cancel] at HL HTL
  have OM := own_made (w := (w.alloc (.cells #[.string ⟨l.toArray⟩, .string ⟨s.toArray⟩, .string ⟨r.toArray⟩, .slice (some ad) (M + 1) cap] 29)).alloc (.cells #[.string ByteArray.empty, .string ByteArray.empty, .string ByteArray.empty, .slice none 0 0] 29)) (base := w.heap.size + 2) (q := w.heap.size + 1 + 1) (by omega) (by simp) [] 9 (by unfold maxLen; simp)
  have B1 : Boxed (((w.alloc (.cells #[.string ⟨l.toArray⟩, .string ⟨s.toArray⟩, .string ⟨r.toArray⟩, .slice (some ad) (M + 1) cap] 29)).alloc (.cells #[.string ByteArray.empty, .string ByteArray.empty, .string ByteArray.empty, .slice none 0 0] 29)).alloc (.cells ([] : List Value).toArray 9)) w.heap.size #[.string ⟨l.toArray⟩, .string ⟨s.toArray⟩, .string ⟨r.toArray⟩, .slice (some ad) (M + 1) cap] := ((Boxed.made _ _ _).alloc _).alloc _
  have B2 : Boxed (((w.alloc (.cells #[.string ⟨l.toArray⟩, .string ⟨s.toArray⟩, .string ⟨r.toArray⟩, .slice (some ad) (M + 1) cap] 29)).alloc (.cells #[.string ByteArray.empty, .string ByteArray.empty, .string ByteArray.empty, .slice none 0 0] 29)).alloc (.cells ([] : List Value).toArray 9)) (w.heap.size + 1) #[.string ByteArray.empty, .string ByteArray.empty, .string ByteArray.empty, .slice none 0 0] := ((Boxed.made (w.alloc (.cells #[.string ⟨l.toArray⟩, .string ⟨s.toArray⟩, .string ⟨r.toArray⟩, .slice (some ad) (M + 1) cap] 29)) _ _).at (by simp)).alloc _
  have W0 : Below w.heap.size w (((w.alloc (.cells #[.string ⟨l.toArray⟩, .string ⟨s.toArray⟩, .string ⟨r.toArray⟩, .slice (some ad) (M + 1) cap] 29)).alloc (.cells #[.string ByteArray.empty, .string ByteArray.empty, .string ByteArray.empty, .slice none 0 0] 29)).alloc (.cells ([] : List Value).toArray 9)) := blw_trans (blw_trans (blw_alloc _ _) (blw_alloc _ _)) (blw_alloc _ _)
  have HB := Lib.hid (And.intro B1 (And.intro B2 W0))
  clear B1 B2 W0
  go_enter Tryz.func24, Tryz.ntmps24
  go_wp2_with (at_builtin; refine wpList_append_own_at _ rfl (.tmp 12) (.tmp 17) 27 rfl (w.heap.size + 2) 9 i0 (.string ByteArray.empty) 1 16 Tryz.underlying27 hi hz0 hz1 hz2 rfl (by decide) _ 0 [] rfl (show World.ownsRow _ _ _ _ (.slice (some ⟨w.heap.size + 1 + 1, 0, none⟩) 0 0) 0 [] from OM) ad M cap (vt.map txtV) rfl HL.out (HV.out _ HB.out.2.2) (fun x hx => by obtain ⟨y, _, rfl⟩ := List.mem_map.1 hx; rfl) (by unfold maxLen; omega) (by omega) (by simp) ?_; intro v' w2 hown hgrow _ _; have HOW := Lib.hid hown; have hg2 := (show World.grownBy _ _ (some (w.heap.size + 1 + 1)) from hgrow); have C1 := Lib.hid (HB.out.1.grown hg2 (by intro e; injection e with e; omega)); have C2 := Lib.hid (HB.out.2.1.grown hg2 (by intro e; injection e with e; omega)); have CB := Lib.hid (HB.out.2.2.grown hg2 (by simp; omega) (fun k hk => by injection hk with hk; omega)); clear hown hgrow hg2 OM; have HN7 := Lib.hid (Nil0.of_row HOW.out); have HF7 := Lib.hid (FarV.of_row HOW.out); have HV7 := Lib.hid (show StrsAt w2 v' vt from StrsAt.of_row (by have h7 := HOW.out; rw [List.nil_append] at h7; exact h7)); clear HOW; obtain ⟨x0, n0, cp0, rfl⟩ := HV7.out.isSlice; have k0 := C1.out.cell 0 _ rfl; have k1 := C1.out.cell 1 _ rfl; have k2 := C1.out.cell 2 _ rfl; have k3 := C1.out.cell 3 _ rfl; have f3 := C1.out.free 3 (by simp); have rc0 := C2.out.cell 0 _ rfl; have rc1 := C2.out.cell 1 _ rfl; have rc2 := C2.out.cell 2 _ rfl; have rc3 := C2.out.cell 3 _ rfl; have rf0 := C2.out.free 0 (by simp); have rf1 := C2.out.free 1 (by simp); have rf2 := C2.out.free 2 (by simp); have rf3 := C2.out.free 3 (by simp))
  refine bodyPost_ret (v := .tuple #[.agg #[.string ⟨l.toArray⟩, .string ⟨s.toArray⟩, .string ⟨r.toArray⟩, .slice x0 n0 cp0], .bool true]) (by simp [results, Tryz.results24, go_sem, rc0, rc1, rc2, rc3]) rfl ?_
  refine ⟨x0, n0, cp0, rfl, ?_, HN7.out, fun q hq _ => HF7.out.not (by omega), ?_⟩
  · repeat (first | with_reducible exact HV7.out | refine StrsAt.setCell ?_ HF7.out _ (by simp) _)
  · repeat (first | with_reducible exact CB.out | refine Below.setCell ?_ (by simp) _)

set_option maxRecDepth 100000 in
set_option maxHeartbeats 2000000 in
theorem less_r (l s r : List UInt8) (a : Option Addr) (c : Nat) (w : World) (h0 : Nil0 (.slice a 0 c)) (hr : r.isEmpty = false) :
    Calls Tryz.prog 24 #[.agg #[.string ⟨l.toArray⟩, .string ⟨s.toArray⟩, .string ⟨r.toArray⟩, .slice a 0 c]] w (LessPost w l s [] [] (.slice a 0 c) true) := by
  go_enter Tryz.func24, Tryz.ntmps24
  go_wp2_with fail
  refine bodyPost_ret (v := .tuple #[.agg #[.string ⟨l.toArray⟩, .string ⟨s.toArray⟩, .string ⟨#[]⟩, .slice a 0 c], .bool true]) (by simp [results, Tryz.results24, go_sem]) rfl ?_
  refine ⟨a, 0, c, rfl, .inl ⟨rfl, _, _, rfl⟩, h0, fun q hq h => h, ?_⟩
  repeat (first | exact Below.refl _ _ | refine Below.setCell ?_ (by simp) _ | refine Below.alloc ?_ (by simp) _)

set_option maxRecDepth 100000 in
set_option maxHeartbeats 2000000 in
theorem less_s (l s : List UInt8) (a : Option Addr) (c : Nat) (w : World) (h0 : Nil0 (.slice a 0 c)) (hs : s.isEmpty = false) :
    Calls Tryz.prog 24 #[.agg #[.string ⟨l.toArray⟩, .string ⟨s.toArray⟩, .string ⟨#[]⟩, .slice a 0 c]] w (LessPost w l [] [] [] (.slice a 0 c) true) := by
  go_enter Tryz.func24, Tryz.ntmps24
  go_wp2_with fail
  refine bodyPost_ret (v := .tuple #[.agg #[.string ⟨l.toArray⟩, .string ⟨#[]⟩, .string ⟨#[]⟩, .slice a 0 c], .bool true]) (by simp [results, Tryz.results24, go_sem]) rfl ?_
  refine ⟨a, 0, c, rfl, .inl ⟨rfl, _, _, rfl⟩, h0, fun q hq h => h, ?_⟩
  repeat (first | exact Below.refl _ _ | refine Below.setCell ?_ (by simp) _ | refine Below.alloc ?_ (by simp) _)

set_option maxRecDepth 100000 in
set_option maxHeartbeats 2000000 in
theorem less_n (l : List UInt8) (a : Option Addr) (c : Nat) (w : World) (h0 : Nil0 (.slice a 0 c)) :
    Calls Tryz.prog 24 #[.agg #[.string ⟨l.toArray⟩, .string ⟨#[]⟩, .string ⟨#[]⟩, .slice a 0 c]] w (LessPost w l [] [] [] (.slice a 0 c) false) := by
  go_enter Tryz.func24, Tryz.ntmps24
  go_wp2_with fail
  refine bodyPost_ret (v := .tuple #[.agg #[.string ⟨l.toArray⟩, .string ⟨#[]⟩, .string ⟨#[]⟩, .slice a 0 c], .bool false]) (by simp [results, Tryz.results24, go_sem]) rfl ?_
  refine ⟨a, 0, c, rfl, .inl ⟨rfl, _, _, rfl⟩, h0, fun q hq h => h, ?_⟩
  repeat (first | exact Below.refl _ _ | refine Below.setCell ?_ (by simp) _ | refine Below.alloc ?_ (by simp) _)

theorem less_any (t : Tg) (V : Value) (w : World) (hV : StrsAt w V t.vs) (h0 : Nil0 V) (hl : t.vs.length ≤ 1000000000) :
    Calls Tryz.prog 24 #[.agg #[.string ⟨t.l.toArray⟩, .string ⟨t.s.toArray⟩, .string ⟨t.r.toArray⟩, V]] w (LessPost w (t.less.getD t).l (t.less.getD t).s (t.less.getD t).r (t.less.getD t).vs V t.less.isSome) := by
  obtain ⟨l, s, r, vs⟩ := t
  dsimp only at hV hl
  rcases hV with ⟨rfl, a, cap, rfl⟩ | ⟨b, off, cap, rfl, hn, hc, _, hcell⟩
  · by_cases hr : r = []
    · subst hr
      by_cases hs : s = []
      · subst hs; exact less_n l a cap w h0
      · have e : (⟨l, s, [], []⟩ : Tg).less = some ⟨l, [], [], []⟩ := by unfold Tg.less; rw [if_neg (by simp), if_pos rfl, if_neg hs]
        rw [e]
        exact less_s l s a cap w h0 (by cases s with | nil => exact absurd rfl hs | cons _ _ => rfl)
    · have e : (⟨l, s, r, []⟩ : Tg).less = some ⟨l, s, [], []⟩ := by unfold Tg.less; rw [if_neg (by simp), if_neg hr]
      rw [e]
      exact less_r l s r a cap w h0 (by cases r with | nil => exact absurd rfl hr | cons _ _ => rfl)
  · have e : (⟨l, s, r, vs⟩ : Tg).less = some ⟨l, s, r, vs.take (vs.length - 1)⟩ := by unfold Tg.less; rw [if_pos hn]
    rw [e]
    exact less_v l s r vs ⟨b, off, none⟩ cap w hn hl hc (fun j u hu => by
      rw [List.getElem?_map] at hu
      obtain ⟨x, hx, rfl⟩ := Option.map_eq_some_iff.1 hu
      rw [show (⟨b, off, none⟩ : Addr).add j = ⟨b, off + j, none⟩ from Go.WideShapes.add_plain ..]
      exact hcell j x hx)
end Go.Proofs.YtghohnbajbikjaaGreatDoor
namespace Go.Proofs.YtghohnbajbikjaaGreatDoor
open Go.RowKit

/-- the row o holds the tags A; the box p holds the tag c -/
structure ChM (w wr : World) (o : Value) (A : List (Tg × Value)) (p : Nat) (c : Tg) (V : Value) : Prop where
  bel : Below w.heap.size w wr
  own : wr.ownsRow w.heap.size 29 4 o A.length (flat A)
  all : ∀ x ∈ (c, V) :: A, StrsAt wr x.2 x.1.vs ∧ Nil0 x.2 ∧ NotRow o.ownBlock x.2
  box : Boxed wr p (tcells c V).toArray
  pw : w.heap.size ≤ p
  pn : some p ≠ o.ownBlock
theorem ChM.mid {w wr w2 : World} {o o' : Value} {A : List (Tg × Value)} {p : Nat} {c : Tg} {V : Value} {ob : Obj} (h : ChM w wr o A p c V)
    (hown : w2.ownsRow w.heap.size 29 4 o' (A.length + 1) (flat A ++ tcells c V)) (hg : (wr.alloc ob).grownBy w2 o.ownBlock) (hat : o'.ownBlock = o.ownBlock ∨ o'.ownBlock = some (wr.alloc ob).heap.size) :
    ChM w w2 o' (A ++ [(c, V)]) p c V := by
  have hsz : (wr.alloc ob).heap.size = wr.heap.size + 1 := by simp
  refine ⟨(h.bel.alloc h.bel.size _).grown hg (by have := h.bel.size; omega) (fun k hk => (h.own.lt k hk).1), ?_, ?_, (h.box.alloc _).grown hg h.pn, h.pw, ?_⟩
  · rw [flat_snoc, List.length_append, List.length_singleton]; exact hown
  · intro x hx
    have hx' : x ∈ (c, V) :: A := by
      rcases List.mem_cons.1 hx with rfl | hx
      · exact List.mem_cons_self ..
      · rcases List.mem_append.1 hx with hx | hx
        · exact List.mem_cons_of_mem _ hx
        · rw [List.mem_singleton.1 hx]; exact List.mem_cons_self ..
    obtain ⟨a1, a2, a3⟩ := h.all x hx'
    refine ⟨(a1.alloc ob).grown hg a3, a2, ?_⟩
    rcases hat with e | e
    · rw [e]; exact a3
    · rw [e]; exact a1.old (by omega)
  · rcases hat with e | e
    · rw [e]; exact h.pn
    · rw [e]; have := h.box.lt; intro g; injection g with g; omega
theorem ChM.next {w w2 w3 : World} {o : Value} {A : List (Tg × Value)} {p : Nat} {c : Tg} {V : Value} (h : ChM w w2 o A p c V) (u : Tg) (V' : Value)
    (hb : Below (w2.alloc (.cells (tcells c V).toArray 29)).heap.size (w2.alloc (.cells (tcells c V).toArray 29)) w3) (hs : StrsAt w3 V' u.vs) (h0 : Nil0 V')
    (hf : ∀ q, q < (w2.alloc (.cells (tcells c V).toArray 29)).heap.size → NotRow (some q) V → NotRow (some q) V') :
    ChM w ((((w3.setCell ⟨w2.heap.size, 0, none⟩ (.string ⟨u.l.toArray⟩)).setCell ⟨w2.heap.size, 1, none⟩ (.string ⟨u.s.toArray⟩)).setCell ⟨w2.heap.size, 2, none⟩ (.string ⟨u.r.toArray⟩)).setCell ⟨w2.heap.size, 3, none⟩ V') o A w2.heap.size u V' := by
  have hsz : (w2.alloc (.cells (tcells c V).toArray 29)).heap.size = w2.heap.size + 1 := by simp
  have g0 : w2.grownBy w3 none := (World.grownBy_alloc w2 _ none).trans (grown_below hb none)
  have g4 := grown_new (grown_new (grown_new (grown_new g0 (grown_set w3 ⟨w2.heap.size, 0, none⟩ (.string ⟨u.l.toArray⟩)) (Nat.le_refl _)) (grown_set _ ⟨w2.heap.size, 1, none⟩ (.string ⟨u.s.toArray⟩)) (Nat.le_refl _)) (grown_set _ ⟨w2.heap.size, 2, none⟩ (.string ⟨u.r.toArray⟩)) (Nat.le_refl _)) (grown_set _ ⟨w2.heap.size, 3, none⟩ V') (Nat.le_refl _)
  have hVc := h.all _ (List.mem_cons_self ..)
  have hp : NotRow (some w2.heap.size) V' := hf _ (by omega) (hVc.1.old (Nat.le_refl _))
  have hbx := ((((Boxed.made w2 (tcells c V).toArray 29).below hb).set 0 (.string ⟨u.l.toArray⟩) (by simp [tcells])).set 1 (.string ⟨u.s.toArray⟩) (by simp [tcells])).set 2 (.string ⟨u.r.toArray⟩) (by simp [tcells]) |>.set 3 V' (by simp [tcells])
  refine ⟨h.bel.grown g4 h.bel.size (fun k hk => by cases hk), h.own.kept g4 (by cases o.ownBlock <;> simp), ?_, by simpa [tcells] using hbx, h.bel.size, ?_⟩
  · intro x hx
    rcases List.mem_cons.1 hx with rfl | hx
    · refine ⟨(((hs.put _ hp _).put _ hp _).put _ hp _).put _ hp _, h0, ?_⟩
      cases e : o.ownBlock with
      | none => exact NotRow.none _
      | some g =>
        have hl := (h.own.lt g e).2
        exact hf g (by omega) (by have := hVc.2.2; rw [e] at this; exact this)
    · obtain ⟨a1, a2, a3⟩ := h.all x (List.mem_cons_of_mem _ hx)
      exact ⟨a1.grown g4 (NotRow.none _), a2, a3⟩
  · intro e
    have := (h.own.lt _ e.symm).2
    omega
theorem ChM.start {w w4 w6 : World} (hbel : Below w.heap.size w w4) (t : Tg) (V1 : Value) (h1 : StrsAt w4 V1 t.vs) (h0 : Nil0 V1) (u : Tg) (V2 : Value)
    (hb : Below (w4.alloc (.cells (tcells t V1).toArray 29)).heap.size (w4.alloc (.cells (tcells t V1).toArray 29)) w6) (hs : StrsAt w6 V2 u.vs) (h0' : Nil0 V2)
    (hf : ∀ q, q < (w4.alloc (.cells (tcells t V1).toArray 29)).heap.size → NotRow (some q) V1 → NotRow (some q) V2) :
    ChM w (w6.alloc (.cells (tcells u V2).toArray 29)) (.slice (some ⟨w4.heap.size, 0, none⟩) 1 1) [(t, V1)] w6.heap.size u V2 := by
  have hsz : (w4.alloc (.cells (tcells t V1).toArray 29)).heap.size = w4.heap.size + 1 := by simp
  have hle := hb.size
  have hb4 := hbel.size
  have n1 : NotRow (some w4.heap.size) V1 := h1.old (Nat.le_refl _)
  have row : (w4.alloc (.cells (tcells t V1).toArray 29)).ownsRow w.heap.size 29 4 (.slice (some ⟨w4.heap.size, 0, none⟩) 1 1) 1 (flat [(t, V1)]) :=
    ⟨rfl, .inr ⟨w4.heap.size, 1, (tcells t V1).toArray, rfl, hb4, by show (w4.heap.push _)[w4.heap.size]? = _; simp, Nat.le_refl _, by unfold maxLen; omega, rfl, rfl⟩⟩
  have hb6 : Below w.heap.size w w6 := blw_trans (hbel.alloc hb4 _) hb
  refine ⟨hb6.alloc hb6.size _, (row.kept (grown_below hb none) (.inr (by simp [Value.ownBlock]))).alloc _, ?_, Boxed.made _ _ _, by omega, by simp [Value.ownBlock]; omega⟩
  intro x hx
  rcases List.mem_cons.1 hx with rfl | hx
  · exact ⟨hs.alloc _, h0', hf w4.heap.size (by rw [hsz]; omega) n1⟩
  · obtain rfl := List.mem_singleton.1 hx
    exact ⟨((h1.alloc _).below hb).alloc _, h0, n1⟩
theorem Boxed.t0 {w : World} {p : Nat} {c : Tg} {V : Value} (h : Boxed w p (tcells c V).toArray) : w.cell? ⟨p, 0, none⟩ = some (.string ⟨c.l.toArray⟩) := h.cell 0 _ rfl
theorem Boxed.t1 {w : World} {p : Nat} {c : Tg} {V : Value} (h : Boxed w p (tcells c V).toArray) : w.cell? ⟨p, 1, none⟩ = some (.string ⟨c.s.toArray⟩) := h.cell 1 _ rfl
theorem Boxed.t2 {w : World} {p : Nat} {c : Tg} {V : Value} (h : Boxed w p (tcells c V).toArray) : w.cell? ⟨p, 2, none⟩ = some (.string ⟨c.r.toArray⟩) := h.cell 2 _ rfl
theorem Boxed.t3 {w : World} {p : Nat} {c : Tg} {V : Value} (h : Boxed w p (tcells c V).toArray) : w.cell? ⟨p, 3, none⟩ = some (V) := h.cell 3 _ rfl
theorem row_slice {w : World} {base n k : Nat} {e : TypeId} {v : Value} {xs : List Value} (h : w.ownsRow base e k v n xs) : ∃ a c, v = .slice a n c := by
  obtain ⟨_, ⟨rfl, rfl⟩ | ⟨g, cap, cur, rfl, _⟩⟩ := h
  · exact ⟨_, _, rfl⟩
  · exact ⟨_, _, rfl⟩
def lenV : Value → Nat
  | .slice _ n _ => n
  | _ => 0
theorem less_vs {t u : Tg} (h : t.less = some u) : u.vs.length ≤ t.vs.length := by
  unfold Tg.less at h
  split at h
  · obtain rfl := Option.some.inj h
    rw [List.length_take]; omega
  · split at h
    · split at h
      · cases h
      · obtain rfl := Option.some.inj h; exact Nat.le_refl _
    · obtain rfl := Option.some.inj h; exact Nat.le_refl _
theorem chain_small : ∀ (n : Nat) (t : Tg), t.size = n → t.chain.length ≤ n + 1 ∧ ∀ x ∈ t.chain, x.vs.length ≤ t.vs.length
  | 0, t, hn => by
    have hl : t.less = none := by
      cases e : t.less with
      | none => rfl
      | some u => have := less_size e; omega
    rw [chain_none hl]
    exact ⟨Nat.le_refl _, fun x hx => by rw [List.mem_singleton.1 hx]; exact Nat.le_refl _⟩
  | n + 1, t, hn => by
    cases e : t.less with
    | none =>
      rw [chain_none e]
      exact ⟨by simp, fun x hx => by rw [List.mem_singleton.1 hx]; exact Nat.le_refl _⟩
    | some u =>
      have hs := less_size e
      obtain ⟨h1, h2⟩ := chain_small n u (by omega)
      rw [chain_some e]
      refine ⟨by simpa using h1, fun x hx => ?_⟩
      rcases List.mem_cons.1 hx with rfl | hx
      · exact Nat.le_refl _
      · exact Nat.le_trans (h2 x hx) (less_vs e)
theorem chain_step (c : Tg) : c.chain = c :: (if c.less.isSome then (c.less.getD c).chain else []) := by
  cases e : c.less with
  | none => rw [chain_none e]; rfl
  | some u => rw [chain_some e]; rfl
theorem chain_self (c : Tg) : c ∈ c.chain := by rw [chain_step]; exact List.mem_cons_self ..
theorem chain_turn {L : List Tg} {A : List (Tg × Value)} {c : Tg} (V : Value) (h : L = A.map (·.1) ++ (if true = true then c.chain else [])) : L = (A ++ [(c, V)]).map (·.1) ++ (if c.less.isSome then (c.less.getD c).chain else []) := by
  rw [h, if_pos rfl, List.map_append, List.append_assoc]
  exact congrArg (A.map (·.1) ++ ·) (chain_step c)
end Go.Proofs.YtghohnbajbikjaaGreatDoor
namespace Go.Proofs.YtghohnbajbikjaaGreatDoor
open Go.RowKit

theorem infoTag : (Tryz.prog.info? 29).map (fun i => (i.zero, i.size, i.bytes)) = some (some (.agg #[.string ByteArray.empty, .string ByteArray.empty, .string ByteArray.empty, .slice none 0 0]), 4, 72) := by kernel_rfl
theorem cells_new (w : World) (xs : List Value) (t : TypeId) : ∀ j u, xs[j]? = some u → (w.alloc (.cells xs.toArray t)).cell? ((⟨w.heap.size, 0, none⟩ : Addr).add j) = some u := by
  intro j u hj
  rw [show (⟨w.heap.size, 0, none⟩ : Addr).add j = ⟨w.heap.size, 0 + j, none⟩ from Go.WideShapes.add_plain .., Nat.zero_add]
  simp [go_sem, hj]
theorem tcells_one (t : Tg) (a : Option Addr) (n c : Nat) : ∀ u ∈ tcells t (.slice a n c), u.oneCell' = true := by
  intro u hu
  simp [tcells] at hu
  rcases hu with rfl | rfl | rfl | rfl <;> rfl

set_option maxRecDepth 100000 in
set_option maxHeartbeats 1000000 in
theorem chain_bad (l s r : List UInt8) (vs : List (List UInt8)) (V : Value) (w : World) (hV : StrsAt w V vs) (bl : l.length + s.length + r.length ≤ 1000000000) (bv : ∀ x ∈ vs, x.length ≤ 1000000000) (hF : tagFault l s r vs ≠ 0) :
    Calls Tryz.prog 7 #[.agg #[.string ⟨l.toArray⟩, .string ⟨s.toArray⟩, .string ⟨r.toArray⟩, V]] w fun e w' => e = .returned (.tuple #[.slice none 0 0, errE (tagFault l s r vs)]) ∧ Below w.heap.size w w' := by
  have CK := Lib.hid fun wx h => check_any l s r vs V wx h bl bv
  obtain ⟨a, n, c, rfl⟩ := hV.isSlice
  generalize tagFault l s r vs = Fl at *
  rw [errE_some hF] at CK ⊢
  go_enter Tryz.func7, Tryz.ntmps7
  go_wp2_with fail
  refine (CK.out _ (hV.alloc _)).mono ?_
  rintro e w1 ⟨rfl, hb⟩
  go_wp2_with fail
  go_ret2
  exact ⟨rfl, blw_trans (blw_alloc _ _) hb⟩

set_option maxRecDepth 100000 in
set_option maxHeartbeats 4000000 in
theorem chain_ok_nil (l s r : List UInt8) (w : World) (hV : StrsAt w (.slice none 0 0) []) (bt : l.length + s.length + r.length + Lib.lens ([] : List (List UInt8)) + ([] : List (List UInt8)).length ≤ 100000000) (hF : tagFault l s r [] = 0) :
    Calls Tryz.prog 7 #[.agg #[.string ⟨l.toArray⟩, .string ⟨s.toArray⟩, .string ⟨r.toArray⟩, .slice none 0 0]] w fun e w' => ∃ v, e = .returned (.tuple #[v, .nilIface]) ∧ TagsAt w' v (⟨l, s, r, []⟩ : Tg).chain ∧ Below w.heap.size w w' := by
  obtain ⟨vs, hvs⟩ : ∃ vs : List (List UInt8), vs = [] := ⟨_, rfl⟩
  rw [← hvs] at hV bt hF ⊢
  obtain ⟨i0, hi, hz0, hz1, hz2⟩ := info_parts infoStr
  obtain ⟨iT, hiT, hT0, hT1, hT2⟩ := info_parts infoTag
  have CK := Lib.hid fun wx h => check_any l s r vs (.slice none 0 0) wx h (by omega) (fun x hx => by have := lens_mem hx; omega)
  rw [hF, errE_nil rfl] at CK
  have LC := Lib.hid fun t V w h h0 hl => less_any t V w h h0 hl
  have bvs : vs.length ≤ 1000000000 := by omega
  have HCS0 := Lib.hid (chain_small _ (⟨l, s, r, vs⟩ : Tg) rfl)
  have hszT : (⟨l, s, r, vs⟩ : Tg).size ≤ 1000000005 := by
    have a1 : (one s).length ≤ 1 := by unfold one; split <;> simp
    have a2 : (one r).length ≤ 1 := by unfold one; split <;> simp
    show (one s).length + ((one r).length + vs.length) ≤ _
    omega
  obtain ⟨t0, ht0⟩ : ∃ t0 : Tg, t0 = ⟨l, s, r, vs⟩ := ⟨_, rfl⟩
  have HT0 := Lib.hid (show t0.chain = (⟨l, s, r, vs⟩ : Tg).chain by rw [ht0])
  have HCS := Lib.hid (show t0.chain.length ≤ 1000000006 ∧ ∀ x ∈ t0.chain, x.vs.length ≤ vs.length by rw [ht0]; exact ⟨Nat.le_trans HCS0.out.1 (by omega), HCS0.out.2⟩)
  have bvs0 := bvs
  have HV0 := Lib.hid hV
  clear ht0 HCS0 hF hV
  go_enter Tryz.func7, Tryz.ntmps7
  go_wp2_with fail
  refine (CK.out _ (HV0.out.alloc _)).mono ?_
  rintro e w1 ⟨rfl, hb⟩
  have W1 := Lib.hid (blw_trans (blw_alloc w (.cells #[.string ⟨l.toArray⟩, .string ⟨s.toArray⟩, .string ⟨r.toArray⟩, .slice none 0 0] 29)) hb)
  have B1 := Lib.hid ((Boxed.made w #[.string ⟨l.toArray⟩, .string ⟨s.toArray⟩, .string ⟨r.toArray⟩, .slice none 0 0] 29).below hb)
  have hsz1 := hb.size
  rw [show (w.alloc (.cells #[.string ⟨l.toArray⟩, .string ⟨s.toArray⟩, .string ⟨r.toArray⟩, .slice none 0 0] 29)).heap.size = w.heap.size + 1 by simp] at hsz1
  clear hb CK
  have k0 := B1.out.cell 0 _ rfl
  have k1 := B1.out.cell 1 _ rfl
  have k2 := B1.out.cell 2 _ rfl
  have k3 := B1.out.cell 3 _ rfl
  have f3 := B1.out.free 3 (by simp)
  have S4 := Lib.hid (show Below w.heap.size w (w1.setCell ⟨w.heap.size, 3, none⟩ (.slice none 0 0)) ∧ StrsAt (w1.setCell ⟨w.heap.size, 3, none⟩ (.slice none 0 0)) (.slice none 0 0) vs ∧ Nil0 (.slice none 0 0) from
    ⟨W1.out.setCell (Nat.le_refl _) _, .inl ⟨hvs, none, 0, rfl⟩, fun n c e => by injection e with _ _ e; exact e.symm⟩)
  clear hvs
  have hl1 : w.heap.size < w1.heap.size := by omega
  have ne1 : ¬ w.heap.size = w1.heap.size := by omega
  have ne2 : ¬ w1.heap.size = w.heap.size := by omega
  go_wp2_with (at_builtin; refine wpList_append_own_none rfl _ _ 27 rfl (w.heap.size + 1) 9 i0 1 Tryz.underlying27 hi _ 0 [] rfl ⟨rfl, .inl ⟨rfl, rfl⟩⟩ rfl ?_)
  refine (LC.out ⟨l, s, r, vs⟩ (.slice none 0 0) _ (S4.out.2.1.alloc _) S4.out.2.2 bvs).mono ?_
  rintro e w6 ⟨a2, n2, c2, rfl, hs2, hz2', hf2, hb2⟩
  have M0 := Lib.hid (ChM.start S4.out.1 ⟨l, s, r, vs⟩ (.slice none 0 0) S4.out.2.1 S4.out.2.2 _ _ hb2 hs2 hz2' hf2)
  rw [size_setCell] at M0
  have HC0 := Lib.hid (show t0.chain = [((⟨l, s, r, vs⟩ : Tg), Value.slice none 0 0)].map (·.1) ++ (if (⟨l, s, r, vs⟩ : Tg).less.isSome then ((⟨l, s, r, vs⟩ : Tg).less.getD ⟨l, s, r, vs⟩).chain else []) by rw [HT0.out]; exact chain_step _)
  clear hs2 hz2' hf2 hb2 S4
  generalize (⟨l, s, r, vs⟩ : Tg).less.isSome = is0 at *
  generalize (⟨l, s, r, vs⟩ : Tg).less.getD ⟨l, s, r, vs⟩ = u0 at *
  go_wp2_with fail
  go_loopw [5, 6, 7] (fun o p b wr => ∃ (A : List (Tg × Value)) (pp : Nat) (c : Tg) (a : Option Addr) (n cp : Nat) (ao : Option Addr) (co : Nat) (is : Bool), o = .slice ao A.length co ∧ p = .pointer (some ⟨pp, 0, none⟩) ∧ b = .bool is ∧ Hid (ChM w wr (.slice ao A.length co) A pp c (.slice a n cp)) ∧ Hid (t0.chain = A.map (·.1) ++ (if is then c.chain else []))) (fun o _ _ _ => t0.chain.length - lenV o)
  case atStart => exact ⟨[(⟨l, s, r, vs⟩, .slice none 0 0)], w6.heap.size, u0, a2, n2, c2, _, 1, is0, rfl, rfl, rfl, M0, HC0⟩
  case round =>
    obtain ⟨A, pp, c, a, n, cp, ao, co, is, rfl, rfl, rfl, HM, HC⟩ := hrel
    clear M0 HC0
    cases is with
    | false =>
      have HE := Lib.hid (show t0.chain = A.map (·.1) by rw [HC.out]; simp)
      go_wp2_with fail
      go_ret2
      exact ⟨_, rfl, by rw [← HT0.out, HE.out]; exact TagsAt.of_row HM.out.own (fun x hx => ⟨(HM.out.all x (List.mem_cons_of_mem _ hx)).1, (HM.out.all x (List.mem_cons_of_mem _ hx)).2.1⟩), HM.out.bel⟩
    | true =>
      have hcl : A.length < t0.chain.length := by
        have e := congrArg List.length HC.out
        rw [List.length_append, List.length_map, if_pos rfl, chain_step c] at e
        rw [e]; simp
      have hcv : c.vs.length ≤ 1000000000 := Nat.le_trans (HCS.out.2 c (by rw [HC.out, if_pos rfl]; exact List.mem_append_right _ (chain_self c))) bvs0
      have hal : A.length ≤ 1000000010 := by have := HCS.out.1; omega
      have HC' := Lib.hid (show t0.chain = (A ++ [(c, Value.slice a n cp)]).map (·.1) ++ (if c.less.isSome then (c.less.getD c).chain else []) from chain_turn _ HC.out)
      have hbs := HM.out.bel.size
      have own := HM.out.own
      have k0 := HM.out.box.t0
      have k1 := HM.out.box.t1
      have k2 := HM.out.box.t2
      have k3 := HM.out.box.t3
      clear HC
      go_wp2_with (at_builtin; refine wpList_append_own_at _ rfl _ _ 33 rfl w.heap.size 29 iT _ 4 72 Tryz.underlying33 hiT hT0 hT1 hT2 rfl (by decide) _ A.length (flat A) rfl (own.alloc _) ⟨wr.heap.size, 0, none⟩ 1 1 (tcells c (.slice a n cp)) rfl rfl (cells_new _ _ _) (tcells_one _ _ _ _) (by unfold maxLen; omega) (by omega) (by simp; omega) ?_; intro o' w2 hown hgrow _ hat; have M2 := Lib.hid (HM.out.mid hown hgrow hat); obtain ⟨ao', co', rfl⟩ := row_slice hown; clear hown hgrow hat own k0 k1 k2 k3; have k0 := M2.out.box.t0; have k1 := M2.out.box.t1; have k2 := M2.out.box.t2; have k3 := M2.out.box.t3)
      refine (LC.out c (.slice a n cp) _ ((M2.out.all _ (List.mem_cons_self ..)).1.alloc _) (M2.out.all _ (List.mem_cons_self ..)).2.1 hcv).mono ?_
      rintro e w3 ⟨a3, n3, c3, rfl, hs3, hz3, hf3, hb3⟩
      have N3 := Lib.hid (M2.out.next _ (.slice a3 n3 c3) hb3 hs3 hz3 hf3)
      have B3 := Lib.hid ((Boxed.made w2 (tcells c (.slice a n cp)).toArray 29).below hb3)
      clear k0 k1 k2 k3 hs3 hz3 hf3 hb3 HM M2
      have f0 := B3.out.free 0 (by simp [tcells])
      have f1 := B3.out.free 1 (by simp [tcells])
      have f2 := B3.out.free 2 (by simp [tcells])
      have f3 := B3.out.free 3 (by simp [tcells])
      have k0 := B3.out.t0
      have k1 := B3.out.t1
      have k2 := B3.out.t2
      have k3 := B3.out.t3
      generalize c.less.isSome = is1 at *
      generalize c.less.getD c = u1 at *
      go_wp2_with fail
      go_roundw
      case rel => exact ⟨A ++ [(c, .slice a n cp)], w2.heap.size, u1, a3, n3, c3, ao', co', is1, by rw [List.length_append, List.length_singleton], rfl, rfl, Lib.hid (by have q := N3.out; rw [List.length_append, List.length_singleton]; exact q), HC'⟩
      case measure => simp [lenV]; omega

set_option maxRecDepth 100000 in
set_option maxHeartbeats 4000000 in
theorem chain_ok_some (l s r : List UInt8) (vs : List (List UInt8)) (ad : Addr) (cap : Nat) (w : World) (hV : StrsAt w (.slice (some ad) vs.length cap) vs) (bt : l.length + s.length + r.length + Lib.lens vs + vs.length ≤ 100000000) (hF : tagFault l s r vs = 0) :
    Calls Tryz.prog 7 #[.agg #[.string ⟨l.toArray⟩, .string ⟨s.toArray⟩, .string ⟨r.toArray⟩, .slice (some ad) vs.length cap]] w fun e w' => ∃ v, e = .returned (.tuple #[v, .nilIface]) ∧ TagsAt w' v (⟨l, s, r, vs⟩ : Tg).chain ∧ Below w.heap.size w w' := by
  obtain ⟨i0, hi, hz0, hz1, hz2⟩ := info_parts infoStr
  obtain ⟨iT, hiT, hT0, hT1, hT2⟩ := info_parts infoTag
  have CK := Lib.hid fun wx h => check_any l s r vs (.slice (some ad) vs.length cap) wx h (by omega) (fun x hx => by have := lens_mem hx; omega)
  rw [hF, errE_nil rfl] at CK
  have LC := Lib.hid fun t V w h h0 hl => less_any t V w h h0 hl
  have bvs : vs.length ≤ 1000000000 := by omega
  have HCS0 := Lib.hid (chain_small _ (⟨l, s, r, vs⟩ : Tg) rfl)
  have hszT : (⟨l, s, r, vs⟩ : Tg).size ≤ 1000000005 := by
    have a1 : (one s).length ≤ 1 := by unfold one; split <;> simp
    have a2 : (one r).length ≤ 1 := by unfold one; split <;> simp
    show (one s).length + ((one r).length + vs.length) ≤ _
    omega
  obtain ⟨t0, ht0⟩ : ∃ t0 : Tg, t0 = ⟨l, s, r, vs⟩ := ⟨_, rfl⟩
  have HT0 := Lib.hid (show t0.chain = (⟨l, s, r, vs⟩ : Tg).chain by rw [ht0])
  have HCS := Lib.hid (show t0.chain.length ≤ 1000000006 ∧ ∀ x ∈ t0.chain, x.vs.length ≤ vs.length by rw [ht0]; exact ⟨Nat.le_trans HCS0.out.1 (by omega), HCS0.out.2⟩)
  have bvs0 := bvs
  have HV0 := Lib.hid hV
  clear ht0 HCS0 hF hV
  have HNW := Lib.hid (show ∀ wx, Below w.heap.size w wx → ∀ (j : Nat) u, (vs.map txtV)[j]? = some u → wx.cell? (ad.add j) = some u from fun wx hb j u hu => by
    rcases HV0.out.open with ⟨_, e, _⟩ | ⟨ad', cap', e, hc⟩
    · cases e
    · injection e with e _ _
      injection e with e
      subst e
      exact cell_keep (hc j u hu) hb)
  have HLN := Lib.hid (show (vs.map txtV).length = vs.length * 1 by rw [List.length_map, Nat.mul_one])
  go_enter Tryz.func7, Tryz.ntmps7
  go_wp2_with fail
  refine (CK.out _ (HV0.out.alloc _)).mono ?_
  rintro e w1 ⟨rfl, hb⟩
  have W1 := Lib.hid (blw_trans (blw_alloc w (.cells #[.string ⟨l.toArray⟩, .string ⟨s.toArray⟩, .string ⟨r.toArray⟩, .slice (some ad) vs.length cap] 29)) hb)
  have B1 := Lib.hid ((Boxed.made w #[.string ⟨l.toArray⟩, .string ⟨s.toArray⟩, .string ⟨r.toArray⟩, .slice (some ad) vs.length cap] 29).below hb)
  have hsz1 := hb.size
  rw [show (w.alloc (.cells #[.string ⟨l.toArray⟩, .string ⟨s.toArray⟩, .string ⟨r.toArray⟩, .slice (some ad) vs.length cap] 29)).heap.size = w.heap.size + 1 by simp] at hsz1
  clear hb CK
  have k0 := B1.out.cell 0 _ rfl
  have k1 := B1.out.cell 1 _ rfl
  have k2 := B1.out.cell 2 _ rfl
  have k3 := B1.out.cell 3 _ rfl
  have f3 := B1.out.free 3 (by simp)
  go_wp2_with (at_builtin; refine wpList_append_own_at _ rfl _ _ 27 rfl (w.heap.size + 1) 9 i0 (.string ByteArray.empty) 1 16 Tryz.underlying27 hi hz0 hz1 hz2 rfl (by decide) (.slice none 0 0) 0 [] rfl ⟨rfl, .inl ⟨rfl, rfl⟩⟩ ad vs.length cap (vs.map txtV) rfl HLN.out (HNW.out _ W1.out) (fun x hx => by obtain ⟨y, _, rfl⟩ := List.mem_map.1 hx; rfl) (by unfold maxLen; omega) (by omega) hsz1 ?_; intro v' w2 hown hgrow _ _; have hg2 := (show World.grownBy _ _ none from hgrow); have HOW := Lib.hid hown; have B2 := Lib.hid (B1.out.grown hg2 (by simp)); have W2 := Lib.hid (W1.out.grown hg2 (by omega) (fun k hk => by cases hk)); have HN7 := Lib.hid (Nil0.of_row HOW.out); have HF7 := Lib.hid (FarV.of_row HOW.out); have HV7 := Lib.hid (show StrsAt w2 v' vs from StrsAt.of_row (by have h7 := HOW.out; rw [List.nil_append] at h7; exact h7)); clear hown hgrow hg2 HOW B1 W1 k0 k1 k2 k3 f3; obtain ⟨x0, n0, cp0, rfl⟩ := HV7.out.isSlice; have k0 := B2.out.cell 0 _ rfl; have k1 := B2.out.cell 1 _ rfl; have k2 := B2.out.cell 2 _ rfl; have k3 := B2.out.cell 3 _ rfl; have f3 := B2.out.free 3 (by simp); have hl2 := B2.out.lt; have ne1 : ¬ w.heap.size = w2.heap.size := (by omega); have ne2 : ¬ w2.heap.size = w.heap.size := (by omega); have S4 := Lib.hid (show Below w.heap.size w (w2.setCell ⟨w.heap.size, 3, none⟩ (.slice x0 n0 cp0)) ∧ StrsAt (w2.setCell ⟨w.heap.size, 3, none⟩ (.slice x0 n0 cp0)) (.slice x0 n0 cp0) vs ∧ Nil0 (.slice x0 n0 cp0) from ⟨W2.out.setCell (Nat.le_refl _) _, HV7.out.setCell HF7.out _ (by show w.heap.size < w.heap.size + 1; omega) _, HN7.out⟩); clear HN7 HF7 HV7 W2)
  refine (LC.out ⟨l, s, r, vs⟩ (.slice x0 n0 cp0) _ (S4.out.2.1.alloc _) S4.out.2.2 bvs).mono ?_
  rintro e w6 ⟨a2, n2, c2, rfl, hs2, hz2', hf2, hb2⟩
  have M0 := Lib.hid (ChM.start S4.out.1 ⟨l, s, r, vs⟩ (.slice x0 n0 cp0) S4.out.2.1 S4.out.2.2 _ _ hb2 hs2 hz2' hf2)
  rw [size_setCell] at M0
  have HC0 := Lib.hid (show t0.chain = [((⟨l, s, r, vs⟩ : Tg), Value.slice x0 n0 cp0)].map (·.1) ++ (if (⟨l, s, r, vs⟩ : Tg).less.isSome then ((⟨l, s, r, vs⟩ : Tg).less.getD ⟨l, s, r, vs⟩).chain else []) by rw [HT0.out]; exact chain_step _)
  clear hs2 hz2' hf2 hb2 S4
  generalize (⟨l, s, r, vs⟩ : Tg).less.isSome = is0 at *
  generalize (⟨l, s, r, vs⟩ : Tg).less.getD ⟨l, s, r, vs⟩ = u0 at *
  go_wp2_with fail
  go_loopw [5, 6, 7] (fun o p b wr => ∃ (A : List (Tg × Value)) (pp : Nat) (c : Tg) (a : Option Addr) (n cp : Nat) (ao : Option Addr) (co : Nat) (is : Bool), o = .slice ao A.length co ∧ p = .pointer (some ⟨pp, 0, none⟩) ∧ b = .bool is ∧ Hid (ChM w wr (.slice ao A.length co) A pp c (.slice a n cp)) ∧ Hid (t0.chain = A.map (·.1) ++ (if is then c.chain else []))) (fun o _ _ _ => t0.chain.length - lenV o)
  case atStart => exact ⟨[(⟨l, s, r, vs⟩, .slice x0 n0 cp0)], w6.heap.size, u0, a2, n2, c2, _, 1, is0, rfl, rfl, rfl, M0, HC0⟩
  case round =>
    obtain ⟨A, pp, c, a, n, cp, ao, co, is, rfl, rfl, rfl, HM, HC⟩ := hrel
    clear M0 HC0
    cases is with
    | false =>
      have HE := Lib.hid (show t0.chain = A.map (·.1) by rw [HC.out]; simp)
      go_wp2_with fail
      go_ret2
      exact ⟨_, rfl, by rw [← HT0.out, HE.out]; exact TagsAt.of_row HM.out.own (fun x hx => ⟨(HM.out.all x (List.mem_cons_of_mem _ hx)).1, (HM.out.all x (List.mem_cons_of_mem _ hx)).2.1⟩), HM.out.bel⟩
    | true =>
      have hcl : A.length < t0.chain.length := by
        have e := congrArg List.length HC.out
        rw [List.length_append, List.length_map, if_pos rfl, chain_step c] at e
        rw [e]; simp
      have hcv : c.vs.length ≤ 1000000000 := Nat.le_trans (HCS.out.2 c (by rw [HC.out, if_pos rfl]; exact List.mem_append_right _ (chain_self c))) bvs0
      have hal : A.length ≤ 1000000010 := by have := HCS.out.1; omega
      have HC' := Lib.hid (show t0.chain = (A ++ [(c, Value.slice a n cp)]).map (·.1) ++ (if c.less.isSome then (c.less.getD c).chain else []) from chain_turn _ HC.out)
      have hbs := HM.out.bel.size
      have own := HM.out.own
      have k0 := HM.out.box.t0
      have k1 := HM.out.box.t1
      have k2 := HM.out.box.t2
      have k3 := HM.out.box.t3
      clear HC
      go_wp2_with (at_builtin; refine wpList_append_own_at _ rfl _ _ 33 rfl w.heap.size 29 iT _ 4 72 Tryz.underlying33 hiT hT0 hT1 hT2 rfl (by decide) _ A.length (flat A) rfl (own.alloc _) ⟨wr.heap.size, 0, none⟩ 1 1 (tcells c (.slice a n cp)) rfl rfl (cells_new _ _ _) (tcells_one _ _ _ _) (by unfold maxLen; omega) (by omega) (by simp; omega) ?_; intro o' w2 hown hgrow _ hat; have M2 := Lib.hid (HM.out.mid hown hgrow hat); obtain ⟨ao', co', rfl⟩ := row_slice hown; clear hown hgrow hat own k0 k1 k2 k3; have k0 := M2.out.box.t0; have k1 := M2.out.box.t1; have k2 := M2.out.box.t2; have k3 := M2.out.box.t3)
      refine (LC.out c (.slice a n cp) _ ((M2.out.all _ (List.mem_cons_self ..)).1.alloc _) (M2.out.all _ (List.mem_cons_self ..)).2.1 hcv).mono ?_
      rintro e w3 ⟨a3, n3, c3, rfl, hs3, hz3, hf3, hb3⟩
      have N3 := Lib.hid (M2.out.next _ (.slice a3 n3 c3) hb3 hs3 hz3 hf3)
      have B3 := Lib.hid ((Boxed.made w2 (tcells c (.slice a n cp)).toArray 29).below hb3)
      clear k0 k1 k2 k3 hs3 hz3 hf3 hb3 HM M2
      have f0 := B3.out.free 0 (by simp [tcells])
      have f1 := B3.out.free 1 (by simp [tcells])
      have f2 := B3.out.free 2 (by simp [tcells])
      have f3 := B3.out.free 3 (by simp [tcells])
      have k0 := B3.out.t0
      have k1 := B3.out.t1
      have k2 := B3.out.t2
      have k3 := B3.out.t3
      generalize c.less.isSome = is1 at *
      generalize c.less.getD c = u1 at *
      go_wp2_with fail
      go_roundw
      case rel => exact ⟨A ++ [(c, .slice a n cp)], w2.heap.size, u1, a3, n3, c3, ao', co', is1, by rw [List.length_append, List.length_singleton], rfl, rfl, Lib.hid (by have q := N3.out; rw [List.length_append, List.length_singleton]; exact q), HC'⟩
      case measure => simp [lenV]; omega

/-- chain.Chain: the error, or the list -/
theorem chain_any (l s r : List UInt8) (vs : List (List UInt8)) (V : Value) (w : World) (hV : StrsAt w V vs) (h0 : Nil0 V) (bt : l.length + s.length + r.length + Lib.lens vs + vs.length ≤ 100000000) :
    Calls Tryz.prog 7 #[.agg #[.string ⟨l.toArray⟩, .string ⟨s.toArray⟩, .string ⟨r.toArray⟩, V]] w fun e w' => ∃ a n c, e = .returned (.tuple #[.slice a n c, errE (tagFault l s r vs)]) ∧ TagsAt w' (.slice a n c) (if tagFault l s r vs = 0 then (⟨l, s, r, vs⟩ : Tg).chain else []) ∧ Below w.heap.size w w' := by
  by_cases hF : tagFault l s r vs = 0
  · have C : Calls Tryz.prog 7 #[.agg #[.string ⟨l.toArray⟩, .string ⟨s.toArray⟩, .string ⟨r.toArray⟩, V]] w fun e w' => ∃ v, e = .returned (.tuple #[v, .nilIface]) ∧ TagsAt w' v (⟨l, s, r, vs⟩ : Tg).chain ∧ Below w.heap.size w w' := by
      have hV' := hV
      rcases hV.open with ⟨cap, rfl, rfl⟩ | ⟨ad, cap, rfl, _⟩
      · obtain rfl := h0 _ _ rfl
        exact chain_ok_nil l s r w hV' bt hF
      · exact chain_ok_some l s r vs ad cap w hV' bt hF
    refine C.mono ?_
    rintro e w' ⟨v, rfl, ht, hb⟩
    obtain ⟨a, n, c, rfl⟩ := ht.isSlice
    exact ⟨a, n, c, by rw [errE_nil hF], by rw [if_pos hF]; exact ht, hb⟩
  · refine (chain_bad l s r vs V w hV (by omega) (fun x hx => by have := lens_mem hx; omega) hF).mono ?_
    rintro e w' ⟨rfl, hb⟩
    exact ⟨none, 0, 0, rfl, by rw [if_neg hF]; exact .inl ⟨rfl, _, _, rfl⟩, hb⟩
end Go.Proofs.YtghohnbajbikjaaGreatDoor
namespace Go.Proofs.YtghohnbajbikjaaGreatDoor
open Go.RowKit

def Tg.bulk (t : Tg) : Nat := t.l.length + t.s.length + t.r.length + Lib.lens t.vs + t.vs.length
theorem lens_take (k : Nat) : ∀ l : List (List UInt8), Lib.lens (l.take k) ≤ Lib.lens l := fun l => by
  have h : Lib.lens (l.take k ++ l.drop k) = Lib.lens (l.take k) + Lib.lens (l.drop k) := by unfold Lib.lens; rw [List.map_append, List.sum_append]
  rw [List.take_append_drop] at h
  omega
theorem less_bulk {t u : Tg} (h : t.less = some u) : u.bulk ≤ t.bulk := by
  unfold Tg.less at h
  split at h
  · obtain rfl := Option.some.inj h
    have := lens_take (t.vs.length - 1) t.vs
    simp only [Tg.bulk, List.length_take]; omega
  · split at h
    · split at h
      · cases h
      · obtain rfl := Option.some.inj h
        simp only [Tg.bulk, List.length_nil]; omega
    · obtain rfl := Option.some.inj h
      simp only [Tg.bulk, List.length_nil]; omega
theorem chain_bulk : ∀ (n : Nat) (t : Tg), t.size = n → ∀ x ∈ t.chain, x.bulk ≤ t.bulk
  | n, t, hn => fun x hx => by
    cases e : t.less with
    | none =>
      rw [chain_none e] at hx
      rw [List.mem_singleton.1 hx]; exact Nat.le_refl _
    | some u =>
      have hs := less_size e
      rw [chain_some e] at hx
      rcases List.mem_cons.1 hx with rfl | hx
      · exact Nat.le_refl _
      · cases n with
        | zero => omega
        | succ n => exact Nat.le_trans (chain_bulk n u (by omega) x hx) (less_bulk e)
end Go.Proofs.YtghohnbajbikjaaGreatDoor
namespace Dtx
open Go Go.Lib
end Dtx
namespace Byt
open Go Go.Lib
end Byt
namespace Byt
open Go Go.Lib

end Byt
namespace Rul
open Go Go.Lib

theorem idx_none {c : UInt8} {sub X : List UInt8} (hc : c ∈ sub) (h : c ∉ X) : index X sub = -1 := by
  refine index_none fun j _ => ?_
  cases ho : occAt X sub j with
  | false => rfl
  | true =>
    exfalso
    obtain ⟨T, hT⟩ := List.isPrefixOf_iff_prefix.1 (show sub.isPrefixOf (X.drop j) = true from ho)
    exact h (List.mem_of_mem_drop (hT ▸ List.mem_append_left _ hc))
theorem split_none {c : UInt8} {sub X : List UInt8} (hc : c ∈ sub) (h : c ∉ X) : split X sub = [X] := Spl.split_miss (idx_none hc h)
/-- a relation of a rule -/
structure Rl where
  op : UInt8
  mod : Int
  no : Bool
  rs : List (Int × Int)
end Rul
namespace Go.Proofs.YtghohnbajbikjaaGreatDoor
open Go.RowKit

/-- a slice of elements of m cells each, of which each lies as C says -/
def SlAt {α : Type} (m : Nat) (C : World → Nat → Nat → α → Prop) (w : World) (v : Value) (l : List α) : Prop :=
  (l = [] ∧ ∃ a c, v = .slice a 0 c) ∨
  ∃ b off cap, v = .slice (some ⟨b, off, none⟩) l.length cap ∧ 0 < l.length ∧ l.length ≤ cap ∧ cap ≤ maxLen ∧ ∀ (j : Nat) x, l[j]? = some x → C w b (off + j * m) x
theorem SlAt.imp {α : Type} {m : Nat} {C : World → Nat → Nat → α → Prop} {w w' : World} {v : Value} {l : List α} (h : SlAt m C w v l) (hC : ∀ b k x, x ∈ l → C w b k x → C w' b k x) : SlAt m C w' v l := by
  rcases h with h | ⟨b, off, cap, h1, h2, h3, h4, h5⟩
  · exact .inl h
  · exact .inr ⟨b, off, cap, h1, h2, h3, h4, fun j x hx => hC _ _ _ (List.mem_of_getElem? hx) (h5 j x hx)⟩
theorem SlAt.spread {α : Type} {m : Nat} {C : World → Nat → Nat → α → Prop} {w : World} {v : Value} {l : List α} (h : SlAt m C w v l) :
    ∃ A cap, v = .slice A l.length cap ∧ l.length ≤ maxLen ∧ ∀ (j : Nat) x, l[j]? = some x → ∃ b off, A = some ⟨b, off, none⟩ ∧ C w b (off + j * m) x := by
  rcases h with ⟨rfl, a, c, rfl⟩ | ⟨b, off, cap, rfl, _, h3, h4, h5⟩
  · exact ⟨a, c, rfl, Nat.zero_le _, fun j x hx => by simp at hx⟩
  · exact ⟨_, cap, rfl, by omega, fun j x hx => ⟨b, off, rfl, h5 j x hx⟩⟩
theorem SlAt.isSlice {α : Type} {m : Nat} {C : World → Nat → Nat → α → Prop} {w : World} {v : Value} {l : List α} (h : SlAt m C w v l) : ∃ a n c, v = .slice a n c := by
  obtain ⟨A, cap, e, _⟩ := h.spread
  exact ⟨_, _, _, e⟩
/-- a range's two cells -/
def RngC (w : World) (b k : Nat) (p : Int × Int) : Prop := w.cell? ⟨b, k, none⟩ = some (.int .i64 p.1) ∧ w.cell? ⟨b, k + 1, none⟩ = some (.int .i64 p.2)
/-- a relation's four cells -/
def RelC (w : World) (b k : Nat) (r : Rul.Rl) : Prop := ∃ a n c, w.cell? ⟨b, k, none⟩ = some (.int .u8 (r.op.toNat : Int)) ∧ w.cell? ⟨b, k + 1, none⟩ = some (.int .i64 r.mod) ∧ w.cell? ⟨b, k + 2, none⟩ = some (.bool r.no) ∧ w.cell? ⟨b, k + 3, none⟩ = some (.slice a n c) ∧ SlAt 2 RngC w (.slice a n c) r.rs
/-- a part's cell -/
def PartC (w : World) (b k : Nat) (l : List Rul.Rl) : Prop := ∃ a n c, w.cell? ⟨b, k, none⟩ = some (.slice a n c) ∧ SlAt 4 RelC w (.slice a n c) l
theorem RngC.below {w w' : World} {b k : Nat} {p : Int × Int} (h : RngC w b k p) (hb : Below w.heap.size w w') : RngC w' b k p := ⟨cell_keep h.1 hb, cell_keep h.2 hb⟩
theorem SlAt.rngs_below {w w' : World} {v : Value} {l : List (Int × Int)} (h : SlAt 2 RngC w v l) (hb : Below w.heap.size w w') : SlAt 2 RngC w' v l := h.imp fun _ _ _ _ g => g.below hb
theorem RelC.below {w w' : World} {b k : Nat} {r : Rul.Rl} (h : RelC w b k r) (hb : Below w.heap.size w w') : RelC w' b k r := by
  obtain ⟨a, n, c, h0, h1, h2, h3, h4⟩ := h
  exact ⟨a, n, c, cell_keep h0 hb, cell_keep h1 hb, cell_keep h2 hb, cell_keep h3 hb, h4.rngs_below hb⟩
theorem SlAt.rels_below {w w' : World} {v : Value} {l : List Rul.Rl} (h : SlAt 4 RelC w v l) (hb : Below w.heap.size w w') : SlAt 4 RelC w' v l := h.imp fun _ _ _ _ g => g.below hb
theorem PartC.below {w w' : World} {b k : Nat} {l : List Rul.Rl} (h : PartC w b k l) (hb : Below w.heap.size w w') : PartC w' b k l := by
  obtain ⟨a, n, c, h0, h1⟩ := h
  exact ⟨a, n, c, cell_keep h0 hb, h1.rels_below hb⟩
theorem any_take' {α : Type} {L : List α} {p : α → Bool} {k : Nat} {x : α} (h : L[k]? = some x) : (L.take (k + 1)).any p = ((L.take k).any p || p x) := by
  rw [List.take_add_one, h]; simp
end Go.Proofs.YtghohnbajbikjaaGreatDoor
namespace Go.Proofs.YtghohnbajbikjaaGreatDoor
open Go.RowKit

set_option maxRecDepth 100000 in
set_option maxHeartbeats 4000000 in
theorem tparse_any (s : List UInt8) (w : World) (hM : MaxW w) (hs : s.length ≤ 10000000) :
    Calls Tryz.prog 5 #[.string ⟨s.toArray⟩] w fun e w' => ∃ V, e = .returned (.tuple #[.agg #[.string ⟨(readT s).l.toArray⟩, .string ⟨(readT s).s.toArray⟩, .string ⟨(readT s).r.toArray⟩, V], errE (if readOk s then 0 else 3)]) ∧ StrsAt w' V (readT s).vs ∧ Nil0 V ∧ Below w.heap.size w w' := by
  obtain ⟨q, hq⟩ : ∃ q, q = s.map lowC := ⟨_, rfl⟩
  have hql : q.length = s.length := by rw [hq, List.length_map]
  have CL := Lib.hid fun w => taglower_any s w (by omega)
  have HR0 := Lib.hid (show ∀ a T, Lib.split q [45] = a :: T → readTag PS1 PR1 s = if okT q a (cutS PS1 T).1 (cutR PR1 (cutS PS1 T).2).1 (cutR PR1 (cutS PS1 T).2).2 then some ⟨a, (cutS PS1 T).1, (cutR PR1 (cutS PS1 T).2).1, (cutR PR1 (cutS PS1 T).2).2⟩ else none from fun a T h => by unfold readTag; rw [← hq, h])
  have HM0 := Lib.hid (show ∀ a T, Lib.split q [45] = a :: T → q.length = a.length + (Lib.lens T + T.length) from fun a T h => split_small q h)
  rw [← hq] at CL
  have CS := Lib.hid fun w hM => split_any q 45 w hM (by omega)
  have HT := Lib.hid (show readT s = (readTag PS1 PR1 s).getD noTag ∧ readOk s = (readTag PS1 PR1 s).isSome from ⟨rfl, rfl⟩)
  generalize Lib.split q [45] = L at *
  clear hq
  generalize readT s = RT at *
  generalize readOk s = RO at *
  go_enter Tryz.func5, Tryz.ntmps5
  go_wp2_with fail
  refine (CL.out _).mono ?_
  rintro e w1 ⟨rfl, hb⟩
  have W1 := Lib.hid (blw_trans (show Below w.heap.size w _ from Below.alloc (Below.refl _ _) (Nat.le_refl _) _) hb)
  have hn1 := hb.size
  have R1 := Lib.hid (((Boxed.made w #[.string ByteArray.empty, .string ByteArray.empty, .string ByteArray.empty, .slice none 0 0] 29)).below hb)
  have hM1 := Lib.hid (hM.below W1.out)
  clear hb
  go_wp2_with fail
  refine (CS.out _ hM1.out).mono ?_
  rintro e w2 ⟨rfl, h0, hle, hc, hb⟩
  have W2 := Lib.hid (blw_trans W1.out hb)
  have R2 := Lib.hid (R1.out.below hb)
  have hn2 := hb.size
  obtain ⟨a, T, hLT⟩ : ∃ a T, L = a :: T := List.exists_cons_of_ne_nil (by intro e; rw [e] at h0; simp at h0)
  subst hLT
  have hsm := HM0.out a T rfl
  have HR1 := Lib.hid (HR0.out a T rfl)
  clear HM0 HR0
  have xc := hc 0 a rfl
  have HC := Lib.hid hc
  generalize w1.heap.size = b at *
  clear hc hb CS R1 W1 hM1 hle h0
  obtain ⟨N, hN⟩ : ∃ N, N = T.length := ⟨_, rfl⟩
  rw [List.length_cons, ← hN]
  have HN := Lib.hid hN
  have hsN : N ≤ 10000000 := by omega
  clear hN
  go_upto_region 4 with fail
  have S3 := Lib.hid (show PSt w (w2.alloc (.cells #[.string ⟨a.toArray⟩, .string ByteArray.empty, .string ByteArray.empty, .slice none 0 0] 29)) b w2.heap.size a [] [] (.slice none 0 0) (a :: T) from
    ⟨blw_trans W2.out (blw_alloc _ _), R2.out.alloc _, Boxed.made _ _ _, fun j x hx => cell_keep (HC.out j x hx) (blw_alloc _ _)⟩)
  have HS := Lib.hid (show ∀ x ∈ T, x.length ≤ 10000000 from fun x hx => by have := lens_mem hx; omega)
  obtain ⟨w3, hw3⟩ : ∃ w3, w3 = w2.alloc (.cells #[.string ⟨a.toArray⟩, .string ⟨#[]⟩, .string ⟨#[]⟩, .slice none 0 0] 29) := ⟨_, rfl⟩
  have S4 := Lib.hid (show PSt w w3 b w2.heap.size a [] [] (.slice none 0 0) (a :: T) by rw [hw3]; exact S3.out)
  rw [← hw3]
  have hbp : b < w2.heap.size := World.block_lt_of_cell? _ _ xc
  have hwb : w.heap.size < b := by simp at hn1; omega
  clear hw3 S3 R2 W2 xc HC hn1 hn2
  generalize w2.heap.size = p at *
  obtain ⟨off, ho, hof⟩ : ∃ off, (if N = 0 then some (⟨b, 0, none⟩ : Addr) else some ⟨b, 1, none⟩) = some ⟨b, off, none⟩ ∧ (N ≠ 0 → off = 1) := by
    by_cases h : N = 0
    · exact ⟨0, if_pos h, fun e => absurd h e⟩
    · exact ⟨1, if_neg h, fun _ => rfl⟩
  rw [ho]
  have HOF := Lib.hid hof
  clear ho hof
  go_cut [23] (fun v wx => v = .bool (headP PS1 T) ∧ wx = w3)
  case first =>
    cases T with
    | nil =>
      obtain rfl : N = 0 := HN.out
      go_wp2_with fail
      go_meet
      exact ⟨rfl, rfl⟩
    | cons c t =>
      have hN : N = t.length + 1 := HN.out
      have c1 := S4.out.cell 1 c rfl
      have CM := Lib.hid fun w => made_low c 4 4 w (by have := HS.out c (by simp); omega)
      obtain rfl := HOF.out (by omega)
      have h2 : ((N : Int) > 0) := by omega
      clear hN hsm
      go_wp2_with fail
      refine (CM.out _).mono ?_
      rintro e w' ⟨rfl, rfl⟩
      go_wp2_with fail
      go_meet
      exact ⟨rfl, rfl⟩
  case rest =>
    obtain ⟨rfl, rfl⟩ := hcut
    go_upto_if 23 with fail
    go_cut [4] (fun v wx => ∃ of1 M, v = .slice (some ⟨b, of1, none⟩) M M ∧ Hid (M = (cutS PS1 T).2.length) ∧ Hid (∀ (j : Nat) x, (cutS PS1 T).2[j]? = some x → (a :: T)[of1 + j]? = some x) ∧ Hid (PSt w wx b p a (cutS PS1 T).1 [] (.slice none 0 0) (a :: T)))
    case first =>
      clear hsm HR1 HT
      cases hh : headP PS1 T with
      | false =>
        go_wp2_with fail
        go_meet
        have e : cutS PS1 T = ([], T) := by
          cases T with
          | nil => rfl
          | cons c t => simp only [cutS]; rw [if_neg (by rw [show PS1 c = false from hh]; decide)]
        rw [e]
        refine ⟨off, N, rfl, HN, Lib.hid fun j x hx => ?_, S4⟩
        have hT : N ≠ 0 := fun h0 => by
          have := HN.out
          rw [h0] at this
          rw [List.length_eq_zero_iff.1 this.symm] at hx; simp at hx
        rw [HOF.out hT, Nat.add_comm]; exact hx
      | true =>
        cases T with
        | nil => cases hh
        | cons c t =>
          have hh' : PS1 c = true := hh
          have h4 : c.length = 4 := by have := onlyB_len hh'; omega
          have hN : N = t.length + 1 := HN.out
          obtain rfl := HOF.out (by omega)
          have he := Lib.hid (show cutS PS1 (c :: t) = (scr c, t) by simp only [cutS]; rw [if_pos hh'])
          have h2 : ((N : Int) > 0) := by omega
          have P1 : ∀ w, (Instr.slice 9 (.string ⟨c.toArray⟩) none (some (.int .i64 1)) none).run Tryz.prog w = .ok (.string ⟨(c.take 1).toArray⟩) w := fun w => slice_to (P := Tryz.prog) 9 Tryz.underlying9 c .i64 1 (by omega) w
          have P2 : ∀ w, (Instr.slice 9 (.string ⟨c.toArray⟩) (some (.int .i64 1)) none none).run Tryz.prog w = .ok (.string ⟨(c.drop 1).toArray⟩) w := fun w => slice_from (P := Tryz.prog) 9 Tryz.underlying9 c .i64 1 (by omega) w
          have CU := Lib.hid fun w => tagupper_any (c.take 1) w (by rw [List.length_take]; omega)
          obtain ⟨U, hU⟩ : ∃ U, U = (c.take 1).map upC := ⟨_, rfl⟩
          have ul : U.length ≤ 1 := by rw [hU, List.length_map, List.length_take]; omega
          rw [← hU] at CU
          have hX : U ++ c.drop 1 = scr c := by rw [hU]; rfl
          have AD : ∀ w, (Op.stringOp .add ⟨U.toArray⟩ ⟨(c.drop 1).toArray⟩).run Tryz.prog w = .ok (.string ⟨(scr c).toArray⟩) w := fun w => by rw [← hX]; exact add_str (P := Tryz.prog) U (c.drop 1) (by simp; omega) w
          have HNN := Lib.hid hN
          have HD2 := Lib.hid (show ∀ (j : Nat) x, t[j]? = some x → (a :: c :: t)[2 + j]? = some x from fun j x hx => by rw [Nat.add_comm]; exact hx)
          have HE := Lib.hid (show t.length = 0 → ∀ (k j : Nat) x, t[j]? = some x → (a :: c :: t)[k + j]? = some x from fun e0 k j x hx => by rw [List.length_eq_zero_iff.1 e0] at hx; simp at hx)
          have c1 := S4.out.cell 1 c rfl
          clear hX hU hN hh hh'
          generalize scr c = X at *
          generalize c.take 1 = C1 at *
          generalize c.drop 1 = C2 at *
          go_upto_region 5 with fail
          have hN0 : 0 < N := by omega
          refine wp_region_held_drew (S := fun w' => w'.cell? ⟨b, 1, none⟩ = some (.string ⟨c.toArray⟩) ∧ Hid (∃ S', PSt w w' b p a S' [] (.slice none 0 0) (a :: c :: t))) (by kernel_rfl) (by exact ⟨c1, Lib.hid ⟨_, S4.out.drew⟩⟩) (fun hHeld => ?_)
          refine take_run (d := (some 24)) (v := ?v1) 0 rfl rfl (by kernel_rfl) (by kernel_rfl) (by kernel_rfl) (fun _ _ _ h => h) (by rfl) hHeld ?hy1 ?rs1
          case hy1 => (intro w hSw; (try dsimp only at hSw); go_simp) <;> (try with_reducible rfl)
          (try simp only [Act.put, List.setIfInBounds_toArray, List.set_cons_zero, List.set_cons_succ])
          refine take_run (d := (some 25)) (v := ?v2) 1 rfl rfl (by kernel_rfl) (by kernel_rfl) (by kernel_rfl) (fun _ _ _ h => h) (by rfl) hHeld ?hy2 ?rs2
          case hy2 => (intro w hSw; (try dsimp only at hSw); go_simp) <;> (try with_reducible rfl)
          (try simp only [Act.put, List.setIfInBounds_toArray, List.set_cons_zero, List.set_cons_succ])
          refine take_run (d := (some 26)) (v := ?v3) 2 rfl rfl (by kernel_rfl) (by kernel_rfl) (by kernel_rfl) (fun _ _ _ h => h) (by rfl) hHeld ?hy3 ?rs3
          case hy3 => (intro w hSw; (try dsimp only at hSw); go_simp) <;> (try with_reducible rfl)
          (try simp only [Act.put, List.setIfInBounds_toArray, List.set_cons_zero, List.set_cons_succ])
          refine take_run (d := (some 27)) (v := ?v4) 3 rfl rfl (by kernel_rfl) (by kernel_rfl) (by kernel_rfl) (fun _ _ _ h => h) (by rfl) hHeld ?hy4 ?rs4
          case hy4 => (intro w hSw; (try dsimp only at hSw); go_simp) <;> (try with_reducible rfl)
          (try simp only [Act.put, List.setIfInBounds_toArray, List.set_cons_zero, List.set_cons_succ])
          refine take_run (d := (some 29)) (v := ?v5) 5 rfl rfl (by kernel_rfl) (by kernel_rfl) (by kernel_rfl) (fun _ _ _ h => h) (by rfl) hHeld ?hy5 ?rs5
          case hy5 => (intro w hSw; (try dsimp only at hSw); go_simp) <;> (try with_reducible rfl)
          (try simp only [Act.put, List.setIfInBounds_toArray, List.set_cons_zero, List.set_cons_succ])
          refine take_run (d := (some 30)) (v := ?v6) 6 rfl rfl (by kernel_rfl) (by kernel_rfl) (by kernel_rfl) (fun _ _ _ h => h) (by rfl) hHeld ?hy6 ?rs6
          case hy6 => (intro w hSw; (try dsimp only at hSw); go_simp) <;> (try with_reducible rfl)
          (try simp only [Act.put, List.setIfInBounds_toArray, List.set_cons_zero, List.set_cons_succ])
          refine take_run (d := (some 31)) (v := ?v7) 7 rfl rfl (by kernel_rfl) (by kernel_rfl) (by kernel_rfl) (fun _ _ _ h => h) (by rfl) hHeld ?hy7 ?rs7
          case hy7 => (intro w hSw; (try dsimp only at hSw); go_simp) <;> (try with_reducible rfl)
          (try simp only [Act.put, List.setIfInBounds_toArray, List.set_cons_zero, List.set_cons_succ])
          refine take_run (d := (some 32)) (v := ?v8) 8 rfl rfl (by kernel_rfl) (by kernel_rfl) (by kernel_rfl) (fun _ _ _ h => h) (by rfl) hHeld ?hy8 ?rs8
          case hy8 => (intro w hSw; (try dsimp only at hSw); go_simp) <;> (try with_reducible rfl)
          (try simp only [Act.put, List.setIfInBounds_toArray, List.set_cons_zero, List.set_cons_succ])
          refine take_call 4 rfl (by kernel_rfl) (by rfl) (fun K hK => ?_)
          go_simp
          refine (CU.out _).mono ?_
          rintro e w' ⟨rfl, hb⟩
          refine hK.out _ _ (by obtain ⟨h0, hw⟩ := hHeld; exact ⟨cell_keep h0 hb, Lib.hid (hw.out.elim fun S' hP => ⟨S', hP.below hb⟩)⟩) (fun hHeld => ?_)
          clear hK K
          (try simp only [Act.put, List.setIfInBounds_toArray, List.set_cons_zero, List.set_cons_succ])
          refine take_run (d := (some 33)) (v := ?v10) 9 rfl rfl (by kernel_rfl) (by kernel_rfl) (by kernel_rfl) (fun _ _ _ h => h) (by rfl) hHeld ?hy10 ?rs10
          case hy10 => (intro w hSw; (try dsimp only at hSw); go_simp) <;> (try with_reducible rfl)
          (try simp only [Act.put, List.setIfInBounds_toArray, List.set_cons_zero, List.set_cons_succ])
          refine take_run (d := (some 34)) (v := ?v11) 10 rfl rfl (by kernel_rfl) (by kernel_rfl) (by kernel_rfl) (fun _ _ _ h => h) (by rfl) hHeld ?hy11 ?rs11
          case hy11 => (intro w hSw; (try dsimp only at hSw); go_simp) <;> (try with_reducible rfl)
          (try simp only [Act.put, List.setIfInBounds_toArray, List.set_cons_zero, List.set_cons_succ])
          refine take_call 11 rfl (by kernel_rfl) (by rfl) (fun K hK => ?_)
          have hHeld0 := hHeld
          obtain ⟨h0, hw⟩ := hHeld
          obtain ⟨S', hP⟩ := hw.out
          have b1 := hP.box.cell 1 _ rfl
          have f1 := hP.box.free 1 (by simp)
          have FIN := Lib.hid (hP.setS hbp hwb X)
          go_simp
          refine hK.out _ _ (⟨(World.cell?_setCell_far _ _ _ _ (by show p ≠ b; omega)).trans h0, Lib.hid ⟨_, FIN.out⟩⟩) (fun hHeld => ?_)
          clear hK K
          (try simp only [Act.put, List.setIfInBounds_toArray, List.set_cons_zero, List.set_cons_succ])
          refine wpAnyH_done (by kernel_rfl) ?_ _
          obtain ⟨z0, zW⟩ := hHeld
          clear hw z0 zW h0 c1
          go_wp2_with fail
          all_goals go_meet
          all_goals rw [he.out]
          all_goals exact ⟨_, _, rfl, Lib.hid (by have := HNN.out; show _ = t.length; omega), Lib.hid (by first | exact HD2.out | exact HE.out (by have := HNN.out; omega) _), FIN⟩
    case rest =>
      obtain ⟨of1, M, rfl, HM, HC1, S5⟩ := hcut
      have sm1 := cutS_small PS1 T
      clear S4 HOF HN HS
      generalize cutS PS1 T = Z1 at *
      obtain ⟨S1, T1⟩ := Z1
      dsimp only at HM HC1 S5 HR1 sm1
      have HS := Lib.hid (show ∀ x ∈ T1, x.length ≤ 10000000 from fun x hx => by have := lens_mem hx; omega)
      have hsM : M ≤ 10000000 := by have := HM.out; omega
      go_upto_region 7 with fail
      go_cut [46] (fun v wx => v = .bool (headP PR1 T1) ∧ Hid (PSt w wx b p a S1 [] (.slice none 0 0) (a :: T)))
      case first =>
        clear hsm HR1 HT sm1
        cases T1 with
        | nil =>
          obtain rfl : M = 0 := HM.out
          go_wp2_with fail
          go_meet
          exact ⟨rfl, S5⟩
        | cons c t =>
          have hM1 : M = t.length + 1 := HM.out
          have c1 := S5.out.cell _ c (HC1.out 0 c rfl)
          rw [Nat.add_zero] at c1
          have hcl := HS.out c (by simp)
          have CU := Lib.hid fun w => tagupper_any c w (by omega)
          have CR := Lib.hid fun w => region_any (c.map upC) w (by rw [List.length_map]; omega)
          have HH := Lib.hid (show headP PR1 (c :: t) = regionB (c.map upC) from rfl)
          have h2 : ((M : Int) > 0) := by omega
          have hM0 : 0 < M := by omega
          generalize c.map upC = U at *
          clear hM1
          go_wp2_with fail
          refine (CU.out _).mono ?_
          rintro e w6 ⟨rfl, hb⟩
          have S6 := Lib.hid (S5.out.below hb)
          clear hb c1
          go_wp2_with fail
          refine (CR.out _).mono ?_
          rintro e w' ⟨rfl, rfl⟩
          go_wp2_with fail
          go_meet
          rw [HH.out]
          exact ⟨rfl, S6⟩
      case rest =>
        obtain ⟨rfl, S7⟩ := hcut
        clear S5
        go_upto_if 46 with fail
        go_cut [4] (fun v wx => ∃ of2 M2, v = .slice (some ⟨b, of2, none⟩) M2 M2 ∧ Hid (M2 = (cutR PR1 T1).2.length) ∧ Hid (∀ (j : Nat) x, (cutR PR1 T1).2[j]? = some x → (a :: T)[of2 + j]? = some x) ∧ Hid (PSt w wx b p a S1 (cutR PR1 T1).1 (.slice none 0 0) (a :: T)))
        case first =>
          clear hsm HR1 HT sm1
          cases hh : headP PR1 T1 with
          | false =>
            go_wp2_with fail
            go_meet
            have e : cutR PR1 T1 = ([], T1) := by
              cases T1 with
              | nil => rfl
              | cons c t => simp only [cutR]; rw [if_neg (by rw [show PR1 c = false from hh]; decide)]
            rw [e]
            exact ⟨of1, M, rfl, HM, HC1, S7⟩
          | true =>
            cases T1 with
            | nil => cases hh
            | cons c t =>
              have hM1 : M = t.length + 1 := HM.out
              have c1 := S7.out.cell _ c (HC1.out 0 c rfl)
              rw [Nat.add_zero] at c1
              have hcl := HS.out c (by simp)
              have CU := Lib.hid fun w => tagupper_any c w (by omega)
              have he := Lib.hid (show cutR PR1 (c :: t) = (c.map upC, t) by simp only [cutR]; rw [if_pos (show PR1 c = true from hh)])
              have h2 : ((M : Int) > 0) := by omega
              have hM0 : 0 < M := by omega
              have HNN := Lib.hid hM1
              have HD2 := Lib.hid (show ∀ (j : Nat) x, t[j]? = some x → (a :: T)[of1 + 1 + j]? = some x from fun j x hx => by rw [Nat.add_assoc, Nat.add_comm 1 j]; exact HC1.out (j + 1) x hx)
              have HE := Lib.hid (show t.length = 0 → ∀ (k j : Nat) x, t[j]? = some x → (a :: T)[k + j]? = some x from fun e0 k j x hx => by rw [List.length_eq_zero_iff.1 e0] at hx; simp at hx)
              generalize c.map upC = U at *
              clear hM1 hh
              go_wp2_with fail
              refine (CU.out _).mono ?_
              rintro e w6 ⟨rfl, hb⟩
              have S6 := Lib.hid (S7.out.below hb)
              have b2 := S6.out.box.cell 2 _ rfl
              have f2 := S6.out.box.free 2 (by simp)
              clear hb c1
              go_wp2_with fail
              all_goals go_meet
              all_goals rw [he.out]
              all_goals exact ⟨_, _, rfl, Lib.hid (by have := HNN.out; show _ = t.length; omega), Lib.hid (by first | exact HD2.out | exact HE.out (by have := HNN.out; omega) _), Lib.hid (S6.out.setR hbp hwb _)⟩
        case rest =>
          obtain ⟨of2, M2, rfl, HM2, HC2, S9⟩ := hcut
          have sm2 := cutR_small PR1 T1
          clear S7 HS HM HC1
          generalize cutR PR1 T1 = Z2 at *
          obtain ⟨R1, T2⟩ := Z2
          dsimp only at HM2 HC2 S9 HR1 sm2
          have hM2 := HM2.out
          have HST := Lib.hid (show ∀ wx, PSt w wx b p a S1 R1 (.slice none 0 0) (a :: T) → StrsAt wx (.slice (some ⟨b, of2, none⟩) M2 M2) T2 from fun wx h => by
            rw [hM2]
            by_cases e : T2 = []
            · subst e; exact .inl ⟨rfl, _, _, rfl⟩
            · exact .inr ⟨b, of2, _, rfl, List.length_pos_iff.2 e, Nat.le_refl _, by unfold maxLen; omega, fun j x hx => h.cell _ x (HC2.out j x hx)⟩)
          have CC := Lib.hid fun w h => clone_any T2 (.slice (some ⟨b, of2, none⟩) M2 M2) w h (by omega)
          have CK := Lib.hid fun w V h => check_any a S1 R1 T2 V w h (by omega) (fun x hx => by have := lens_mem hx; omega)
          have CT := Lib.hid fun w V h h0 => text_any a S1 R1 T2 V w h h0 (by omega)
          have tl := text_len a S1 R1 T2
          have CX := Lib.hid fun w => taglower_any (tagText a S1 R1 T2) w (by omega)
          have HO : okT q a S1 R1 T2 = (decide (tagFault a S1 R1 T2 = 0) && ((tagText a S1 R1 T2).map lowC == q)) := rfl
          rw [HO] at HR1
          have HN2 := Lib.hid (show M2 = 0 → T2 = [] from fun e => List.length_eq_zero_iff.1 (by omega))
          have HN3 := Lib.hid (show M2 ≠ 0 → ∀ wx V, StrsAt wx V T2 → Nil0 V from fun e wx V h => by
            rcases h with ⟨e0, _⟩ | ⟨_, _, _, rfl, _⟩
            · rw [e0] at hM2; simp at hM2; omega
            · intro n c e; injection e with e; cases e)
          clear HO HC2 HM2 sm1 sm2 tl hM2
          generalize tagFault a S1 R1 T2 = Fl at *
          generalize tagText a S1 R1 T2 = X at *
          generalize X.map lowC = Y at *
          go_wp2_with fail
          refine (CC.out _ (HST.out _ S9.out)).mono ?_
          rintro e w7 ⟨V0, rfl, hV, hF, hb⟩
          obtain ⟨x0, n0, cp0, rfl⟩ := hV.isSlice
          have S10 := Lib.hid (S9.out.below hb)
          have HF := Lib.hid (hF.mono (show p + 1 ≤ _ from S9.out.box.lt))
          have HV := Lib.hid hV
          have b3 := S10.out.box.cell 3 _ rfl
          have f3 := S10.out.box.free 3 (by simp)
          clear hb hV hF HST CC S9
          go_upto_if 59 with fail
          have S11 := Lib.hid (S10.out.setV hbp hwb (.slice x0 n0 cp0))
          have HV1 := Lib.hid (HV.out.setCell HF.out ⟨p, 3, none⟩ (by show p < p + 1; omega) (.slice x0 n0 cp0))
          generalize w7.setCell ⟨p, 3, none⟩ (.slice x0 n0 cp0) = w8 at *
          clear S10 HV b3 f3
          go_cut [] (fun wx => ∃ V, Hid (PVt w wx b p a S1 R1 T2 (a :: T) V))
          case first =>
            clear HR1 HT hsm
            by_cases hz : M2 = 0
            · obtain e0 := HN2.out hz
              have b3 := S11.out.box.cell 3 _ rfl
              have f3 := S11.out.box.free 3 (by simp)
              go_wp2_with fail
              go_meet
              exact ⟨_, Lib.hid ⟨S11.out.setV hbp hwb _, .inl ⟨e0, _, _, rfl⟩, fun n c e => by injection e with _ _ e; exact e.symm, FarV.nil _ _ _⟩⟩
            · go_wp2_with fail
              go_meet
              exact ⟨_, Lib.hid ⟨S11.out, HV1.out, HN3.out hz _ _ HV1.out, HF.out.mono (by omega)⟩⟩
          case rest =>
            obtain ⟨V, S12⟩ := hcut
            clear S11 HV1 HF HN2 HN3
            have c0 := S12.out.st.box.cell 0 _ rfl
            have c1 := S12.out.st.box.cell 1 _ rfl
            have c2 := S12.out.st.box.cell 2 _ rfl
            have c3 := S12.out.st.box.cell 3 _ rfl
            go_wp2_with fail
            refine (CK.out _ V S12.out.at').mono ?_
            rintro e w9 ⟨rfl, hb⟩
            have HV9 := Lib.hid (S12.out.at'.below hb)
            have S9 := Lib.hid (S12.out.st.below hb)
            clear c0 c1 c2 c3 hb
            have HA := Lib.hid S12.out.nil
            have HF := Lib.hid S12.out.far
            obtain ⟨x1, n1, cp1, rfl⟩ := S12.out.at'.isSlice
            clear S12
            by_cases h : Fl = 0
            · rw [errE_nil h]
              have c0 := S9.out.box.cell 0 _ rfl
              have c1 := S9.out.box.cell 1 _ rfl
              have c2 := S9.out.box.cell 2 _ rfl
              have c3 := S9.out.box.cell 3 _ rfl
              subst h
              clear CK
              go_wp2_with fail
              refine (CT.out _ _ HV9.out HA.out).mono ?_
              rintro e wA ⟨rfl, hb⟩
              have HVA := Lib.hid (HV9.out.below hb)
              have SA := Lib.hid (S9.out.below hb)
              clear c0 c1 c2 c3 hb CT HV9 S9
              go_wp2_with fail
              refine (CX.out _).mono ?_
              rintro e wB ⟨rfl, hb⟩
              have HVB := Lib.hid (HVA.out.below hb)
              have SB := Lib.hid (SA.out.below hb)
              clear hb CX HVA SA
              go_wp2_with fail
              refine (CL.out _).mono ?_
              rintro e wC ⟨rfl, hb⟩
              have HVC := Lib.hid (HVB.out.below hb)
              have SC := Lib.hid (SB.out.below hb)
              clear hb CL HVB SB
              by_cases h2 : Y = q
              · subst h2
                have rc0 := SC.out.res.cell 0 _ rfl
                have rc1 := SC.out.res.cell 1 _ rfl
                have rc2 := SC.out.res.cell 2 _ rfl
                have rc3 := SC.out.res.cell 3 _ rfl
                have rf0 := SC.out.res.free 0 (by simp)
                have rf1 := SC.out.res.free 1 (by simp)
                have rf2 := SC.out.res.free 2 (by simp)
                have rf3 := SC.out.res.free 3 (by simp)
                have c0 := SC.out.box.cell 0 _ rfl
                have c1 := SC.out.box.cell 1 _ rfl
                have c2 := SC.out.box.cell 2 _ rfl
                have c3 := SC.out.box.cell 3 _ rfl
                have hRT : RT = ⟨a, S1, R1, T2⟩ ∧ RO = true := by rw [HT.out.1, HT.out.2, HR1.out, if_pos (by simp)]; exact ⟨rfl, rfl⟩
                obtain ⟨rfl, rfl⟩ := hRT
                clear HR1 HT
                go_wp2_with fail
                refine bodyPost_ret (v := .tuple #[.agg #[.string ⟨a.toArray⟩, .string ⟨S1.toArray⟩, .string ⟨R1.toArray⟩, .slice x1 n1 cp1], .nilIface]) (by simp [results, Tryz.results5, go_sem, rc0, rc1, rc2, rc3]) rfl ?_
                exact ⟨.slice x1 n1 cp1, rfl, by repeat (first | exact HVC.out | refine StrsAt.setCell ?_ HF.out _ (by simp) _), HA.out, by repeat (first | exact SC.out.bel | refine Below.setCell ?_ (by simp) _)⟩
              · have q1 : (Y == q) = false := beq_eq_false_iff_ne.2 h2
                have q2 : (Y != q) = true := by rw [bne, q1]; rfl
                have rc0 := SC.out.res.cell 0 _ rfl
                have rc1 := SC.out.res.cell 1 _ rfl
                have rc2 := SC.out.res.cell 2 _ rfl
                have rc3 := SC.out.res.cell 3 _ rfl
                have rf0 := SC.out.res.free 0 (by simp)
                have rf1 := SC.out.res.free 1 (by simp)
                have rf2 := SC.out.res.free 2 (by simp)
                have rf3 := SC.out.res.free 3 (by simp)
                have hRT : RT = noTag ∧ RO = false := by rw [HT.out.1, HT.out.2, HR1.out, if_neg (by rw [q1]; simp)]; exact ⟨rfl, rfl⟩
                obtain ⟨rfl, rfl⟩ := hRT
                clear HR1 HT
                go_wp2_with fail
                refine bodyPost_ret (v := .tuple #[.agg #[.string ⟨#[]⟩, .string ⟨#[]⟩, .string ⟨#[]⟩, .slice none 0 0], errV 3]) (by simp [results, Tryz.results5, go_sem, rc0, rc1, rc2, rc3]) rfl ?_
                exact ⟨.slice none 0 0, rfl, .inl ⟨rfl, _, _, rfl⟩, fun n c e => by injection e with _ _ e; exact e.symm, by repeat (first | exact SC.out.bel | refine Below.setCell ?_ (by simp) _)⟩
            · rw [errE_some h]
              have rc0 := S9.out.res.cell 0 _ rfl
              have rc1 := S9.out.res.cell 1 _ rfl
              have rc2 := S9.out.res.cell 2 _ rfl
              have rc3 := S9.out.res.cell 3 _ rfl
              have rf0 := S9.out.res.free 0 (by simp)
              have rf1 := S9.out.res.free 1 (by simp)
              have rf2 := S9.out.res.free 2 (by simp)
              have rf3 := S9.out.res.free 3 (by simp)
              have hRT : RT = noTag ∧ RO = false := by rw [HT.out.1, HT.out.2, HR1.out, if_neg (by rw [decide_eq_false h]; simp)]; exact ⟨rfl, rfl⟩
              obtain ⟨rfl, rfl⟩ := hRT
              clear HR1 HT
              go_wp2_with fail
              refine bodyPost_ret (v := .tuple #[.agg #[.string ⟨#[]⟩, .string ⟨#[]⟩, .string ⟨#[]⟩, .slice none 0 0], errV 3]) (by simp [results, Tryz.results5, go_sem, rc0, rc1, rc2, rc3]) rfl ?_
              exact ⟨.slice none 0 0, rfl, .inl ⟨rfl, _, _, rfl⟩, fun n c e => by injection e with _ _ e; exact e.symm, by repeat (first | exact S9.out.bel | refine Below.setCell ?_ (by simp) _)⟩
end Go.Proofs.YtghohnbajbikjaaGreatDoor
namespace Go.Proofs.YtghohnbajbikjaaGreatDoor
open Go.RowKit
theorem dropWhile_all {p : UInt8 → Bool} : ∀ {l : List UInt8}, l.dropWhile p = [] ↔ l.all p = true
  | [] => by simp
  | b :: l => by
    by_cases h : p b = true
    · simp [List.dropWhile, h, dropWhile_all]
    · simp [List.dropWhile, h]
theorem trim_none (s cs : List UInt8) : Lib.trimS s cs = [] ↔ s.all (fun c => cs.contains c) = true := by
  unfold Lib.trimS Lib.trimLeftS Lib.trimRightS
  rw [dropWhile_all, List.all_reverse]
  constructor
  · intro h
    by_cases hs : s.all (fun c => cs.contains c) = true
    · exact hs
    · exfalso
      have h2 : (s.reverse.dropWhile (cs.contains ·)) ≠ [] := fun e => hs (by rw [← List.all_reverse]; exact dropWhile_all.1 e)
      cases hd : s.reverse.dropWhile (cs.contains ·) with
      | nil => exact h2 hd
      | cons x r =>
        have hx : cs.contains x = false := by
          have := List.head?_dropWhile_not (cs.contains ·) s.reverse
          rw [hd] at this
          simpa using this
        rw [hd] at h
        have := List.all_eq_true.1 h x (by simp)
        rw [hx] at this
        exact absurd this (by simp)
  · intro h
    rw [List.all_eq_true] at h ⊢
    intro x hx
    exact h x (List.mem_reverse.1 ((List.dropWhile_sublist _).mem hx))
end Go.Proofs.YtghohnbajbikjaaGreatDoor
namespace Go.Proofs.YtghohnbajbikjaaGreatDoor
open Go.RowKit Go.MapKept

theorem map_new {P : Program} (T K E : TypeId) (hT : P.underlying T = some (.map K E)) (hK : P.underlying K = some .string) (es : Array MapEntry) (c : Nat) (k : ByteArray) (v : Value)
    (hf : Instr.findNow .string (.string k) es.toList 0 = some none) (w : World) :
    (Instr.mapUpdate T (.map (some w.heap.size)) (.string k) v).run P (w.alloc (.map es c)) = .ok () (w.alloc (.map (es.push { key := .string k, val := v, born := c }) (c + 1))) := by
  have hb : (w.alloc (.map es c)).heap[w.heap.size]? = some (.map es c) := by show (w.heap.push _)[w.heap.size]? = _; simp
  have e : ({ (w.alloc (.map es c)) with heap := (w.alloc (.map es c)).heap.setIfInBounds w.heap.size (.map (es.push { key := .string k, val := v, born := c }) (c + 1)) } : World) = w.alloc (.map (es.push { key := .string k, val := v, born := c }) (c + 1)) := by
    show ({ w with heap := (w.heap.push _).setIfInBounds w.heap.size _ } : World) = { w with heap := w.heap.push _ }
    congr 1
    apply Array.ext_getElem?
    intro i
    rw [Array.getElem?_setIfInBounds]
    simp only [Array.getElem?_push, Array.size_push]
    by_cases h : w.heap.size = i
    · subst h; simp
    · simp [h, Ne.symm h]
  rw [← e]
  simp [Instr.mapUpdate, run_underlying hT, MapKept.run_getObj_map hb, run_checkKey hK (show IsKey .string (.string k) from trivial), run_findKey hK hf, MapKept.run_setObj_map _ hb, Result.andThen]
theorem map_look {P : Program} (T K E : TypeId) (hT : P.underlying T = some (.map K E)) (hK : P.underlying K = some .string) (es : Array MapEntry) (c r i : Nat) (k : ByteArray) (v : Value) (w : World)
    (hb : w.heap[r]? = some (.map es c)) (hf : Instr.findNow .string (.string k) es.toList 0 = some (some (i, v))) :
    (Instr.lookup T (.map (some r)) (.string k) true).run P w = .ok (.tuple #[v, .bool true]) w := by
  simp [Instr.lookup, run_underlying hT, MapKept.run_getObj_map hb, run_checkKey hK (show IsKey .string (.string k) from trivial), run_findKey hK hf, Result.andThen]
theorem map_none {P : Program} (T K E : TypeId) (hT : P.underlying T = some (.map K E)) (hK : P.underlying K = some .string) (es : Array MapEntry) (c r : Nat) (k : ByteArray) (z : Value) (w : World)
    (hz : (zeroValue E).run P w = .ok z w) (hb : w.heap[r]? = some (.map es c)) (hf : Instr.findNow .string (.string k) es.toList 0 = some none) :
    (Instr.lookup T (.map (some r)) (.string k) true).run P w = .ok (.tuple #[z, .bool false]) w := by
  simp [Instr.lookup, run_underlying hT, MapKept.run_getObj_map hb, run_checkKey hK (show IsKey .string (.string k) from trivial), run_findKey hK hf, hz, Result.andThen]
theorem top_alloc (w : World) (o : Obj) (n : Nat) (h : n = w.heap.size) : (w.alloc o).heap[n]? = some o := by subst h; show (w.heap.push _)[w.heap.size]? = _; simp
end Go.Proofs.YtghohnbajbikjaaGreatDoor
namespace Go.Proofs.YtghohnbajbikjaaGreatDoor
open Go.RowKit Go.MapKept
/-- the block holds the map of these keys and values -/
def KindsAt (B : Nat) (l : List (List UInt8 × Bool)) (w : World) : Prop :=
  ∃ es c, w.heap[B]? = some (.map es c) ∧ es.toList.map (fun e => (e.key, e.val)) = l.map fun p => (Value.string ⟨p.1.toArray⟩, Value.bool p.2)
theorem bytes_list (a b : List UInt8) : ((⟨a.toArray⟩ : ByteArray) == ⟨b.toArray⟩) = (b == a) := by
  rw [Bool.eq_iff_iff, bytes_beq]
  simp
  exact eq_comm
theorem find_kind (t : List UInt8) : ∀ (es : List MapEntry) (l : List (List UInt8 × Bool)) (i : Nat), es.map (fun e => (e.key, e.val)) = l.map (fun p => (Value.string ⟨p.1.toArray⟩, Value.bool p.2)) →
    (∀ p, l.find? (fun p => p.1 == t) = some p → ∃ j, Instr.findNow .string (.string ⟨t.toArray⟩) es i = some (some (j, .bool p.2))) ∧ (l.find? (fun p => p.1 == t) = none → Instr.findNow .string (.string ⟨t.toArray⟩) es i = some none)
  | [], l, i, h => by
    cases l with
    | nil => exact ⟨by simp, fun _ => rfl⟩
    | cons p r => simp at h
  | e :: es, l, i, h => by
    cases l with
    | nil => simp at h
    | cons q r =>
      simp only [List.map_cons, List.cons.injEq] at h
      obtain ⟨h1, h2⟩ := h
      injection h1 with h3 h4
      have ih := find_kind t es r (i + 1) h2
      unfold Instr.findNow
      rw [h3, List.find?_cons]
      show _ ∧ _
      simp only [Instr.sameNow, bytes_list]
      cases hq : q.1 == t with
      | true => exact ⟨fun p hp => by obtain rfl : q = p := by simpa using hp
                                      exact ⟨i, by rw [h4]⟩, fun hp => by simp at hp⟩
      | false => exact ih
theorem KindsAt.below {B : Nat} {l : List (List UInt8 × Bool)} {w w' : World} (h : KindsAt B l w) (hb : Below w.heap.size w w') : KindsAt B l w' := by
  obtain ⟨es, c, h1, h2⟩ := h
  have hlt : B < w.heap.size := (Array.getElem?_eq_some_iff.1 h1).1
  exact ⟨es, c, (hb.block B hlt).trans h1, h2⟩
theorem KindsAt.lt {B : Nat} {l : List (List UInt8 × Bool)} {w : World} (h : KindsAt B l w) : B < w.heap.size := by
  obtain ⟨es, c, h1, _⟩ := h
  exact (Array.getElem?_eq_some_iff.1 h1).1
section
variable {P : Program} (T K E : TypeId) (hT : P.underlying T = some (.map K E)) (hK : P.underlying K = some .string)
include hT hK
theorem KindsAt.none {B : Nat} {l : List (List UInt8 × Bool)} {w : World} (h : KindsAt B l w) {t : List UInt8} (hz : (zeroValue E).run P w = .ok (.bool false) w) (hp : l.find? (fun p => p.1 == t) = .none) :
    (Instr.lookup T (.map (some B)) (.string ⟨t.toArray⟩) true).run P w = .ok (.tuple #[.bool false, .bool false]) w := by
  obtain ⟨es, c, h1, h2⟩ := h
  exact map_none T K E hT hK es c B _ _ w hz h1 ((find_kind t es.toList l 0 h2).2 hp)
theorem KindsAt.put {B : Nat} {l : List (List UInt8 × Bool)} {w : World} (h : KindsAt B l w) {t : List UInt8} (b : Bool) (hp : l.find? (fun p => p.1 == t) = .none) :
    ∃ w', (Instr.mapUpdate T (.map (some B)) (.string ⟨t.toArray⟩) (.bool b)).run P w = .ok () w' ∧ KindsAt B (l ++ [(t, b)]) w' ∧ ∀ base W, base ≤ B → Below base W w → Below base W w' := by
  obtain ⟨es, c, h1, h2⟩ := h
  have hlt : B < w.heap.size := (Array.getElem?_eq_some_iff.1 h1).1
  have hf := (find_kind t es.toList l 0 h2).2 hp
  refine ⟨{ w with heap := w.heap.setIfInBounds B (.map (es.push { key := .string ⟨t.toArray⟩, val := .bool b, born := c }) (c + 1)) }, ?_, ⟨_, _, (heap_set h1).1, ?_⟩, fun base W hB hb => ?_⟩
  · simp [Instr.mapUpdate, run_underlying hT, MapKept.run_getObj_map h1, run_checkKey hK (show IsKey .string (.string ⟨t.toArray⟩) from trivial), run_findKey hK hf, MapKept.run_setObj_map _ h1, Result.andThen]
  · rw [Array.toList_push, List.map_append, h2, List.map_append]; rfl
  · exact ⟨hb.os, hb.tape, hb.output, by simpa using hb.size, fun k hk => ((heap_set h1).2 k (by omega)).trans (hb.block k hk)⟩
end
end Go.Proofs.YtghohnbajbikjaaGreatDoor
namespace Go.Proofs.YtghohnbajbikjaaGreatDoor
open Go.RowKit Go.MapKept
/-- the block holds the map of these keys and values -/
def MapAt {α : Type} (val : α → Value) (B : Nat) (l : List (List UInt8 × α)) (w : World) : Prop :=
  ∃ es c, w.heap[B]? = some (.map es c) ∧ es.toList.map (fun e => (e.key, e.val)) = l.map fun p => (Value.string ⟨p.1.toArray⟩, val p.2)
section
variable {α : Type} {val : α → Value}
theorem find_val (t : List UInt8) : ∀ (es : List MapEntry) (l : List (List UInt8 × α)) (i : Nat), es.map (fun e => (e.key, e.val)) = l.map (fun p => (Value.string ⟨p.1.toArray⟩, val p.2)) →
    (∀ p, l.find? (fun p => p.1 == t) = some p → ∃ j, Instr.findNow .string (.string ⟨t.toArray⟩) es i = some (some (j, val p.2))) ∧ (l.find? (fun p => p.1 == t) = none → Instr.findNow .string (.string ⟨t.toArray⟩) es i = some none)
  | [], l, i, h => by
    cases l with
    | nil => exact ⟨by simp, fun _ => rfl⟩
    | cons p r => simp at h
  | e :: es, l, i, h => by
    cases l with
    | nil => simp at h
    | cons q r =>
      simp only [List.map_cons, List.cons.injEq] at h
      obtain ⟨h1, h2⟩ := h
      injection h1 with h3 h4
      have ih := find_val t es r (i + 1) h2
      unfold Instr.findNow
      rw [h3, List.find?_cons]
      show _ ∧ _
      simp only [Instr.sameNow, bytes_list]
      cases hq : q.1 == t with
      | true => exact ⟨fun p hp => by obtain rfl : q = p := by simpa using hp
                                      exact ⟨i, by rw [h4]⟩, fun hp => by simp at hp⟩
      | false => exact ih
theorem map_made (w : World) : MapAt val w.heap.size [] (w.alloc (.map #[] 0)) := ⟨#[], 0, top_alloc _ _ _ rfl, rfl⟩
variable {B : Nat} {l : List (List UInt8 × α)} {w w' : World}
theorem MapAt.below (h : MapAt val B l w) (hb : Below w.heap.size w w') : MapAt val B l w' := by
  obtain ⟨es, c, h1, h2⟩ := h
  have hlt : B < w.heap.size := (Array.getElem?_eq_some_iff.1 h1).1
  exact ⟨es, c, (hb.block B hlt).trans h1, h2⟩
theorem MapAt.kept (h : MapAt val B l w) (hb : w'.heap[B]? = w.heap[B]?) : MapAt val B l w' := by
  obtain ⟨es, c, h1, h2⟩ := h
  exact ⟨es, c, hb.trans h1, h2⟩
theorem MapAt.lt (h : MapAt val B l w) : B < w.heap.size := by
  obtain ⟨es, c, h1, _⟩ := h
  exact (Array.getElem?_eq_some_iff.1 h1).1
variable {P : Program} (T K E : TypeId) (hT : P.underlying T = some (.map K E)) (hK : P.underlying K = some .string)
include hT hK
/-- the value alone -/
theorem MapAt.look1 (h : MapAt val B l w) {t : List UInt8} {p : List UInt8 × α} (hp : l.find? (fun p => p.1 == t) = some p) :
    (Instr.lookup T (.map (some B)) (.string ⟨t.toArray⟩) false).run P w = .ok (val p.2) w := by
  obtain ⟨es, c, h1, h2⟩ := h
  obtain ⟨j, hj⟩ := (find_val t es.toList l 0 h2).1 p hp
  simp [Instr.lookup, run_underlying hT, MapKept.run_getObj_map h1, run_checkKey hK (show IsKey .string (.string ⟨t.toArray⟩) from trivial), run_findKey hK hj, Result.andThen]
theorem MapAt.none1 (h : MapAt val B l w) {t : List UInt8} {z : Value} (hz : (zeroValue E).run P w = .ok z w) (hp : l.find? (fun p => p.1 == t) = .none) :
    (Instr.lookup T (.map (some B)) (.string ⟨t.toArray⟩) false).run P w = .ok z w := by
  obtain ⟨es, c, h1, h2⟩ := h
  have hj := (find_val t es.toList l 0 h2).2 hp
  simp [Instr.lookup, run_underlying hT, MapKept.run_getObj_map h1, run_checkKey hK (show IsKey .string (.string ⟨t.toArray⟩) from trivial), run_findKey hK hj, hz, Result.andThen]
theorem MapAt.put (h : MapAt val B l w) {t : List UInt8} (b : α) (hp : l.find? (fun p => p.1 == t) = .none) :
    ∃ w', (Instr.mapUpdate T (.map (some B)) (.string ⟨t.toArray⟩) (val b)).run P w = .ok () w' ∧ MapAt val B (l ++ [(t, b)]) w' ∧ (∀ k, k ≠ B → w'.heap[k]? = w.heap[k]?) ∧ w'.heap.size = w.heap.size ∧ ∀ base W, base ≤ B → Below base W w → Below base W w' := by
  obtain ⟨es, c, h1, h2⟩ := h
  have hf := (find_val t es.toList l 0 h2).2 hp
  refine ⟨{ w with heap := w.heap.setIfInBounds B (.map (es.push { key := .string ⟨t.toArray⟩, val := val b, born := c }) (c + 1)) }, ?_, ⟨_, _, (heap_set h1).1, ?_⟩, fun k hk => (heap_set h1).2 k hk, by simp, fun base W hB hb => ?_⟩
  · simp [Instr.mapUpdate, run_underlying hT, MapKept.run_getObj_map h1, run_checkKey hK (show IsKey .string (.string ⟨t.toArray⟩) from trivial), run_findKey hK hf, MapKept.run_setObj_map _ h1, Result.andThen]
  · rw [Array.toList_push, List.map_append, h2, List.map_append]; rfl
  · exact ⟨hb.os, hb.tape, hb.output, by simpa using hb.size, fun k hk => ((heap_set h1).2 k (by omega)).trans (hb.block k hk)⟩
end
end Go.Proofs.YtghohnbajbikjaaGreatDoor
