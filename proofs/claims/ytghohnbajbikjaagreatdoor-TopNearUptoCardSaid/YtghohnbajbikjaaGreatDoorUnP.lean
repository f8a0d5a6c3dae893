/- Bundles: what is wrong with one, and where a key is found; how they lie in memory. -/
import Derived.Test.YtghohnbajbikjaaGreatDoorTa1
namespace Go.Proofs.YtghohnbajbikjaaGreatDoor
open Go.RowKit
namespace Tn
structure En where
  key : List UInt8
  txt : List UInt8
structure Bd where
  tag : List UInt8
  es : List En
def keyL : List UInt8 := [97, 98, 99, 100, 101, 102, 103, 104, 105, 106, 107, 108, 109, 110, 111, 112, 113, 114, 115, 116, 117, 118, 119, 120, 121, 122, 48, 49, 50, 51, 52, 53, 54, 55, 56, 57, 46, 95]
def keyB (s : List UInt8) : Bool := !s.isEmpty && (decide (s.length ≤ 40) && s.all fun c => keyL.contains c)
def tagB (s : List UInt8) : Bool := readOk s && ((readT s).txt == s)
/-- what is wrong with entries, behind those whose keys were seen -/
def enN : List (List UInt8) → List En → Int
  | _, [] => 0
  | sn, e :: r => if keyB e.key then if sn.contains e.key then 5 else if e.txt.length ≤ 2000 then enN (sn ++ [e.key]) r else 4 else 3
def bdN (b : Bd) : Int := if tagB b.tag then if b.es.length ≤ 100 then enN [] b.es else 4 else 3
/-- what is wrong with bundles, behind those ahead -/
def bsN : List Bd → List Bd → Int
  | _, [] => 0
  | ah, b :: r => if bdN b = 0 then if ah.any fun x => x.tag == b.tag then 5 else bsN (ah ++ [b]) r else bdN b
def findE (k : List UInt8) : List En → Option (List UInt8)
  | [] => none
  | e :: r => if e.key == k then some e.txt else findE k r
def findB (k t : List UInt8) : Nat → List Bd → Option (Nat × List UInt8)
  | _, [] => none
  | n, b :: r => if b.tag == t then match findE k b.es with
      | some x => some (n, x)
      | none => findB k t (n + 1) r
    else findB k t (n + 1) r
def findL (k : List UInt8) (B : List Bd) : List Tg → Option (Nat × List UInt8)
  | [] => none
  | t :: r => match findB k t.txt 0 B with
    | some x => some x
    | none => findL k B r
def enT : Tg := ⟨[101, 110], [], [], []⟩
def askL (name : List UInt8) : List Tg := (readT name).chain ++ [enT]
def inR (B : List Bd) (name k : List UInt8) : Int × Nat × List UInt8 :=
  if bsN [] B = 0 then if tagB name then if (readT name).fault = 0 then match findL k B (askL name) with
      | some x => (0, x)
      | none => (2, 0, [])
    else ((readT name).fault, 0, []) else (3, 0, []) else (bsN [] B, 0, [])
theorem drop_at {α : Type} {l : List α} {j : Nat} {x : α} (h : l[j]? = some x) : l.drop j = x :: l.drop (j + 1) := by
  obtain ⟨hj, rfl⟩ := List.getElem?_eq_some_iff.1 h
  exact List.drop_eq_getElem_cons hj
theorem drop_off {α : Type} {l : List α} {j : Nat} (h : l.length ≤ j) : l.drop j = [] := List.drop_eq_nil_of_le h
section
variable {k t : List UInt8}
theorem findE_hit {l : List En} {j : Nat} {e : En} (h : l[j]? = some e) (hk : (e.key == k) = true) : findE k (l.drop j) = some e.txt := by
  rw [drop_at h, findE, if_pos hk]
theorem findE_miss {l : List En} {j : Nat} {e : En} (h : l[j]? = some e) (hk : (e.key == k) = false) : findE k (l.drop j) = findE k (l.drop (j + 1)) := by
  rw [drop_at h, findE, if_neg (by rw [hk]; simp)]
theorem findE_end {l : List En} {j : Nat} (h : l.length ≤ j) : findE k (l.drop j) = none := by rw [drop_off h]; rfl
theorem findB_other {B : List Bd} {j : Nat} {b : Bd} (h : B[j]? = some b) (ht : (b.tag == t) = false) : findB k t j (B.drop j) = findB k t (j + 1) (B.drop (j + 1)) := by
  rw [drop_at h, findB, if_neg (by rw [ht]; simp)]
theorem findB_miss {B : List Bd} {j : Nat} {b : Bd} (h : B[j]? = some b) (ht : (b.tag == t) = true) (he : findE k b.es = none) : findB k t j (B.drop j) = findB k t (j + 1) (B.drop (j + 1)) := by
  rw [drop_at h, findB, if_pos ht, he]
theorem findB_hit {B : List Bd} {j : Nat} {b : Bd} {x : List UInt8} (h : B[j]? = some b) (ht : (b.tag == t) = true) (he : findE k b.es = some x) : findB k t j (B.drop j) = some (j, x) := by
  rw [drop_at h, findB, if_pos ht, he]
theorem findB_end {B : List Bd} {j : Nat} (h : B.length ≤ j) : findB k t j (B.drop j) = none := by rw [drop_off h]; rfl
theorem findL_hit {B : List Bd} {L : List Tg} {j : Nat} {x : Tg} {r : Nat × List UInt8} (h : L[j]? = some x) (hb : findB k x.txt 0 B = some r) : findL k B (L.drop j) = some r := by
  rw [drop_at h, findL, hb]
theorem findL_miss {B : List Bd} {L : List Tg} {j : Nat} {x : Tg} (h : L[j]? = some x) (hb : findB k x.txt 0 B = none) : findL k B (L.drop j) = findL k B (L.drop (j + 1)) := by
  rw [drop_at h, findL, hb]
theorem findL_end {B : List Bd} {L : List Tg} {j : Nat} (h : L.length ≤ j) : findL k B (L.drop j) = none := by rw [drop_off h]; rfl
theorem enN_bad {sn : List (List UInt8)} {l : List En} {j : Nat} {e : En} (h : l[j]? = some e) (h1 : keyB e.key = false) : enN sn (l.drop j) = 3 := by
  rw [drop_at h, enN, if_neg (by rw [h1]; simp)]
theorem enN_twice {sn : List (List UInt8)} {l : List En} {j : Nat} {e : En} (h : l[j]? = some e) (h1 : keyB e.key = true) (h2 : sn.contains e.key = true) : enN sn (l.drop j) = 5 := by
  rw [drop_at h, enN, if_pos h1, if_pos h2]
theorem enN_long {sn : List (List UInt8)} {l : List En} {j : Nat} {e : En} (h : l[j]? = some e) (h1 : keyB e.key = true) (h2 : sn.contains e.key = false) (h3 : ¬ e.txt.length ≤ 2000) : enN sn (l.drop j) = 4 := by
  rw [drop_at h, enN, if_pos h1, if_neg (by rw [h2]; simp), if_neg h3]
theorem enN_next {sn : List (List UInt8)} {l : List En} {j : Nat} {e : En} (h : l[j]? = some e) (h1 : keyB e.key = true) (h2 : sn.contains e.key = false) (h3 : e.txt.length ≤ 2000) : enN sn (l.drop j) = enN (sn ++ [e.key]) (l.drop (j + 1)) := by
  rw [drop_at h, enN, if_pos h1, if_neg (by rw [h2]; simp), if_pos h3]
theorem enN_end {sn : List (List UInt8)} {l : List En} {j : Nat} (h : l.length ≤ j) : enN sn (l.drop j) = 0 := by rw [drop_off h]; rfl
theorem bsN_bad {B : List Bd} {j : Nat} {b : Bd} (h : B[j]? = some b) (h1 : bdN b ≠ 0) : bsN (B.take j) (B.drop j) = bdN b := by
  rw [drop_at h, bsN, if_neg h1]
theorem bsN_twice {B : List Bd} {j : Nat} {b : Bd} (h : B[j]? = some b) (h1 : bdN b = 0) (h2 : ((B.take j).any fun x => x.tag == b.tag) = true) : bsN (B.take j) (B.drop j) = 5 := by
  rw [drop_at h, bsN, if_pos h1, if_pos h2]
theorem bsN_next {B : List Bd} {j : Nat} {b : Bd} (h : B[j]? = some b) (h1 : bdN b = 0) (h2 : ((B.take j).any fun x => x.tag == b.tag) = false) : bsN (B.take j) (B.drop j) = bsN (B.take (j + 1)) (B.drop (j + 1)) := by
  rw [drop_at h, bsN, if_pos h1, if_neg (by rw [h2]; simp), List.take_add_one, h]; rfl
theorem bsN_end {B : List Bd} {j : Nat} (h : B.length ≤ j) : bsN (B.take j) (B.drop j) = 0 := by rw [drop_off h]; rfl
end
/-- an entry's two cells -/
def EnC (w : World) (b k : Nat) (e : En) : Prop := w.cell? ⟨b, k, none⟩ = some (.string ⟨e.key.toArray⟩) ∧ w.cell? ⟨b, k + 1, none⟩ = some (.string ⟨e.txt.toArray⟩)
/-- a bundle's two cells -/
def BdC (w : World) (b k : Nat) (x : Bd) : Prop := ∃ a n c, w.cell? ⟨b, k, none⟩ = some (.string ⟨x.tag.toArray⟩) ∧ w.cell? ⟨b, k + 1, none⟩ = some (.slice a n c) ∧ SlAt 2 EnC w (.slice a n c) x.es
abbrev EnsAt := SlAt 2 EnC
abbrev BdsAt := SlAt 2 BdC
theorem EnC.below {w w' : World} {b k : Nat} {e : En} (h : EnC w b k e) (hb : Below w.heap.size w w') : EnC w' b k e := ⟨cell_keep h.1 hb, cell_keep h.2 hb⟩
theorem ens_below {w w' : World} {v : Value} {l : List En} (h : SlAt 2 EnC w v l) (hb : Below w.heap.size w w') : SlAt 2 EnC w' v l := h.imp fun _ _ _ _ g => g.below hb
theorem BdC.below {w w' : World} {b k : Nat} {x : Bd} (h : BdC w b k x) (hb : Below w.heap.size w w') : BdC w' b k x := by
  obtain ⟨a, n, c, h0, h1, h2⟩ := h
  exact ⟨a, n, c, cell_keep h0 hb, cell_keep h1 hb, ens_below h2 hb⟩
theorem bds_below {w w' : World} {v : Value} {l : List Bd} (h : SlAt 2 BdC w v l) (hb : Below w.heap.size w w') : SlAt 2 BdC w' v l := h.imp fun _ _ _ _ g => g.below hb
end Tn
end Go.Proofs.YtghohnbajbikjaaGreatDoor
