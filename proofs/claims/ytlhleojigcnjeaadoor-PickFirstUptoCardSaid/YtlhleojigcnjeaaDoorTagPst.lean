/- The state of tag.Parse between its pieces, and how it keeps. -/
import Derived.Test.YtlhleojigcnjeaaDoorChLaw
import Derived.Test.YtlhleojigcnjeaaDoorSplitT
import Derived.Test.YtlhleojigcnjeaaDoorTagText
import Derived.Test.YtlhleojigcnjeaaDoorBoxS
namespace Go.Proofs.YtlhleojigcnjeaaDoor
open Go.RowKit

/-- the state of tag.Parse: the result's block, the tag's block p, the parts in block b -/
structure PSt (w wx : World) (b p : Nat) (a s r : List UInt8) (V : Value) (L : List (List UInt8)) : Prop where
  bel : Below w.heap.size w wx
  res : Boxed wx w.heap.size #[.string ByteArray.empty, .string ByteArray.empty, .string ByteArray.empty, .slice none 0 0]
  box : Boxed wx p #[.string ⟨a.toArray⟩, .string ⟨s.toArray⟩, .string ⟨r.toArray⟩, V]
  cell : ∀ (j : Nat) x, L[j]? = some x → wx.cell? ⟨b, j, none⟩ = some (.string ⟨x.toArray⟩)
theorem PSt.below {w wx wy : World} {b p : Nat} {a s r : List UInt8} {V : Value} {L : List (List UInt8)} (h : PSt w wx b p a s r V L) (hb : Below wx.heap.size wx wy) : PSt w wy b p a s r V L :=
  ⟨blw_trans h.bel hb, h.res.below hb, h.box.below hb, fun j x hx => cell_keep (h.cell j x hx) hb⟩
theorem PSt.drew {w wx : World} {b p : Nat} {a s r : List UInt8} {V : Value} {L : List (List UInt8)} (h : PSt w wx b p a s r V L) : PSt w wx.drew b p a s r V L :=
  ⟨Below.drew h.bel, h.res.drew, h.box.drew, h.cell⟩
theorem PSt.setS {w wx : World} {b p : Nat} {a s r : List UInt8} {V : Value} {L : List (List UInt8)} (h : PSt w wx b p a s r V L) (hb : b < p) (hw : w.heap.size < b) (X : List UInt8) : PSt w (wx.setCell ⟨p, 1, none⟩ (.string ⟨X.toArray⟩)) b p a X r V L :=
  ⟨h.bel.setCell (by show w.heap.size ≤ p; omega) _, h.res.far (by omega) _ _, by have z := h.box.set 1 (.string ⟨X.toArray⟩) (by simp); simpa using z,
    fun j x hx => (World.cell?_setCell_other _ _ _ _ (fun e => by have e1 := congrArg Addr.block e; dsimp only at e1; omega)).trans (h.cell j x hx)⟩
theorem PSt.setR {w wx : World} {b p : Nat} {a s r : List UInt8} {V : Value} {L : List (List UInt8)} (h : PSt w wx b p a s r V L) (hb : b < p) (hw : w.heap.size < b) (X : List UInt8) : PSt w (wx.setCell ⟨p, 2, none⟩ (.string ⟨X.toArray⟩)) b p a s X V L :=
  ⟨h.bel.setCell (by show w.heap.size ≤ p; omega) _, h.res.far (by omega) _ _, by have z := h.box.set 2 (.string ⟨X.toArray⟩) (by simp); simpa using z,
    fun j x hx => (World.cell?_setCell_other _ _ _ _ (fun e => by have e1 := congrArg Addr.block e; dsimp only at e1; omega)).trans (h.cell j x hx)⟩
theorem PSt.setV {w wx : World} {b p : Nat} {a s r : List UInt8} {V : Value} {L : List (List UInt8)} (h : PSt w wx b p a s r V L) (hb : b < p) (hw : w.heap.size < b) (U : Value) : PSt w (wx.setCell ⟨p, 3, none⟩ U) b p a s r U L :=
  ⟨h.bel.setCell (by show w.heap.size ≤ p; omega) _, h.res.far (by omega) _ _, by have z := h.box.set 3 U (by simp); simpa using z,
    fun j x hx => (World.cell?_setCell_other _ _ _ _ (fun e => by have e1 := congrArg Addr.block e; dsimp only at e1; omega)).trans (h.cell j x hx)⟩
theorem lens_mem : ∀ {l : List (List UInt8)} {x : List UInt8}, x ∈ l → x.length ≤ Lib.lens l
  | [], _, h => by simp at h
  | y :: r, x, h => by
    simp only [Lib.lens, List.map_cons, List.sum_cons]
    rcases List.mem_cons.1 h with rfl | h
    · omega
    · have := lens_mem h
      simp only [Lib.lens] at this; omega
theorem split_short (q : List UInt8) : ∀ x ∈ Lib.split q [45], x.length ≤ q.length := by
  obtain ⟨h0, h1, _⟩ := join_split_one 45 q.length q (Nat.le_refl _)
  intro x hx
  have e := congrArg List.length h1
  cases hL : Lib.split q [45] with
  | nil => rw [hL] at hx; simp at hx
  | cons y r =>
    rw [hL] at e hx
    rw [join_cons_len] at e
    rcases List.mem_cons.1 hx with rfl | hx
    · omega
    · have := lens_mem hx; omega
theorem lens_cons (x : List UInt8) (r : List (List UInt8)) : Lib.lens (x :: r) = x.length + Lib.lens r := by simp [Lib.lens]
theorem cutS_small (P : List UInt8 → Bool) (T : List (List UInt8)) : (cutS P T).1.length + (Lib.lens (cutS P T).2 + (cutS P T).2.length) ≤ Lib.lens T + T.length := by
  cases T with
  | nil => simp [cutS, Lib.lens]
  | cons a r =>
    simp only [cutS]
    split
    · simp only [lens_cons, scr_len, List.length_cons]; omega
    · simp only [List.length_nil]; omega
theorem cutR_small (P : List UInt8 → Bool) (T : List (List UInt8)) : (cutR P T).1.length + (Lib.lens (cutR P T).2 + (cutR P T).2.length) ≤ Lib.lens T + T.length := by
  cases T with
  | nil => simp [cutR, Lib.lens]
  | cons a r =>
    simp only [cutR]
    split
    · simp only [lens_cons, List.length_map, List.length_cons]; omega
    · simp only [List.length_nil]; omega
theorem split_small (q : List UInt8) {a : List UInt8} {T : List (List UInt8)} (h : Lib.split q [45] = a :: T) : q.length = a.length + (Lib.lens T + T.length) := by
  obtain ⟨_, h1, _⟩ := join_split_one 45 q.length q (Nat.le_refl _)
  have e := congrArg List.length h1
  rw [h, join_cons_len] at e
  omega
/-- what a text reads as: the tag, and the number of the error -/
def readTag (P Q : List UInt8 → Bool) (s : List UInt8) : Option Tg :=
  match Lib.split (s.map lowC) [45] with
  | [] => none
  | l :: T => if okT (s.map lowC) l (cutS P T).1 (cutR Q (cutS P T).2).1 (cutR Q (cutS P T).2).2 then some ⟨l, (cutS P T).1, (cutR Q (cutS P T).2).1, (cutR Q (cutS P T).2).2⟩ else none
def noTag : Tg := ⟨[], [], [], []⟩
def readT (s : List UInt8) : Tg := (readTag PS1 PR1 s).getD noTag
def readOk (s : List UInt8) : Bool := (readTag PS1 PR1 s).isSome
theorem read_agree (s : List UInt8) : readTag PS2 PR2 s = readTag PS1 PR1 s := by
  unfold readTag
  obtain ⟨_, h1, h2⟩ := join_split_one 45 (s.map lowC).length (s.map lowC) (Nat.le_refl _)
  cases hL : Lib.split (s.map lowC) [45] with
  | nil => rfl
  | cons l T =>
    rw [hL] at h1 h2
    dsimp only
    rcases agree (q := s.map lowC) (l := l) (T := T) (by rw [h1]) (fun a ha c hc => by
      obtain ⟨y, _, rfl⟩ := List.mem_map.1 ((h2 a (List.mem_cons_of_mem _ ha)).1 c hc)
      exact low_nohigh y) with ⟨e1, e2⟩ | ⟨e1, e2⟩
    · rw [e1, e2]
    · rw [e1, e2, if_neg (by decide), if_neg (by decide)]
theorem text_len (l s r : List UInt8) (vs : List (List UInt8)) : (tagText l s r vs).length ≤ l.length + s.length + r.length + Lib.lens vs + (vs.length + 3) := by
  have h := parts_small l s r vs
  unfold tagText
  cases e : parts l s r vs with
  | nil => simp [Lib.join]
  | cons x t =>
    rw [e, lens_cons, List.length_cons] at h
    rw [join_cons_len]; omega
theorem errE_nil {n : Int} (h : n = 0) : errE n = .nilIface := by rw [h]; rfl
theorem errE_some {n : Int} (h : n ≠ 0) : errE n = errV n := by unfold errE; rw [if_neg h]
/-- the state behind the reading: the variants' value is V -/
structure PVt (w wx : World) (b p : Nat) (a s r : List UInt8) (vs : List (List UInt8)) (L : List (List UInt8)) (V : Value) : Prop where
  st : PSt w wx b p a s r V L
  at' : StrsAt wx V vs
  nil : Nil0 V
  far : FarV (w.heap.size + 1) V
/-- the part at the head is a script's -/
def headP (P : List UInt8 → Bool) : List (List UInt8) → Bool
  | [] => false
  | c :: _ => P c

end Go.Proofs.YtlhleojigcnjeaaDoor
