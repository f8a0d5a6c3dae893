/- How a rule lies within a set of blocks: it lasts while they lie as they lay. -/
import Derived.Test.YtaijjffnamjhiaaGreatDoorRulAt
namespace Go.Proofs.YtaijjffnamjhiaaGreatDoor
open Go.RowKit

def RngI (S : Nat → Prop) (w : World) (b k : Nat) (p : Int × Int) : Prop := S b ∧ RngC w b k p
def RelI (S : Nat → Prop) (w : World) (b k : Nat) (r : Rul.Rl) : Prop := S b ∧ ∃ a n c, w.cell? ⟨b, k, none⟩ = some (.int .u8 (r.op.toNat : Int)) ∧ w.cell? ⟨b, k + 1, none⟩ = some (.int .i64 r.mod) ∧ w.cell? ⟨b, k + 2, none⟩ = some (.bool r.no) ∧ w.cell? ⟨b, k + 3, none⟩ = some (.slice a n c) ∧ SlAt 2 (RngI S) w (.slice a n c) r.rs
def PartI (S : Nat → Prop) (w : World) (b k : Nat) (l : List Rul.Rl) : Prop := S b ∧ ∃ a n c, w.cell? ⟨b, k, none⟩ = some (.slice a n c) ∧ SlAt 4 (RelI S) w (.slice a n c) l
theorem SlAt.into {α : Type} {m : Nat} {C D : World → Nat → Nat → α → Prop} {w w' : World} {v : Value} {l : List α} (h : SlAt m C w v l) (hC : ∀ b k x, C w b k x → D w' b k x) : SlAt m D w' v l := by
  rcases h with h | ⟨b, off, cap, h1, h2, h3, h4, h5⟩
  · exact .inl h
  · exact .inr ⟨b, off, cap, h1, h2, h3, h4, fun j x hx => hC _ _ _ (h5 j x hx)⟩
/-- the blocks of S lie in the second world as in the first -/
def SameOn (S : Nat → Prop) (A C : World) : Prop := ∀ b, S b → C.heap[b]? = A.heap[b]?
theorem SameOn.cell {S : Nat → Prop} {A C : World} (h : SameOn S A C) {b k : Nat} {v : Value} (hb : S b) (hc : A.cell? ⟨b, k, none⟩ = some v) : C.cell? ⟨b, k, none⟩ = some v :=
  (World.cell?_of_block (a := ⟨b, k, none⟩) (h b hb)).trans hc
theorem rngsI_kept {S T : Nat → Prop} {A C : World} {v : Value} {l : List (Int × Int)} (hs : SlAt 2 (RngI S) A v l) (h : SameOn S A C) (hT : ∀ b, S b → T b) : SlAt 2 (RngI T) C v l :=
  hs.into fun _ _ _ g => ⟨hT _ g.1, h.cell g.1 g.2.1, h.cell g.1 g.2.2⟩
theorem relsI_kept {S T : Nat → Prop} {A C : World} {v : Value} {l : List Rul.Rl} (hs : SlAt 4 (RelI S) A v l) (h : SameOn S A C) (hT : ∀ b, S b → T b) : SlAt 4 (RelI T) C v l :=
  hs.into fun _ _ _ g => by
    obtain ⟨g, a, n, c, x0, x1, x2, x3, xs⟩ := g
    exact ⟨hT _ g, a, n, c, h.cell g x0, h.cell g x1, h.cell g x2, h.cell g x3, rngsI_kept xs h hT⟩
theorem ruleI_kept {S T : Nat → Prop} {A C : World} {v : Value} {l : Rul.Rule} (hs : SlAt 1 (PartI S) A v l) (h : SameOn S A C) (hT : ∀ b, S b → T b) : SlAt 1 (PartI T) C v l :=
  hs.into fun _ _ _ g => by
    obtain ⟨g, a, n, c, x0, xs⟩ := g
    exact ⟨hT _ g, a, n, c, h.cell g x0, relsI_kept xs h hT⟩
theorem relsI_plain {S : Nat → Prop} {A : World} {v : Value} {l : List Rul.Rl} (hs : SlAt 4 (RelI S) A v l) : SlAt 4 RelC A v l :=
  hs.into fun _ _ _ g => by
    obtain ⟨_, a, n, c, x0, x1, x2, x3, xs⟩ := g
    exact ⟨a, n, c, x0, x1, x2, x3, xs.into fun _ _ _ k => k.2⟩
theorem ruleI_plain {S : Nat → Prop} {A : World} {v : Value} {l : Rul.Rule} (hs : SlAt 1 (PartI S) A v l) : SlAt 1 PartC A v l :=
  hs.into fun _ _ _ g => by
    obtain ⟨_, a, n, c, x0, xs⟩ := g
    exact ⟨a, n, c, x0, relsI_plain xs⟩
end Go.Proofs.YtaijjffnamjhiaaGreatDoor
