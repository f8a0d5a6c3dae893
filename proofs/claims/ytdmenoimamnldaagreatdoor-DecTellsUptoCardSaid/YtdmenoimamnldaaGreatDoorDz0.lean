/- An error by its number; what ends a walk with two results. -/
import Derived.WalkKit
import Derived.WalkSpells
import Derived.WalkLawsBesides
import Derived.IntWalk
import Derived.BigQuiet
import Derived.Deep.QuietTactic
import Derived.Outline
import Derived.Lib.Hide
namespace Go.Proofs.YtdmenoimamnldaaGreatDoor
open Go.RowKit

/-- block p holds the values vs, and may be written -/
structure Boxed (w : World) (p : Nat) (vs : Array Value) : Prop where
  lt : p < w.heap.size
  cell : ∀ (j : Nat) (v : Value), vs[j]? = some v → w.cell? ⟨p, j, none⟩ = some v
  free : ∀ (j : Nat), j < vs.size → w.frozen? ⟨p, j, none⟩ = false
theorem Boxed.below {w w' : World} {p : Nat} {vs : Array Value} (h : Boxed w p vs) (hb : Below w.heap.size w w') : Boxed w' p vs :=
  ⟨Nat.lt_of_lt_of_le h.lt hb.size, fun j v hj => (hb.cell (p := ⟨p, j, none⟩) h.lt).trans (h.cell j v hj), fun j hj => (hb.frozen (p := ⟨p, j, none⟩) h.lt).trans (h.free j hj)⟩
theorem Boxed.made (w : World) (vs : Array Value) (t : TypeId) : Boxed (w.alloc (.cells vs t)) w.heap.size vs := by
  refine ⟨by simp, fun j v hj => ?_, fun j hj => ?_⟩
  · simp [go_sem, hj]
  · simp [go_sem]
theorem blw_alloc (w : World) (o : Obj) : Below w.heap.size w (w.alloc o) := (Below.refl _ _).alloc (Nat.le_refl _) o
theorem blw_trans {a b c : World} (h : Below a.heap.size a b) (k : Below b.heap.size b c) : Below a.heap.size a c := h.trans (k.mono h.size)
theorem blw_drewN {B : Nat} {a w : World} (h : Below B a w) (n : Nat) : Below B a (w.drewN n) := ⟨h.os, h.tape, h.output, h.size, h.block⟩
theorem Boxed.alloc {w : World} {p : Nat} {vs : Array Value} (h : Boxed w p vs) (o : Obj) : Boxed (w.alloc o) p vs := h.below (blw_alloc w o)
theorem Boxed.drew {w : World} {p : Nat} {vs : Array Value} (h : Boxed w p vs) : Boxed w.drew p vs := ⟨h.lt, h.cell, h.free⟩
theorem Boxed.drewN {w : World} {p : Nat} {vs : Array Value} (h : Boxed w p vs) (n : Nat) : Boxed (w.drewN n) p vs := ⟨h.lt, h.cell, h.free⟩
theorem cell_keep {w w' : World} {a : Addr} {v : Value} (h : w.cell? a = some v) (hb : Below w.heap.size w w') : w'.cell? a = some v := (hb.cell (World.block_lt_of_cell? w a h)).trans h
theorem ret_int {k : IntKind} {a b : Int} (h : a = b) : Ending.returned (.int k a) = .returned (.int k b) := by rw [h]
theorem ret_bool {a b : Bool} (h : a = b) : Ending.returned (.bool a) = .returned (.bool b) := by rw [h]
theorem quiet_left {P : Program} {f : FuncId} {args : Array Value} {w : World} {n : Nat} {v : Value}
    (h : Calls P f args (w.drewN n) fun e w' => e = .returned v ∧ w.drewN n = w') : Calls P f args (w.drewN n) fun e w'' => e = .returned v ∧ ∃ m, w'' = w.drewN m :=
  h.mono fun _ _ ⟨he, hm⟩ => ⟨he, n, hm.symm⟩
theorem dec_no {p : Prop} [Decidable p] (h : ¬ p) : decide p = false := decide_eq_false h
theorem dec_yes {p : Prop} [Decidable p] (h : p) : decide p = true := decide_eq_true h
theorem beq_no {a b : Int} (h : a ≠ b) : (a == b) = false := beq_eq_false_iff_ne.2 h
theorem beq_yes {a b : Int} (h : a = b) : (a == b) = true := beq_iff_eq.2 h
end Go.Proofs.YtdmenoimamnldaaGreatDoor
namespace Go.Proofs.YtdmenoimamnldaaGreatDoor
open Go.RowKit

/-- an error by its number -/
abbrev errV (n : Int) : Value := .iface 25 (.int .i64 n)
theorem ret_str_nil {a b : List UInt8} {v : Value} (h : a = b) : Ending.returned (.tuple #[.string ⟨a.toArray⟩, v]) = .returned (.tuple #[.string ⟨b.toArray⟩, v]) := by rw [h]
end Go.Proofs.YtdmenoimamnldaaGreatDoor
