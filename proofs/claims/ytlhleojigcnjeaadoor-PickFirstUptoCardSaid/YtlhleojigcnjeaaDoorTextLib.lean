/- slices.Grow of none, the closure of tag.Text, slices.DeleteFunc by their contracts off the shelf. -/
import Derived.Test.YtlhleojigcnjeaaDoorLayS
import Derived.Test.YtlhleojigcnjeaaDoorRead
import Derived.Test.YtlhleojigcnjeaaDoorStr
import Derived.Lib.OwnBridge
import Derived.Maps.AppendAt
namespace Go.Proofs.YtlhleojigcnjeaaDoor
open Go.RowKit

theorem infoStrD : (Tryd.prog.info? 9).map (fun i => (i.zero, i.size, i.bytes)) = some (some (.string ByteArray.empty), 1, 16) := by kernel_rfl
/-- a slice of none, with room -/
theorem grow_any (n : Nat) (w : World) (h0 : 0 < n) (hn : n ≤ 2000000000) :
    Calls Tryd.prog 71 #[.slice none 0 0, .int .i64 n] w fun e w' => ∃ v, e = .returned v ∧ w'.ownsRow w.heap.size 9 1 v 0 [] ∧ Below w.heap.size w w' := by
  obtain ⟨i0, hi, hz0, hz1, hz2⟩ := info_parts infoStrD
  have c := Any8.slices_Grow_grow laysGrow i0 (.string ByteArray.empty) hi hz0 (by omega) none 0 0 n [] w (Nat.le_refl _) (by omega) (by rw [hz2]; omega) (by omega) (by simp) (fun _ => rfl) (fun a h => by cases h)
  rw [show growRen.t 25 = 9 from rfl] at c
  simp only [Nat.zero_add, Nat.sub_zero] at c
  refine Calls.mono c ?_
  rintro e w' ⟨rfl, rfl⟩
  have g1 := grownCap_ge w n 0 9
  have g2 := grownCap_le_maxLen w n 0 9 (by unfold maxLen; omega)
  have hs : (([] : List Value).toArray ++ Builtin.zeroCells (Value.string ByteArray.empty).cells n ++ Builtin.zeroCells (Value.string ByteArray.empty).cells (grownCap w n 0 9 - n)).size = grownCap w n 0 9 * 1 := by
    simp only [Array.size_append, size_zeroCells, Value.cells]
    simp
    omega
  generalize (([] : List Value).toArray ++ Builtin.zeroCells (Value.string ByteArray.empty).cells n ++ Builtin.zeroCells (Value.string ByteArray.empty).cells (grownCap w n 0 9 - n)) = X at *
  generalize grownCap w n 0 9 = K at *
  exact ⟨_, rfl, ⟨by simp, .inr ⟨w.heap.size, K, X, rfl, Nat.le_refl _, by show (w.heap.push _)[w.heap.size]? = _; simp, Nat.zero_le _, g2, hs, by simp⟩⟩, ((Below.refl _ _).drew).alloc (Nat.le_refl _) _⟩

set_option maxRecDepth 100000 in
set_option maxHeartbeats 1000000 in
theorem none_any (x : List UInt8) (w : World) : Calls Tryd.prog 49 #[.string ⟨x.toArray⟩] w fun e w' => e = .returned (.bool x.isEmpty) ∧ w = w' := by
  cases x with
  | nil =>
    go_enter Tryd.func49, Tryd.ntmps49
    go_wp2
    go_ret
    exact ⟨rfl, rfl⟩
  | cons y z =>
    generalize hx : y :: z = x
    have hne : x ≠ [] := fun e => by rw [e] at hx; cases hx
    have e1 : (x == []) = false := by cases x with | nil => exact absurd rfl hne | cons => rfl
    have e2 : x.isEmpty = false := by cases x with | nil => exact absurd rfl hne | cons => rfl
    rw [e2]
    clear hx hne
    go_enter Tryd.func49, Tryd.ntmps49
    go_wp2
    go_ret
    exact ⟨rfl, rfl⟩
theorem none_gives (W : World) (x : List UInt8) : FnGives Tryd.prog 49 #[] #[encStr x] (.bool x.isEmpty) W := by
  show Calls _ _ (#[encStr x] ++ #[]) W _
  rw [Array.append_empty]
  exact (none_any x W).mono fun e w' ⟨he, hw⟩ => ⟨he, 0, hw.symm⟩
/-- the texts that are not empty, in the same row -/
theorem del_any (l : List (List UInt8)) (v : Value) (base : Nat) (w : World) (h0 : 0 < l.length) (hl : l.length ≤ 1000000000) (hb : w.ownsRow base 9 1 v l.length (l.map txtV)) :
    Calls Tryd.prog 48 #[v, .func (.func 49) #[] #[]] w fun e w' => ∃ v', e = .returned v' ∧ StrsAt w' v' (l.filter (fun x => !x.isEmpty)) ∧ ∀ B w0, B ≤ base → Below B w0 w → Below B w0 w' := by
  obtain ⟨g, cap, rfl, hg, hlt, hn, hm, hzl, hH⟩ := Lib.holds_of_ownsRow (enc := encStr) (zs := l) hb (by
    intro e
    rcases hb.2 with ⟨_, q⟩ | ⟨_, _, _, q, _⟩
    · omega
    · rw [e] at q; cases q)
  have c := AnyE.slices_DeleteFunc laysDel encStr (fun x => rfl) (fun x : List UInt8 => x.isEmpty) 49 #[] (enters_of Tryd.func49 (by kernel_rfl) rfl) [] (fun w => Tryd.zeroValue9 w) g 0 cap l.toArray w
    (fun W x _ => none_gives W x) (fun n os dk x _ => none_gives _ x) hH (by simp; omega) (by simpa using hn)
  have fl := List.length_filter_le (fun x : List UInt8 => !x.isEmpty) l
  simp only [List.size_toArray] at c
  refine Calls.mono c ?_
  rintro e w' ⟨rfl, q, rfl⟩
  refine ⟨_, rfl, ?_, fun B w0 hB hw => Lib.below_putRow hw (Nat.le_trans hB hg)⟩
  have o := Lib.ownsRow_putRow (q := q) (k := (l.filter (fun x => !x.isEmpty)).length) (ys := (l.filter (fun x => !x.isEmpty)) ++ List.replicate (l.length - (l.filter (fun x => !x.isEmpty)).length) []) hb (by simp; omega) fl
  rw [List.take_left] at o
  exact StrsAt.of_row o
end Go.Proofs.YtlhleojigcnjeaaDoor
