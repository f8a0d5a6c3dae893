/- The walks of clock.New, store.New, serve.New: what a new server is. -/
import Derived.Test.YtghohnbajbikjaaGreatDoorUnW
import Derived.Test.YtghohnbajbikjaaGreatDoorTa1
import Derived.Test.YtghohnbajbikjaaGreatDoorProg
namespace Go.Proofs.YtghohnbajbikjaaGreatDoor
open Go.RowKit
namespace Tn
theorem top_map (w : World) (es : Array MapEntry) (c : Nat) : (w.alloc (.map es c)).heap[w.heap.size]? = some (.map es c) := by
  show (w.heap.push _)[w.heap.size]? = _
  simp
theorem infoPlace : (Tryz.prog.info? 163).map (fun i => (i.zero, i.size, i.bytes)) = some (some (.agg #[.string ByteArray.empty, .string ByteArray.empty, .bool false, .bool false]), 4, 40) := by kernel_rfl
theorem make_places (w : World) : (Instr.makeSlice 106 (.int .i64 1) (.int .i64 1)).run Tryz.prog w = .ok (.slice (some ⟨w.heap.size, 0, none⟩) 1 1) (w.alloc (.cells #[.string ⟨#[]⟩, .string ⟨#[]⟩, .bool false, .bool false] 163)) := by
  obtain ⟨i, hi, h1, h2, h3⟩ := info_parts infoPlace
  have h := run_make (P := Tryz.prog) w 106 163 i _ Tryz.underlying106 hi h1 .i64 .i64 1 1 (by omega) (by omega) (by rw [h3]; omega) (by omega)
  rw [h, h2, show madeCells (Value.agg #[.string ByteArray.empty, .string ByteArray.empty, .bool false, .bool false]).cells (Int.toNat 1 * 4) = #[.string ⟨#[]⟩, .string ⟨#[]⟩, .bool false, .bool false] by kernel_rfl]
  rfl
set_option maxRecDepth 100000 in
set_option maxHeartbeats 1000000 in
theorem clnew_any (w : World) : Calls Tryz.prog 38 #[.int .i64 1] w fun e w' => ∃ b p, e = .returned (.tuple #[.pointer (some ⟨p, 0, none⟩), .nilIface]) ∧ w.heap.size ≤ b ∧ b < p ∧ p < w'.heap.size ∧ Boxed w' b #[.string ⟨#[]⟩, .string ⟨#[]⟩, .bool false, .bool false] ∧ Boxed w' p #[.slice (some ⟨b, 0, none⟩) 1 1, .int .i64 0] ∧ Below w.heap.size w w' := by
  have MK := make_places w
  go_enter Tryz.func38, Tryz.ntmps38
  go_wp2_with fail
  go_ret2
  exact ⟨w.heap.size, w.heap.size + 1, rfl, by omega, by omega, by simp, (Boxed.made w _ _).alloc _, (Boxed.made (w.alloc (.cells #[.string ⟨#[]⟩, .string ⟨#[]⟩, .bool false, .bool false] 163)) #[.slice (some ⟨w.heap.size, 0, none⟩) 1 1, .int .i64 0] 108).at (by simp), (blw_alloc w _).alloc (by simp) _⟩
set_option maxRecDepth 100000 in
set_option maxHeartbeats 1000000 in
theorem stnew_any (w : World) : Calls Tryz.prog 39 #[] w fun e w' => ∃ m p, e = .returned (.pointer (some ⟨p, 0, none⟩)) ∧ w.heap.size ≤ m ∧ m < p ∧ p < w'.heap.size ∧ w'.heap[m]? = some (.map #[] 0) ∧ Boxed w' p #[.int .i64 0, .map (some m)] ∧ Below w.heap.size w w' := by
  have MM := fun wx => (run_makeMap (P := Tryz.prog) (w := wx) 109)
  go_enter Tryz.func39, Tryz.ntmps39
  go_wp2_with fail
  go_ret
  exact ⟨w.heap.size, w.heap.size + 1, by simp, by omega, by omega, by simp, (by
    have h := top_map w #[] 0
    exact ((blw_alloc (w.alloc (.map #[] 0)) _).block _ (by simp)).trans h), (Boxed.made (w.alloc (.map #[] 0)) #[.int .i64 0, .map (some w.heap.size)] _).at (by simp), (blw_alloc w _).alloc (by simp) _⟩
/-- a server, as it lies in memory -/
structure Srv (base : Nat) (w : World) (p st ca cb al cm : Nat) (bn : Value) (ver nw : Int) : Prop where
  srv : Boxed w p #[.pointer (some ⟨st, 0, none⟩), .pointer (some ⟨ca, 0, none⟩), .map (some cm), bn, .int .i64 ver]
  sto : Boxed w st #[.int .i64 nw, .map (some al)]
  cac : Boxed w ca #[.slice (some ⟨cb, 0, none⟩) 1 1, .int .i64 0]
  pla : Boxed w cb #[.string ⟨#[]⟩, .string ⟨#[]⟩, .bool false, .bool false]
  cod : ∃ c, w.heap[cm]? = some (.map #[] c)
  o1 : base ≤ ca ∧ ca < al ∧ al < st ∧ st < cm ∧ cm < p
  o2 : base ≤ cb ∧ cb ≠ ca ∧ cb ≠ al ∧ cb ≠ st ∧ cb ≠ cm ∧ cb ≠ p
set_option maxRecDepth 100000 in
set_option maxHeartbeats 1000000 in
theorem svnew_any (w : World) : Calls Tryz.prog 21 #[.int .i64 1] w fun e w' => ∃ p st ca cb al cm, e = .returned (.tuple #[.pointer (some ⟨p, 0, none⟩), .nilIface]) ∧ Srv w.heap.size w' p st ca cb al cm (.slice none 0 0) 0 0 ∧ w'.heap[al]? = some (.map #[] 0) ∧ Below w.heap.size w w' := by
  have C1 := Lib.hid (clnew_any w)
  have C2 := Lib.hid stnew_any
  have MM := fun wx => (run_makeMap (P := Tryz.prog) (w := wx) 79)
  go_enter Tryz.func21, Tryz.ntmps21
  go_wp2_with fail
  refine C1.out.mono ?_
  rintro e w1 ⟨b, p1, rfl, h1, h2, h3, hb1, hb2, hb⟩
  have W1 := Lib.hid hb
  have B1 := Lib.hid hb1
  have B2 := Lib.hid hb2
  clear hb hb1 hb2 C1
  go_wp2_with fail
  refine (C2.out w1).mono ?_
  rintro e w2 ⟨m, p2, rfl, h4, h5, h6, hm, hb1, hb⟩
  have W2 := Lib.hid (blw_trans W1.out hb)
  have C1 := Lib.hid (B1.out.below hb)
  have C2 := Lib.hid (B2.out.below hb)
  have C3 := Lib.hid hb1
  have HM := Lib.hid hm
  clear hb hb1 hm B1 B2 W1
  go_wp2_with fail
  go_ret2
  have e1 : (w2.alloc (.map #[] 0)).heap.size = w2.heap.size + 1 := by simp
  have hk : ∀ o, ((w2.alloc (.map #[] 0)).alloc o).heap[w2.heap.size]? = some (.map #[] 0) := fun o => ((blw_alloc (w2.alloc (.map #[] 0)) o).block _ (by omega)).trans (top_map w2 #[] 0)
  refine ⟨w2.heap.size + 1, p2, p1, b, m, w2.heap.size, rfl, ⟨(Boxed.made (w2.alloc (.map #[] 0)) #[.pointer (some ⟨p2, 0, none⟩), .pointer (some ⟨p1, 0, none⟩), .map (some w2.heap.size), .slice none 0 0, .int .i64 0] 81).at e1, (C3.out.alloc _).alloc _, (C2.out.alloc _).alloc _, (C1.out.alloc _).alloc _, ⟨0, hk _⟩, by omega, by omega⟩, ?_, ?_⟩
  · have hl : m < w2.heap.size := by omega
    exact ((blw_alloc (w2.alloc (.map #[] 0)) _).block _ (by omega)).trans (((blw_alloc w2 _).block _ hl).trans HM.out)
  · exact (W2.out.alloc W2.out.size _).alloc (by have := W2.out.size; omega) _
end Tn
end Go.Proofs.YtghohnbajbikjaaGreatDoor
