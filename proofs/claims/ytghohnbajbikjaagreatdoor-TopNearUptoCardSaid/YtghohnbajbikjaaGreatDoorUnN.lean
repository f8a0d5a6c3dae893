/- The walks of names.Fits at the message that is hello and no args. -/
import Derived.Test.YtghohnbajbikjaaGreatDoorUnX
import Derived.Test.YtghohnbajbikjaaGreatDoorTa1
namespace Go.Proofs.YtghohnbajbikjaaGreatDoor
open Go.RowKit
namespace Tn
set_option maxRecDepth 100000 in
set_option maxHeartbeats 1000000 in
theorem nadd_any (l : Nat) (w : World) : Calls Tryz.prog 159 #[.pointer (some ⟨l, 0, none⟩), .agg #[.int .i64 1, .string ⟨#[104, 101, 108, 108, 111]⟩, .int .i64 0, .slice none 0 0]] w fun e w' => e = .returned (.tuple #[]) ∧ Below w.heap.size w w' := by
  go_enter Tryz.func159, Tryz.ntmps159
  go_wp2_with fail
  first | go_end0 | refine bodyPost_ret (results_none rfl _ _ _) rfl ?_
  exact ⟨rfl, by first | exact blw_alloc _ _ | exact (blw_alloc w _).alloc (by simp) _⟩
set_option maxRecDepth 100000 in
set_option maxHeartbeats 1000000 in
theorem nall_any (l : Nat) (v : Value) (w : World) (h : HiM w v) : Calls Tryz.prog 120 #[.pointer (some ⟨l, 0, none⟩), v] w fun e w' => e = .returned (.tuple #[]) ∧ Below w.heap.size w w' := by
  have CA := Lib.hid (nadd_any l)
  have CC := Lib.hid gcases_any
  obtain ⟨b, off, cap, rfl, hc, x0, x1, x2, x3⟩ := h
  have lb := World.block_lt_of_cell? _ _ x0
  dsimp only at lb
  have BN := Lib.hid (Boxed.made w hiC 139)
  go_enter Tryz.func120, Tryz.ntmps120
  go_wp2_with fail
  refine wp_loop_rounds 2 ?_
  rw [rounds_succ]
  go_wp2_with fail
  refine (CA.out _).mono ?_
  rintro e w1 ⟨rfl, hb⟩
  have W1 := Lib.hid (blw_trans (blw_alloc w (.cells hiC 139)) hb)
  have BN1 := Lib.hid (BN.out.below hb)
  clear hb CA x0 x1 x2 x3
  have x0 := BN1.out.cell 0 _ rfl
  have x1 := BN1.out.cell 1 _ rfl
  have x2 := BN1.out.cell 2 _ rfl
  have x3 := BN1.out.cell 3 _ rfl
  have xl := BN1.out.lt
  go_wp2_with fail
  refine (CC.out _).mono ?_
  rintro e w2 ⟨rfl, hb⟩
  have W2 := Lib.hid (blw_trans W1.out hb)
  clear hb CC
  go_wp2_with fail
  refine wp_loop_rounds 1 ?_
  rw [rounds_succ]
  go_wp2_with fail
  rw [rounds_succ]
  go_wp2_with fail
  go_end0
  exact ⟨rfl, W2.out⟩
set_option maxRecDepth 100000 in
set_option maxHeartbeats 1000000 in
theorem nhas_any (f : Value) (w : World) : Calls Tryz.prog 160 #[.slice none 0 0, f] w fun e w' => e = .returned (.int .i64 (-1)) ∧ w = w' := by
  go_enter Tryz.func160, Tryz.ntmps160
  go_wp2_with fail
  refine wp_loop_rounds 1 ?_
  rw [rounds_succ]
  go_wp2_with fail
  go_ret
  exact ⟨rfl, rfl⟩
set_option maxRecDepth 100000 in
set_option maxHeartbeats 1000000 in
theorem ncon_any (f : Value) (w : World) : Calls Tryz.prog 121 #[.slice none 0 0, f] w fun e w' => e = .returned (.bool false) ∧ w = w' := by
  have C := Lib.hid (nhas_any f)
  go_enter Tryz.func121, Tryz.ntmps121
  go_wp2_with fail
  refine (C.out _).mono ?_
  rintro e w' ⟨rfl, rfl⟩
  go_wp2_with fail
  go_ret
  exact ⟨rfl, rfl⟩
set_option maxRecDepth 100000 in
set_option maxHeartbeats 1000000 in
theorem nof1_any (v : Value) (w : World) (h : HiM w v) : Calls Tryz.prog 91 #[v] w fun e w' => e = .returned (.tuple #[.slice none 0 0, .nilIface]) ∧ Below w.heap.size w w' := by
  have CK := Lib.hid (gCheck_any v w h)
  have CA := Lib.hid fun l wx (hb : Below w.heap.size w wx) => nall_any l v wx (h.below hb)
  have CN := Lib.hid ncon_any
  have hmf : ∀ (fn : Fn) (first cap : Array Value) (w : World), (Instr.makeFunc fn first cap).run Tryz.prog w = .ok (.func fn first cap) w := fun _ _ _ _ => rfl
  obtain ⟨b, off, cap, rfl, _⟩ := h
  go_enter Tryz.func91, Tryz.ntmps91
  go_wp2_with fail
  refine CK.out.mono ?_
  rintro e w1 ⟨rfl, hb⟩
  have W1 := Lib.hid (hb.alloc hb.size (.cells #[.slice none 0 0] 174))
  have BL := Lib.hid (Boxed.made w1 #[.slice none 0 0] 174)
  clear hb CK
  go_wp2_with fail
  refine (CA.out _ _ W1.out).mono ?_
  rintro e w2 ⟨rfl, hb⟩
  have W2 := Lib.hid (blw_trans W1.out hb)
  have BL2 := Lib.hid (BL.out.below hb)
  have l0 := BL2.out.cell 0 _ rfl
  have ll := BL2.out.lt
  clear hb CA BL W1
  go_wp2_with fail
  refine (CN.out _ _).mono ?_
  rintro e w3 ⟨rfl, rfl⟩
  go_wp2_with fail
  go_ret2
  exact ⟨rfl, W2.out⟩
set_option maxRecDepth 100000 in
set_option maxHeartbeats 1000000 in
theorem nfits1_any (v : Value) (w : World) (h : HiM w v) : Calls Tryz.prog 62 #[v, .slice none 0 0] w fun e w' => e = .returned .nilIface ∧ Below w.heap.size w w' := by
  have CO := Lib.hid (nof1_any v w h)
  have MM := fun wx => (run_makeMap (P := Tryz.prog) (w := wx) 177)
  obtain ⟨b, off, cap, rfl, _⟩ := h
  go_enter Tryz.func62, Tryz.ntmps62
  go_wp2_with fail
  refine CO.out.mono ?_
  rintro e w1 ⟨rfl, hb⟩
  have W1 := Lib.hid (hb.alloc hb.size (.map #[] 0))
  clear hb CO
  go_wp2_with fail
  refine wp_loop_rounds 1 ?_
  rw [rounds_succ]
  go_wp2_with fail
  refine wp_loop_rounds 1 ?_
  rw [rounds_succ]
  go_wp2_with fail
  go_ret
  exact ⟨rfl, W1.out⟩
end Tn
end Go.Proofs.YtghohnbajbikjaaGreatDoor
