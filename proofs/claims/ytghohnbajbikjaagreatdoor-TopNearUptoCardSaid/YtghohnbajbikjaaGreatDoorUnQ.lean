/- The walk of code.copied at the message that is hello. -/
import Derived.Test.YtghohnbajbikjaaGreatDoorUnH
import Derived.Maps.AppendAt
namespace Go.Proofs.YtghohnbajbikjaaGreatDoor
open Go.RowKit
namespace Tn
theorem infoNode : (Tryz.prog.info? 139).map (fun i => (i.zero, i.size, i.bytes)) = some (some (.agg #[.int .i64 0, .string ByteArray.empty, .int .i64 0, .slice none 0 0]), 4, 56) := by kernel_rfl
theorem row_cells {w : World} {B k : Nat} {e : TypeId} {v : Value} {xs : List Value} (h : w.ownsRow B e k v 1 xs) : ∃ g cap, v = .slice (some ⟨g, 0, none⟩) 1 cap ∧ B ≤ g ∧ 1 ≤ cap ∧ cap ≤ maxLen ∧ Boxed w g xs.toArray := by
  rcases h.2 with ⟨_, h0⟩ | ⟨g, cap, cur, rfl, hB, hg, h1, h2, h3, h4⟩
  · cases h0
  · refine ⟨g, cap, rfl, hB, h1, h2, ⟨(Array.getElem?_eq_some_iff.1 hg).1, fun j u hj => ?_, fun j _ => by simp [World.frozen?, hg]⟩⟩
    have hc : xs[j]? = some u := by simpa using hj
    rw [← h4, List.getElem?_take] at hc
    split at hc
    · simp [World.cell?, hg, ← hc]
    · cases hc
theorem HiM.of_box {w : World} {g cap : Nat} (h : Boxed w g hiC) (hc : 1 ≤ cap) : HiM w (.slice (some ⟨g, 0, none⟩) 1 cap) := ⟨g, 0, cap, rfl, hc, h.cell 0 _ rfl, h.cell 1 _ rfl, h.cell 2 _ rfl, h.cell 3 _ rfl⟩
theorem cellsQ_new (w : World) (xs : List Value) (t : TypeId) : ∀ j u, xs[j]? = some u → (w.alloc (.cells xs.toArray t)).cell? ((⟨w.heap.size, 0, none⟩ : Addr).add j) = some u := by
  intro j u hj
  have c := (Boxed.made w xs.toArray t).cell j u (by simpa using hj)
  cases j with
  | zero => simpa [Addr.add] using c
  | succ j => simpa [Addr.add] using c
theorem hi_one : ∀ u ∈ hiC.toList, u.oneCell' = true := by decide
theorem below_grown {W w w2 : World} {row : Option Nat} (hb : Below W.heap.size W w) (hg : w.grownBy w2 row) (hr : row = none) : Below W.heap.size W w2 :=
  hb.grown hg hb.size (fun k hk => by rw [hr] at hk; cases hk)
set_option maxRecDepth 100000 in
set_option maxHeartbeats 2000000 in
theorem gcopied_any (v : Value) (w : World) (h : HiM w v) : Calls Tryz.prog 89 #[v] w fun e w' => ∃ g cap, e = .returned (.slice (some ⟨g, 0, none⟩) 1 cap) ∧ 1 ≤ cap ∧ w.heap.size ≤ g ∧ Boxed w' g hiC ∧ Below w.heap.size w w' := by
  have CC := Lib.hid gcases_any
  obtain ⟨b, off, cap, rfl, hc, x0, x1, x2, x3⟩ := h
  have lb := World.block_lt_of_cell? _ _ x0
  dsimp only at lb
  obtain ⟨iN, hiN, hN0, hN1, hN2⟩ := info_parts infoNode
  have BY := Lib.hid ((Boxed.made (w.alloc (.cells hiC 139)) hiC 139).at (q := w.heap.size + 1) (by simp))
  go_enter Tryz.func89, Tryz.ntmps89
  go_wp2_with fail
  refine wp_loop_rounds 2 ?_
  rw [rounds_succ]
  go_wp2_with fail
  refine (CC.out _).mono ?_
  rintro e w1 ⟨rfl, hb⟩
  have W1 := Lib.hid (blw_trans ((blw_alloc w (.cells hiC 139)).alloc (by simp) (.cells hiC 139)) hb)
  have BY1 := Lib.hid (BY.out.below hb)
  have y0 := BY1.out.cell 0 _ rfl
  have y1 := BY1.out.cell 1 _ rfl
  have y2 := BY1.out.cell 2 _ rfl
  have y3 := BY1.out.cell 3 _ rfl
  have yl := BY1.out.lt
  clear hb CC BY x0 x1 x2 x3
  go_wp2_with fail
  refine wp_loop_rounds 1 ?_
  rw [rounds_succ]
  go_wp2_with (at_builtin; refine wpList_append_own_at _ rfl _ _ 84 rfl w.heap.size 139 iN _ 4 56 Tryz.underlying84 hiN hN0 hN1 hN2 rfl (by decide) (.slice none 0 0) 0 [] rfl (World.ownsRow_nil _ _ _ _) ⟨w1.heap.size, 0, none⟩ 1 1 hiC.toList rfl rfl (cellsQ_new _ _ _) hi_one (by unfold maxLen; omega) (by omega) (by simp; have := W1.out.size; omega) ?_; intro o' w6 hown hgrow _ hat; have W6 := Lib.hid (below_grown (W1.out.alloc W1.out.size (.cells hiC 139)) hgrow rfl); have HO := Lib.hid hown; obtain ⟨g, cp, rfl, _, _⟩ := row_cells hown; clear hown hgrow hat)
  rw [rounds_succ]
  go_wp2_with fail
  go_ret
  obtain ⟨g', cp', e, h2, h1, _, hx⟩ := row_cells HO.out
  injection e with e1 _ e3
  injection e1 with e1
  injection e1 with e1
  subst e1 e3
  exact ⟨_, _, rfl, h1, h2, hx, W6.out⟩
end Tn
end Go.Proofs.YtghohnbajbikjaaGreatDoor
