/- The law RuleBack, proved where what it reads is of bulk at most 1048576: the call returns true of every input, and turns nothing that was there. Conditions: the row's own (the listed variables hold what the program's text lays; the card ties them). -/
import Derived.Test.YtoglgcjdjbjlmaaDoorBox
import Derived.Test.YtoglgcjdjbjlmaaDoorRulFine
import Derived.Test.YtoglgcjdjbjlmaaDoorHeld
import Derived.OwnWalk
import Derived.Laws.StructEq
import Derived.Test.YtoglgcjdjbjlmaaDoorRparse
import Derived.Test.YtoglgcjdjbjlmaaDoorRows
import Derived.Test.YtoglgcjdjbjlmaaDoorRulAt
import Derived.Test.YtoglgcjdjbjlmaaDoorRulQ
import Derived.OpenShut
import Derived.Deep.Slices
import Derived.Deep.Fields
import Derived.ChangeSame
import Derived.Test.YtoglgcjdjbjlmaaDoorItoa
import Derived.LaidSub
import Derived.MakeChecks
import Derived.Test.YtoglgcjdjbjlmaaDoorCards
import Derived.Test.YtoglgcjdjbjlmaaDoorTie
import Derived.Deep.DeepHandedRow
import Derived.Deep.DeepWitnessRowRef
import Derived.Stop.Joined
import Derived.Lay
import Derived.Test.YtoglgcjdjbjlmaaDoorFrame
namespace Go.Proofs.YtoglgcjdjbjlmaaDoor
open Go.RowKit

/-- only draws -/
def Drew (w w' : World) : Prop := ∃ n, w' = w.drewN n
theorem Drew.refl (w : World) : Drew w w := ⟨0, rfl⟩
theorem drewN_drewN (w : World) (a b : Nat) : (w.drewN a).drewN b = w.drewN (a + b) := by
  induction b with
  | zero => rfl
  | succ b ih => show ((w.drewN a).drewN b).drew = (w.drewN (a + b)).drew; rw [ih]
theorem Drew.drewN {w w' : World} (h : Drew w w') (n : Nat) : Drew w (w'.drewN n) := by
  obtain ⟨a, rfl⟩ := h
  exact ⟨a + n, drewN_drewN w a n⟩
theorem Drew.drew {w w' : World} (h : Drew w w') : Drew w w'.drew := h.drewN 1
theorem Drew.below {w w' : World} (h : Drew w w') : Below w.heap.size w w' := by
  obtain ⟨a, rfl⟩ := h
  exact blw_drewN (Below.refl _ _) a
end Go.Proofs.YtoglgcjdjbjlmaaDoor
namespace Go.Proofs.YtoglgcjdjbjlmaaDoor
open Go.RowKit

theorem eq_rng (a b : Int) (w : World) : (Op.equalIn 10000 84 (.agg #[.int .i64 a, .int .i64 b]) (.agg #[.int .i64 a, .int .i64 b])).run Tryd.prog w = .ok true w := by
  have u3 := Tryd.underlying3
  have a3 := Tryd.isAgg3
  have z3 := Tryd.sizeOf3
  rw [show (10000 : Nat) = 9999 + 1 from rfl, Op.equalIn]
  simp only [Sem.run_bind, run_underlying Tryd.underlying84, Result.andThen_ok]
  simp only [Std.Legacy.Range.forIn_eq_forIn_range', Std.Legacy.Range.size, Nat.sub_zero, Nat.add_sub_cancel, Nat.div_one, List.range'_succ, List.range'_zero, List.forIn_cons, List.forIn_nil]
  go_simp

set_option maxRecDepth 100000 in
set_option maxHeartbeats 2000000 in
theorem srel_none (op mod : Int) (no : Bool) (a a' : Option Addr) (c c' : Nat) (w : World) :
    Calls Tryd.prog 29 #[.agg #[.int .u8 op, .int .i64 mod, .bool no, .slice a 0 c], .agg #[.int .u8 op, .int .i64 mod, .bool no, .slice a' 0 c']] w fun e w' => e = .returned (.bool true) ∧ Below w.heap.size w w' := by
  have W2 := Lib.hid ((blw_alloc w (.cells #[.int .u8 op, .int .i64 mod, .bool no, .slice a 0 c] 60)).alloc (by simp) (.cells #[.int .u8 op, .int .i64 mod, .bool no, .slice a' 0 c'] 60))
  go_enter Tryd.func29, Tryd.ntmps29
  go_wp2_with fail
  refine wp_loop_rounds 1 ?_
  rw [rounds_succ]
  go_wp2_with fail
  go_ret
  exact ⟨rfl, W2.out⟩
set_option maxRecDepth 100000 in
set_option maxHeartbeats 2000000 in
theorem srel_some (rs : List (Int × Int)) (op mod : Int) (no : Bool) (b b' off off' cap cap' n : Nat) (w : World) (hn : rs.length = n) (hm : n ≤ 9223372036854775807) (hc : ∀ (j : Nat) x, rs[j]? = some x → RngC w b (off + j * 2) x) (hc' : ∀ (j : Nat) x, rs[j]? = some x → RngC w b' (off' + j * 2) x) :
    Calls Tryd.prog 29 #[.agg #[.int .u8 op, .int .i64 mod, .bool no, .slice (some ⟨b, off, none⟩) n cap], .agg #[.int .u8 op, .int .i64 mod, .bool no, .slice (some ⟨b', off', none⟩) n cap']] w fun e w' => e = .returned (.bool true) ∧ Below w.heap.size w w' := by
  have W2 := Lib.hid ((blw_alloc w (.cells #[.int .u8 op, .int .i64 mod, .bool no, .slice (some ⟨b, off, none⟩) n cap] 60)).alloc (by simp) (.cells #[.int .u8 op, .int .i64 mod, .bool no, .slice (some ⟨b', off', none⟩) n cap'] 60))
  have HC := Lib.hid hc
  have HC' := Lib.hid hc'
  have HN := Lib.hid hn
  clear hc hc' hn
  go_enter Tryd.func29, Tryd.ntmps29
  go_wp2_with fail
  have B2 := Lib.hid ((Boxed.made w #[.int .u8 op, .int .i64 mod, .bool no, .slice (some ⟨b, off, none⟩) n cap] 60).alloc (.cells #[.int .u8 op, .int .i64 mod, .bool no, .slice (some ⟨b', off', none⟩) n cap'] 60))
  have B3 := Lib.hid (Boxed.made (w.alloc (.cells #[.int .u8 op, .int .i64 mod, .bool no, .slice (some ⟨b, off, none⟩) n cap] 60)) #[.int .u8 op, .int .i64 mod, .bool no, .slice (some ⟨b', off', none⟩) n cap'] 60)
  simp only [World.size_alloc] at B3
  generalize (w.alloc (.cells #[.int .u8 op, .int .i64 mod, .bool no, .slice (some ⟨b, off, none⟩) n cap] 60)).alloc (.cells #[.int .u8 op, .int .i64 mod, .bool no, .slice (some ⟨b', off', none⟩) n cap'] 60) = v at *
  go_loopw [5] (fun i wr => ∃ k : Nat, i = .int .i64 k ∧ k ≤ n ∧ Hid (Drew v wr)) (fun i _ => n - (RowKit.intOf i).toNat)
  case atStart => exact ⟨0, rfl, Nat.zero_le _, Drew.refl _⟩
  case round =>
    obtain ⟨k, rfl, hk, HD⟩ := hrel
    have K3 := (B2.out.below HD.out.below).cell 3 _ rfl
    have J3 := (B3.out.below HD.out.below).cell 3 _ rfl
    by_cases hlt : k < n
    · obtain ⟨x, hx⟩ : ∃ x, rs[k]? = some x := ⟨rs[k]'(by have := HN.out; omega), List.getElem?_eq_getElem (by have := HN.out; omega)⟩
      have x0 := cell_keep (cell_keep (HC.out k x hx).1 W2.out) HD.out.below
      have x1 := cell_keep (cell_keep (HC.out k x hx).2 W2.out) HD.out.below
      have y0 := cell_keep (cell_keep (HC'.out k x hx).1 W2.out) HD.out.below
      have y1 := cell_keep (cell_keep (HC'.out k x hx).2 W2.out) HD.out.below
      have EQ := fun w => eq_rng x.1 x.2 w
      clear hx
      have k0 : (0 : Int) ≤ (k : Int) := by omega
      have k1 : (k : Int) < (n : Int) := by omega
      go_wp2_with fail
      go_region
      go_wp2_with fail
      go_roundw
      case rel => exact ⟨k + 1, by go_num, by omega, Lib.hid (HD.out.drewN _)⟩
      case measure => simp [RowKit.intOf]; omega
    · have e : k = n := by omega
      subst e
      go_wp2_with fail
      go_ret
      exact ⟨rfl, W2.out.trans (HD.out.below.mono W2.out.size)⟩
theorem srel_same (r : Rul.Rl) (a a' : Option Addr) (n n' c c' : Nat) (w : World) (hs : SlAt 2 RngC w (.slice a n c) r.rs) (hs' : SlAt 2 RngC w (.slice a' n' c') r.rs) :
    Calls Tryd.prog 29 #[.agg #[.int .u8 (r.op.toNat : Int), .int .i64 r.mod, .bool r.no, .slice a n c], .agg #[.int .u8 (r.op.toNat : Int), .int .i64 r.mod, .bool r.no, .slice a' n' c']] w fun e w' => e = .returned (.bool true) ∧ Below w.heap.size w w' := by
  rcases hs with ⟨e, a1, c1, e1⟩ | ⟨b, off, cap, e1, h0, h1, h2, h3⟩
  · rcases hs' with ⟨_, a2, c2, e2⟩ | ⟨b', off', cap', e2, h0', h1', h2', h3'⟩
    · injection e1 with e1 e1' e1''
      injection e2 with e2 e2' e2''
      subst e1' e2'
      exact srel_none _ _ _ _ _ _ _ w
    · rw [e] at h0'; simp at h0'
  · rcases hs' with ⟨e, a2, c2, e2⟩ | ⟨b', off', cap', e2, h0', h1', h2', h3'⟩
    · rw [e] at h0; simp at h0
    · injection e1 with e1 e1' e1''
      injection e2 with e2 e2' e2''
      subst e1 e2 e1' e2' e1'' e2''
      unfold maxLen at h2
      exact srel_some r.rs _ _ _ b b' off off' _ _ _ w rfl (by omega) h3 h3'
end Go.Proofs.YtoglgcjdjbjlmaaDoor
namespace Go.Proofs.YtoglgcjdjbjlmaaDoor
open Go.RowKit

set_option maxRecDepth 100000 in
set_option maxHeartbeats 2000000 in
theorem srule_none (a a' : Option Addr) (c c' : Nat) (w : World) :
    Calls Tryd.prog 12 #[.slice a 0 c, .slice a' 0 c'] w fun e w' => e = .returned (.bool true) ∧ Below w.heap.size w w' := by
  go_enter Tryd.func12, Tryd.ntmps12
  go_wp2_with fail
  refine wp_loop_rounds 1 ?_
  rw [rounds_succ]
  go_wp2_with fail
  go_ret
  exact ⟨rfl, Below.refl _ _⟩
set_option maxRecDepth 100000 in
set_option maxHeartbeats 4000000 in
theorem srule_some (r : Rul.Rule) (b b' off off' cap cap' n : Nat) (w : World) (hn : r.length = n) (hm : n ≤ 9223372036854775807) (hc : ∀ (j : Nat) x, r[j]? = some x → PartC w b (off + j * 1) x) (hc' : ∀ (j : Nat) x, r[j]? = some x → PartC w b' (off' + j * 1) x) :
    Calls Tryd.prog 12 #[.slice (some ⟨b, off, none⟩) n cap, .slice (some ⟨b', off', none⟩) n cap'] w fun e w' => e = .returned (.bool true) ∧ Below w.heap.size w w' := by
  have HC := Lib.hid hc
  have HC' := Lib.hid hc'
  have HN := Lib.hid hn
  clear hc hc' hn
  go_enter Tryd.func12, Tryd.ntmps12
  go_wp2_with fail
  go_loopw [5] (fun i wr => ∃ k : Nat, i = .int .i64 k ∧ k ≤ n ∧ Hid (Below w.heap.size w wr)) (fun i _ => n - (RowKit.intOf i).toNat)
  case atStart => exact ⟨0, rfl, Nat.zero_le _, Lib.hid (Below.refl _ _)⟩
  case round =>
    obtain ⟨k, rfl, hk, HD⟩ := hrel
    by_cases hlt : k < n
    · obtain ⟨x, hx⟩ : ∃ x, r[k]? = some x := ⟨r[k]'(by have := HN.out; omega), List.getElem?_eq_getElem (by have := HN.out; omega)⟩
      obtain ⟨pa, pn, pc, p0, ps⟩ := HC.out k x hx
      obtain ⟨qa, qn, qc, q0, qs⟩ := HC'.out k x hx
      rw [Nat.mul_one] at p0 q0
      have x0 := cell_keep p0 HD.out
      have y0 := cell_keep q0 HD.out
      obtain ⟨A1, cap1, e1, hm1, hcell1⟩ := ps.spread
      obtain ⟨A2, cap2, e2, hm2, hcell2⟩ := qs.spread
      injection e1 with e1 e1' e1''
      injection e2 with e2 e2' e2''
      subst e1 e1' e1'' e2 e2' e2''
      have PS := Lib.hid ps
      have QS := Lib.hid qs
      have P0 := Lib.hid p0
      have Q0 := Lib.hid q0
      have HC1 := Lib.hid hcell1
      have HC2 := Lib.hid hcell2
      obtain ⟨m, hmm⟩ : ∃ m, x.length = m := ⟨_, rfl⟩
      rw [hmm] at x0 y0 PS QS P0 Q0
      have HX := Lib.hid hmm
      clear hx ps qs p0 q0 hcell1 hcell2 hmm hm2
      have k0 : (0 : Int) ≤ (k : Int) := by omega
      have k1 : (k : Int) < (n : Int) := by omega
      unfold maxLen at hm1
      have hm3 : m ≤ 9223372036854775807 := by have := HX.out; omega
      clear hm1
      go_wp2_with fail
      go_region
      go_wp2_with fail
      have HDD := Lib.hid (show Below w.heap.size w wr.drew from Below.drew HD.out)
      have HK := Lib.hid (And.intro hlt hk)
      generalize wr.drew = v at *
      clear x0 y0 HD
      go_loopw [6] (fun i wr => ∃ j : Nat, i = .int .i64 j ∧ j ≤ m ∧ Hid (Below w.heap.size w wr)) (fun i _ => m - (RowKit.intOf i).toNat)
      case atStart => exact ⟨0, rfl, Nat.zero_le _, HDD⟩
      case round =>
        obtain ⟨j, rfl, hj, HI⟩ := hrel
        have x1 := cell_keep P0.out HI.out
        have y1 := cell_keep Q0.out HI.out
        by_cases hjm : j < m
        · obtain ⟨y, hy⟩ : ∃ y, x[j]? = some y := ⟨x[j]'(by have := HX.out; omega), List.getElem?_eq_getElem (by have := HX.out; omega)⟩
          obtain ⟨b1, o1, rfl, ra, rn, rc, r0, r1, r2, r3, rs⟩ := HC1.out j y hy
          obtain ⟨b2, o2, rfl, sa, sn, sc, s0, s1, s2, s3, ss⟩ := HC2.out j y hy
          have z0 := cell_keep r0 HI.out
          have z1 := cell_keep r1 HI.out
          have z2 := cell_keep r2 HI.out
          have z3 := cell_keep r3 HI.out
          have t0 := cell_keep s0 HI.out
          have t1 := cell_keep s1 HI.out
          have t2 := cell_keep s2 HI.out
          have t3 := cell_keep s3 HI.out
          have CS := Lib.hid fun (wx : World) (hb : Below w.heap.size w wx) => srel_same y ra sa rn sn rc sc wx (rs.rngs_below hb) (ss.rngs_below hb)
          clear hy r0 r1 r2 r3 rs s0 s1 s2 s3 ss HC1 HC2 PS QS
          have j0 : (0 : Int) ≤ (j : Int) := by omega
          have j1 : (j : Int) < (m : Int) := by omega
          go_wp2_with fail
          refine wp_region_held_drew (S := fun w' => w'.cell? ⟨b, off + k, none⟩ = some (.slice (some ⟨b1, o1, none⟩) m pc) ∧ w'.cell? ⟨b', off' + k, none⟩ = some (.slice (some ⟨b2, o2, none⟩) m qc) ∧ w'.cell? ⟨b1, o1 + j * 4, none⟩ = some (.int .u8 (y.op.toNat : Int)) ∧ w'.cell? ⟨b1, o1 + j * 4 + 1, none⟩ = some (.int .i64 y.mod) ∧ w'.cell? ⟨b1, o1 + j * 4 + 2, none⟩ = some (.bool y.no) ∧ w'.cell? ⟨b1, o1 + j * 4 + 3, none⟩ = some (.slice ra rn rc) ∧ w'.cell? ⟨b2, o2 + j * 4, none⟩ = some (.int .u8 (y.op.toNat : Int)) ∧ w'.cell? ⟨b2, o2 + j * 4 + 1, none⟩ = some (.int .i64 y.mod) ∧ w'.cell? ⟨b2, o2 + j * 4 + 2, none⟩ = some (.bool y.no) ∧ w'.cell? ⟨b2, o2 + j * 4 + 3, none⟩ = some (.slice sa sn sc) ∧ Hid (Below w.heap.size w w')) (by kernel_rfl) (by exact ⟨by go_keep, by go_keep, by go_keep, by go_keep, by go_keep, by go_keep, by go_keep, by go_keep, by go_keep, by go_keep, Lib.hid (Below.drew HI.out)⟩) (fun hHeld => ?_)
          refine take_run (d := (some 39)) (v := ?v1) 0 rfl rfl (by kernel_rfl) (by kernel_rfl) (by kernel_rfl) (fun _ _ _ h => h) (by rfl) hHeld ?hy1 ?rs1
          case hy1 => (intro w hSw; (try dsimp only at hSw); go_simp) <;> (try with_reducible rfl)
          (try simp only [Act.put, List.setIfInBounds_toArray, List.set_cons_zero, List.set_cons_succ])
          refine take_run (d := (some 40)) (v := ?v2) 1 rfl rfl (by kernel_rfl) (by kernel_rfl) (by kernel_rfl) (fun _ _ _ h => h) (by rfl) hHeld ?hy2 ?rs2
          case hy2 => (intro w hSw; (try dsimp only at hSw); go_simp) <;> (try with_reducible rfl)
          (try simp only [Act.put, List.setIfInBounds_toArray, List.set_cons_zero, List.set_cons_succ])
          refine take_run (d := (some 41)) (v := ?v3) 2 rfl rfl (by kernel_rfl) (by kernel_rfl) (by kernel_rfl) (fun _ _ _ h => h) (by rfl) hHeld ?hy3 ?rs3
          case hy3 => (intro w hSw; (try dsimp only at hSw); go_simp) <;> (try with_reducible rfl)
          (try simp only [Act.put, List.setIfInBounds_toArray, List.set_cons_zero, List.set_cons_succ])
          refine take_run (d := (some 42)) (v := ?v4) 3 rfl rfl (by kernel_rfl) (by kernel_rfl) (by kernel_rfl) (fun _ _ _ h => h) (by rfl) hHeld ?hy4 ?rs4
          case hy4 => (intro w hSw; (try dsimp only at hSw); go_simp) <;> (try with_reducible rfl)
          (try simp only [Act.put, List.setIfInBounds_toArray, List.set_cons_zero, List.set_cons_succ])
          refine take_run (d := (some 43)) (v := ?v5) 4 rfl rfl (by kernel_rfl) (by kernel_rfl) (by kernel_rfl) (fun _ _ _ h => h) (by rfl) hHeld ?hy5 ?rs5
          case hy5 => (intro w hSw; (try dsimp only at hSw); go_simp) <;> (try with_reducible rfl)
          (try simp only [Act.put, List.setIfInBounds_toArray, List.set_cons_zero, List.set_cons_succ])
          refine take_run (d := (some 44)) (v := ?v6) 5 rfl rfl (by kernel_rfl) (by kernel_rfl) (by kernel_rfl) (fun _ _ _ h => h) (by rfl) hHeld ?hy6 ?rs6
          case hy6 => (intro w hSw; (try dsimp only at hSw); go_simp) <;> (try with_reducible rfl)
          (try simp only [Act.put, List.setIfInBounds_toArray, List.set_cons_zero, List.set_cons_succ])
          refine take_run (d := (some 45)) (v := ?v7) 6 rfl rfl (by kernel_rfl) (by kernel_rfl) (by kernel_rfl) (fun _ _ _ h => h) (by rfl) hHeld ?hy7 ?rs7
          case hy7 => (intro w hSw; (try dsimp only at hSw); go_simp) <;> (try with_reducible rfl)
          (try simp only [Act.put, List.setIfInBounds_toArray, List.set_cons_zero, List.set_cons_succ])
          refine take_run (d := (some 46)) (v := ?v8) 7 rfl rfl (by kernel_rfl) (by kernel_rfl) (by kernel_rfl) (fun _ _ _ h => h) (by rfl) hHeld ?hy8 ?rs8
          case hy8 => (intro w hSw; (try dsimp only at hSw); go_simp) <;> (try with_reducible rfl)
          (try simp only [Act.put, List.setIfInBounds_toArray, List.set_cons_zero, List.set_cons_succ])
          refine take_run (d := (some 47)) (v := ?v9) 8 rfl rfl (by kernel_rfl) (by kernel_rfl) (by kernel_rfl) (fun _ _ _ h => h) (by rfl) hHeld ?hy9 ?rs9
          case hy9 => (intro w hSw; (try dsimp only at hSw); go_simp) <;> (try with_reducible rfl)
          (try simp only [Act.put, List.setIfInBounds_toArray, List.set_cons_zero, List.set_cons_succ])
          refine take_run (d := (some 48)) (v := ?v10) 9 rfl rfl (by kernel_rfl) (by kernel_rfl) (by kernel_rfl) (fun _ _ _ h => h) (by rfl) hHeld ?hy10 ?rs10
          case hy10 => (intro w hSw; (try dsimp only at hSw); go_simp) <;> (try with_reducible rfl)
          (try simp only [Act.put, List.setIfInBounds_toArray, List.set_cons_zero, List.set_cons_succ])
          refine take_run (d := (some 49)) (v := ?v11) 10 rfl rfl (by kernel_rfl) (by kernel_rfl) (by kernel_rfl) (fun _ _ _ h => h) (by rfl) hHeld ?hy11 ?rs11
          case hy11 => (intro w hSw; (try dsimp only at hSw); go_simp) <;> (try with_reducible rfl)
          (try simp only [Act.put, List.setIfInBounds_toArray, List.set_cons_zero, List.set_cons_succ])
          refine take_run (d := (some 50)) (v := ?v12) 11 rfl rfl (by kernel_rfl) (by kernel_rfl) (by kernel_rfl) (fun _ _ _ h => h) (by rfl) hHeld ?hy12 ?rs12
          case hy12 => (intro w hSw; (try dsimp only at hSw); go_simp) <;> (try with_reducible rfl)
          (try simp only [Act.put, List.setIfInBounds_toArray, List.set_cons_zero, List.set_cons_succ])
          refine take_run (d := (some 51)) (v := ?v13) 12 rfl rfl (by kernel_rfl) (by kernel_rfl) (by kernel_rfl) (fun _ _ _ h => h) (by rfl) hHeld ?hy13 ?rs13
          case hy13 => (intro w hSw; (try dsimp only at hSw); go_simp) <;> (try with_reducible rfl)
          (try simp only [Act.put, List.setIfInBounds_toArray, List.set_cons_zero, List.set_cons_succ])
          refine take_run (d := (some 52)) (v := ?v14) 13 rfl rfl (by kernel_rfl) (by kernel_rfl) (by kernel_rfl) (fun _ _ _ h => h) (by rfl) hHeld ?hy14 ?rs14
          case hy14 => (intro w hSw; (try dsimp only at hSw); go_simp) <;> (try with_reducible rfl)
          (try simp only [Act.put, List.setIfInBounds_toArray, List.set_cons_zero, List.set_cons_succ])
          refine take_call 14 rfl (by kernel_rfl) (by rfl) (fun K hK => ?_)
          go_simp
          refine (CS.out _ (by obtain ⟨_, _, _, _, _, _, _, _, _, _, h1⟩ := hHeld; exact h1.out)).mono ?_
          rintro e w' ⟨rfl, hb⟩
          refine hK.out _ _ (by obtain ⟨h0, h1, h2, h3, h4, h5, h6, h7, h8, h9, hw⟩ := hHeld; exact ⟨cell_keep h0 hb, cell_keep h1 hb, cell_keep h2 hb, cell_keep h3 hb, cell_keep h4 hb, cell_keep h5 hb, cell_keep h6 hb, cell_keep h7 hb, cell_keep h8 hb, cell_keep h9 hb, Lib.hid (blw_trans hw.out hb)⟩) (fun hHeld => ?_)
          clear hK K
          (try simp only [Act.put, List.setIfInBounds_toArray, List.set_cons_zero, List.set_cons_succ])
          refine take_run (d := (some 7)) (v := ?v16) 15 rfl rfl (by kernel_rfl) (by kernel_rfl) (by kernel_rfl) (fun _ _ _ h => h) (by rfl) hHeld ?hy16 ?rs16
          case hy16 => (intro w hSw; (try dsimp only at hSw); go_simp) <;> (try with_reducible rfl)
          (try simp only [Act.put, List.setIfInBounds_toArray, List.set_cons_zero, List.set_cons_succ])
          refine wpAnyH_done (by kernel_rfl) ?_ _
          obtain ⟨z0, z1, z2, z3, z4, z5, z6, z7, z8, z9, zW⟩ := hHeld
          clear z0 z1 z2 z3 z4 z5 z6 z7 z8 z9
          go_wp2_with fail
          go_roundw
          case rel => exact ⟨j + 1, by go_num, by omega, zW⟩
          case measure => simp [RowKit.intOf]; omega
        · have e : j = m := by omega
          subst e
          go_wp2_with fail
          go_roundw
          case rel => exact ⟨k + 1, by go_num, by have := HK.out; omega, HI⟩
          case measure => have := HK.out; simp [RowKit.intOf]; omega
    · have e : k = n := by omega
      subst e
      go_wp2_with fail
      go_ret
      exact ⟨rfl, HD.out⟩
theorem srule_same (r : Rul.Rule) (a a' : Option Addr) (n n' c c' : Nat) (w : World) (hs : SlAt 1 PartC w (.slice a n c) r) (hs' : SlAt 1 PartC w (.slice a' n' c') r) :
    Calls Tryd.prog 12 #[.slice a n c, .slice a' n' c'] w fun e w' => e = .returned (.bool true) ∧ Below w.heap.size w w' := by
  rcases hs with ⟨e, a1, c1, e1⟩ | ⟨b, off, cap, e1, h0, h1, h2, h3⟩
  · rcases hs' with ⟨_, a2, c2, e2⟩ | ⟨b', off', cap', e2, h0', h1', h2', h3'⟩
    · injection e1 with e1 e1' e1''
      injection e2 with e2 e2' e2''
      subst e1' e2'
      exact srule_none _ _ _ _ w
    · rw [e] at h0'; simp at h0'
  · rcases hs' with ⟨e, a2, c2, e2⟩ | ⟨b', off', cap', e2, h0', h1', h2', h3'⟩
    · rw [e] at h0; simp at h0
    · injection e1 with e1 e1' e1''
      injection e2 with e2 e2' e2''
      subst e1 e2 e1' e2' e1'' e2''
      unfold maxLen at h2
      exact srule_some r b b' off off' _ _ _ w rfl (by omega) h3 h3'
end Go.Proofs.YtoglgcjdjbjlmaaDoor
namespace Go.Proofs.YtoglgcjdjbjlmaaDoor
open Go.RowKit

set_option maxRecDepth 100000 in
set_option maxHeartbeats 1000000 in
theorem ruled_any (w : World) (hM : MaxW w) (hN : NumW w) (hp : PowW w) : Calls Tryd.prog 9 #[] w fun e w' => e = .returned (.bool true) ∧ Below w.heap.size w w' := by
  have CP := Lib.hid (rparse_any Rul.firstS w hM hN hp (by decide))
  have e1 : Rul.firstS = [105, 32, 61, 32, 49, 32, 97, 110, 100, 32, 118, 32, 61, 32, 48] := rfl
  have HF := Lib.hid Rul.first_parse
  rw [e1] at CP HF
  clear hM hN hp e1
  go_enter Tryd.func9, Tryd.ntmps9
  go_wp2_with fail
  refine CP.out.mono ?_
  rintro e w2 ⟨v, f, rfl, hP, hb⟩
  rcases hP with ⟨_, rfl, a, n, c, rfl, hs⟩ | ⟨h, _⟩
  · rw [HF.out.2] at hs
    rcases hs with ⟨e, _⟩ | ⟨b, off, cap, e1, _, _, _, hc⟩
    · cases e
    injection e1 with e1 e2 e3
    subst e1 e2 e3
    obtain ⟨pa, pn, pc, p0, ps⟩ := hc 0 _ rfl
    rw [Nat.zero_mul, Nat.add_zero] at p0
    obtain ⟨A1, cap1, e1, _⟩ := ps.spread
    injection e1 with e1 e2 e3
    subst e1 e2 e3
    have W2 := Lib.hid hb
    clear hb hc ps CP
    simp only [Rul.firstR, List.length_cons, List.length_nil, Nat.reduceAdd] at *
    go_wp2_with fail
    go_ret
    exact ⟨rfl, W2.out⟩
  · rw [HF.out.1] at h; cases h
end Go.Proofs.YtoglgcjdjbjlmaaDoor
namespace Go.Proofs.YtoglgcjdjbjlmaaDoor
open Go.RowKit Go.WideShapes Go.ChangeShapes Go.Deep

theorem bulk_small {H : Type} {l : List (DataW H)} (hk : Rows.uptoSmall H l = true) : Rows.uptoBulkAll l ≤ 1048576 := of_decide_eq_true hk
theorem list_by {α : Type} {Q : Nat → α → Prop} : ∀ (n : Nat), (∀ i, i < n → ∃ t, Q i t) → ∃ L : List α, L.length = n ∧ ∀ i t, L[i]? = some t → Q i t
  | 0, _ => ⟨[], rfl, fun i t h => by simp at h⟩
  | n + 1, h => by
    obtain ⟨L, hl, hq⟩ := list_by n fun i hi => h i (by omega)
    obtain ⟨t, ht⟩ := h n (by omega)
    refine ⟨L ++ [t], by simp [hl], fun i x hx => ?_⟩
    by_cases hi : i < n
    · rw [List.getElem?_append_left (by omega)] at hx; exact hq i x hx
    · rw [List.getElem?_append_right (by omega)] at hx
      have hk : i - L.length < 1 := (List.getElem?_eq_some_iff.1 hx).1
      obtain rfl : i = n := by omega
      rw [hl, Nat.sub_self] at hx
      obtain rfl : t = x := by simpa using hx
      exact ht
theorem bulk_sum {H : Type} {α : Type} (bulk : α → Nat) : ∀ (L : List α) (D : Nat → DataW H) (k : Nat), (∀ i x, L[i]? = some x → bulk x + 1 ≤ Rows.uptoBulk (D (k + i))) → (L.map bulk).sum + L.length ≤ Rows.uptoBulkAll ((List.range' k L.length).map D)
  | [], _, _, _ => by simp [Rows.uptoBulkAll]
  | x :: r, D, k, h => by
    have a := h 0 x rfl
    have b := bulk_sum bulk r D (k + 1) fun i y hy => by
      have := h (i + 1) y (by simpa using hy)
      rwa [show k + 1 + i = k + (i + 1) by omega]
    rw [List.length_cons, List.range'_succ, List.map_cons, List.map_cons, List.sum_cons]
    simp only [Rows.uptoBulkAll]
    simp only [Nat.add_zero] at a
    omega
section
variable {H : Type} {enc : TypeId × Value → H} {P : Program} {w : World} {base : Nat} {sp : Nat → Bool} {held : Bool}
theorem sl_open {α : Type} {fuel m : Nat} {t e : TypeId} {C : World → Nat → Nat → α → Prop} (bulk : α → Nat) (ht : P.underlying t = some (.slice e)) (hC : P.cellsOf e = m) (hm : 0 < m)
    (el : ∀ (b off : Nat) (cs : List Value) (n : Nat) (y : DataW H × List MemPlace), (∀ i, i < m → w.cell? ⟨b, off + i, none⟩ = cs[i]?) → cs.length = m → DataW.trod enc P w base sp held n e cs = some y → ∃ x : α, C w b off x ∧ bulk x + 1 ≤ Rows.uptoBulk y.1)
    {a : Option Addr} {n c : Nat} {d : DataW H} {p : List MemPlace} (h : DataW.trod enc P w base sp held fuel t (Value.slice a n c).cells.toList = some (d, p)) :
    ∃ l : List α, SlAt m C w (.slice a n c) l ∧ (l.map bulk).sum + l.length + 1 ≤ Rows.uptoBulk d := by
  rcases open_slice ht h with ⟨hcs, hx⟩ | ⟨a', len, cap, mm, nn, D, Pl, hcs, _, hl, hcm, hmm, hx, hi⟩
  · have e1 : Value.slice a n c = .slice none 0 0 := by simpa [Value.cells] using hcs
    rw [e1]
    refine ⟨[], .inl ⟨rfl, none, 0, rfl⟩, ?_⟩
    rw [show d = .nil from congrArg Prod.fst hx]
    simp [Rows.uptoBulk]
  · have e1 : Value.slice a n c = .slice (some a') len cap := by simpa [Value.cells] using hcs
    rw [e1]
    have hd : d = .slice ((List.range len).map D) ((List.range (mm - len)).map fun j => D (len + j)) := congrArg Prod.fst hx
    by_cases hz : len = 0
    · subst hz
      refine ⟨[], .inl ⟨rfl, _, _, rfl⟩, ?_⟩
      rw [hd]
      simp only [List.map_nil, List.sum_nil, List.length_nil, Rows.uptoBulk]
      omega
    have hlm : len ≤ mm := by rw [hmm]; split <;> omega
    rw [hC] at hi
    obtain ⟨b, off, spot⟩ := a'
    have hsp : spot = none := by
      obtain ⟨cs0, q0, _⟩ := hi 0 (by omega)
      obtain ⟨_, q1, q2⟩ := World.cells?_some q0
      have q3 := q2 0 hm
      rw [List.getElem?_eq_getElem (by omega)] at q3
      simpa [Addr.add] using World.cell?_spot q3
    subst hsp
    obtain ⟨L, hL, hQ⟩ := list_by (Q := fun i x => C w b (off + i * m) x ∧ bulk x + 1 ≤ Rows.uptoBulk (D i)) len fun i hil => by
      obtain ⟨cs', q0, q1⟩ := hi i (by omega)
      obtain ⟨_, q2, q3⟩ := World.cells?_some q0
      rw [Go.WideShapes.add_plain] at q3
      exact el b (off + i * m) cs' nn _ (fun j hj => by have := q3 j hj; rwa [Go.WideShapes.add_plain] at this) q2 q1
    refine ⟨L, .inr ⟨b, off, cap, by rw [hL], by omega, by omega, hcm, fun j x hx => (hQ j x hx).1⟩, ?_⟩
    have s := bulk_sum bulk L D 0 (fun i x hx => by have := (hQ i x hx).2; rwa [Nat.zero_add])
    rw [hL, ← List.range_eq_range'] at s
    rw [hd, hL]
    simp only [Rows.uptoBulk]
    omega
theorem sl_field {α : Type} {fuel m : Nat} {t e : TypeId} {C : World → Nat → Nat → α → Prop} (bulk : α → Nat) (ht : P.underlying t = some (.slice e)) (hC : P.cellsOf e = m) (hm : 0 < m)
    (el : ∀ (b off : Nat) (cs : List Value) (n : Nat) (y : DataW H × List MemPlace), (∀ i, i < m → w.cell? ⟨b, off + i, none⟩ = cs[i]?) → cs.length = m → DataW.trod enc P w base sp held n e cs = some y → ∃ x : α, C w b off x ∧ bulk x + 1 ≤ Rows.uptoBulk y.1)
    {v : Value} {y : DataW H × List MemPlace} (h : DataW.trod enc P w base sp held fuel t [v] = some y) :
    ∃ a n c l, v = .slice a n c ∧ SlAt m C w (.slice a n c) l ∧ (l.map bulk).sum + l.length + 1 ≤ Rows.uptoBulk y.1 := by
  obtain ⟨a, n, c, rfl⟩ : ∃ a n c, v = .slice a n c := by
    rcases open_slice ht h with ⟨hcs, _⟩ | ⟨a', len, cap, _, _, _, _, hcs, _⟩
    · exact ⟨_, _, _, by simpa using hcs⟩
    · exact ⟨_, _, _, by simpa using hcs⟩
  obtain ⟨l, h1, h2⟩ := sl_open bulk ht hC hm el (a := a) (n := n) (c := c) (d := y.1) (p := y.2) (by simpa [Value.cells] using h)
  exact ⟨a, n, c, l, rfl, h1, h2⟩
/-- one range -/
theorem rng_el {t e : TypeId} (ht : P.underlying t = some (.array 2 e)) (he : P.underlying e = some (.int .i64)) (hc : P.cellsOf e = 1) (b off : Nat) (cs : List Value) (n : Nat) (y : DataW H × List MemPlace)
    (h1 : ∀ i, i < 2 → w.cell? ⟨b, off + i, none⟩ = cs[i]?) (h2 : cs.length = 2) (h : DataW.trod enc P w base sp held n t cs = some y) : ∃ x : Int × Int, RngC w b off x ∧ (fun _ => 0) x + 1 ≤ Rows.uptoBulk y.1 := by
  obtain ⟨xs, m, _, hy, _, hxl, hx⟩ := DataW.trod_array ht h
  obtain ⟨c0, c1, rfl⟩ : ∃ c0 c1, cs = [c0, c1] := by
    match cs, h2 with
    | [c0, c1], _ => exact ⟨c0, c1, rfl⟩
  have x0 := hx 0 (by omega)
  have x1 := hx 1 (by omega)
  rw [hc] at x0 x1
  rw [List.getElem?_eq_getElem (by omega)] at x0 x1
  obtain ⟨v0, e0, _⟩ := DataW.trod_int he x0
  obtain ⟨v1, e1, _⟩ := DataW.trod_int he x1
  obtain rfl : c0 = .int .i64 v0 := by simpa using e0
  obtain rfl : c1 = .int .i64 v1 := by simpa using e1
  refine ⟨(v0, v1), ⟨h1 0 (by omega), h1 1 (by omega)⟩, ?_⟩
  rw [hy]
  simp [Rows.uptoBulk]
/-- the fields of one relation -/
theorem rel_fields {g u : TypeId} {f0 f1 f2 f3 : Field} {v0 v1 v2 v3 : Value} {n0 n1 n2 n3 : Nat} {y0 y1 y2 y3 : DataW H × List MemPlace} (k0 : P.underlying f0.type = some (.int .u8)) (k1 : P.underlying f1.type = some (.int .i64)) (k2 : P.underlying f2.type = some .bool)
    (k3 : P.underlying f3.type = some (.slice g)) (hg : P.underlying g = some (.array 2 u)) (hgc : P.cellsOf g = 2) (hu : P.underlying u = some (.int .i64)) (huc : P.cellsOf u = 1)
    (r0 : DataW.trod enc P w base sp held n0 f0.type [v0] = some y0) (r1 : DataW.trod enc P w base sp held n1 f1.type [v1] = some y1) (r2 : DataW.trod enc P w base sp held n2 f2.type [v2] = some y2) (r3 : DataW.trod enc P w base sp held n3 f3.type [v3] = some y3) :
    ∃ (r : Rul.Rl) (a : Option Addr) (n c : Nat), v0 = .int .u8 (r.op.toNat : Int) ∧ v1 = .int .i64 r.mod ∧ v2 = .bool r.no ∧ v3 = .slice a n c ∧ SlAt 2 RngC w (.slice a n c) r.rs ∧ r.rs.length + 1 ≤ Rows.uptoBulk y3.1 := by
  obtain ⟨a0, e0, _, w0⟩ := DataW.trod_int k0 r0
  obtain ⟨a1, e1, _⟩ := DataW.trod_int k1 r1
  obtain ⟨a2, e2, _⟩ := DataW.trod_bool k2 r2
  obtain ⟨a, n, c, rs, rfl, hs, hb⟩ := sl_field (C := RngC) (fun _ => 0) k3 hgc (by omega) (fun b off cs n y => rng_el hg hu huc b off cs n y) r3
  obtain rfl : v0 = .int .u8 a0 := by simpa using e0
  obtain rfl : v1 = .int .i64 a1 := by simpa using e1
  obtain rfl : v2 = .bool a2 := by simpa using e2
  have b0 := bounds_u8 w0
  refine ⟨⟨UInt8.ofNat a0.toNat, a1, a2, rs⟩, a, n, c, ?_, rfl, rfl, rfl, hs, by show rs.length + 1 ≤ _; omega⟩
  congr 1
  show a0 = ((UInt8.ofNat a0.toNat).toNat : Int)
  rw [UInt8.toNat_ofNat']
  omega
theorem rel_el {t g u : TypeId} {f0 f1 f2 f3 : Field} (ht : P.underlying t = some (.struct #[f0, f1, f2, f3])) (k0 : P.underlying f0.type = some (.int .u8)) (k1 : P.underlying f1.type = some (.int .i64)) (k2 : P.underlying f2.type = some .bool)
    (k3 : P.underlying f3.type = some (.slice g)) (hg : P.underlying g = some (.array 2 u)) (hgc : P.cellsOf g = 2) (hu : P.underlying u = some (.int .i64)) (huc : P.cellsOf u = 1) (hone : oneCellFields P #[f0, f1, f2, f3] = true)
    (b off : Nat) (cs : List Value) (n : Nat) (y : DataW H × List MemPlace)
    (h1 : ∀ i, i < 4 → w.cell? ⟨b, off + i, none⟩ = cs[i]?) (h2 : cs.length = 4) (h : DataW.trod enc P w base sp held n t cs = some y) : ∃ x : Rul.Rl, RelC w b off x ∧ (fun x : Rul.Rl => x.rs.length) x + 1 ≤ Rows.uptoBulk y.1 := by
  obtain ⟨ys, n', _, hy, _, hyl, hf⟩ := DataW.trod_struct ht h
  obtain ⟨c0, c1, c2, c3, rfl⟩ : ∃ c0 c1 c2 c3, cs = [c0, c1, c2, c3] := by
    match cs, h2 with
    | [c0, c1, c2, c3], _ => exact ⟨c0, c1, c2, c3, rfl⟩
  obtain ⟨y0, y1, y2, y3, rfl⟩ : ∃ a0 a1 a2 a3, ys = [a0, a1, a2, a3] := by
    match ys, hyl with
    | [a0, a1, a2, a3], _ => exact ⟨a0, a1, a2, a3, rfl⟩
  have r0 := hf 0 f0 rfl
  have r1 := hf 1 f1 rfl
  have r2 := hf 2 f2 rfl
  have r3 := hf 3 f3 rfl
  rw [(hone_of hone 0 f0 rfl).1, (hone_of hone 0 f0 rfl).2] at r0
  rw [(hone_of hone 1 f1 rfl).1, (hone_of hone 1 f1 rfl).2] at r1
  rw [(hone_of hone 2 f2 rfl).1, (hone_of hone 2 f2 rfl).2] at r2
  rw [(hone_of hone 3 f3 rfl).1, (hone_of hone 3 f3 rfl).2] at r3
  obtain ⟨r, a, n, c, rfl, rfl, rfl, rfl, hs, hb⟩ := rel_fields k0 k1 k2 k3 hg hgc hu huc (v0 := c0) (v1 := c1) (v2 := c2) (v3 := c3) r0 r1 r2 r3
  refine ⟨r, ⟨a, n, c, h1 0 (by omega), h1 1 (by omega), h1 2 (by omega), h1 3 (by omega), hs⟩, ?_⟩
  rw [hy]
  simp only [List.map_cons, List.map_nil, Rows.uptoBulk, Rows.uptoBulkAll]
  omega
theorem part_el {t e g u : TypeId} {f0 f1 f2 f3 : Field} (hp : P.underlying t = some (.slice e)) (ht : P.underlying e = some (.struct #[f0, f1, f2, f3])) (hC : P.cellsOf e = 4) (k0 : P.underlying f0.type = some (.int .u8)) (k1 : P.underlying f1.type = some (.int .i64)) (k2 : P.underlying f2.type = some .bool)
    (k3 : P.underlying f3.type = some (.slice g)) (hg : P.underlying g = some (.array 2 u)) (hgc : P.cellsOf g = 2) (hu : P.underlying u = some (.int .i64)) (huc : P.cellsOf u = 1) (hone : oneCellFields P #[f0, f1, f2, f3] = true)
    (b off : Nat) (cs : List Value) (n : Nat) (y : DataW H × List MemPlace)
    (h1 : ∀ i, i < 1 → w.cell? ⟨b, off + i, none⟩ = cs[i]?) (h2 : cs.length = 1) (h : DataW.trod enc P w base sp held n t cs = some y) : ∃ x : List Rul.Rl, PartC w b off x ∧ (fun x : List Rul.Rl => (x.map fun r => r.rs.length).sum + x.length) x + 1 ≤ Rows.uptoBulk y.1 := by
  obtain ⟨c0, rfl⟩ : ∃ c0, cs = [c0] := by
    match cs, h2 with
    | [c0], _ => exact ⟨c0, rfl⟩
  obtain ⟨a, n, c, l, rfl, hs, hb⟩ := sl_field (C := RelC) (fun x : Rul.Rl => x.rs.length) hp hC (by omega) (fun b off cs n y => rel_el ht k0 k1 k2 k3 hg hgc hu huc hone b off cs n y) h
  exact ⟨l, ⟨a, n, c, h1 0 (by omega), hs⟩, hb⟩
theorem rule_open {fuel : Nat} {s t e g u : TypeId} {f0 f1 f2 f3 : Field} (hq : P.underlying s = some (.slice t)) (htc : P.cellsOf t = 1) (hp : P.underlying t = some (.slice e)) (ht : P.underlying e = some (.struct #[f0, f1, f2, f3])) (hC : P.cellsOf e = 4) (k0 : P.underlying f0.type = some (.int .u8)) (k1 : P.underlying f1.type = some (.int .i64)) (k2 : P.underlying f2.type = some .bool)
    (k3 : P.underlying f3.type = some (.slice g)) (hg : P.underlying g = some (.array 2 u)) (hgc : P.cellsOf g = 2) (hu : P.underlying u = some (.int .i64)) (huc : P.cellsOf u = 1) (hone : oneCellFields P #[f0, f1, f2, f3] = true)
    {a : Option Addr} {n c : Nat} {d : DataW H} {p : List MemPlace} (h : DataW.trod enc P w base sp held fuel s (Value.slice a n c).cells.toList = some (d, p)) :
    ∃ r : Rul.Rule, SlAt 1 PartC w (.slice a n c) r ∧ r.length ≤ Rows.uptoBulk d ∧ Rul.count r ≤ Rows.uptoBulk d ∧ Rul.mass r ≤ Rows.uptoBulk d ∧ ∀ l ∈ r, ∀ x ∈ l, x.rs.length ≤ Rows.uptoBulk d := by
  obtain ⟨r, h1, h2⟩ := sl_open (C := PartC) (fun x : List Rul.Rl => (x.map fun r => r.rs.length).sum + x.length) hq htc (by omega) (fun b off cs n y => part_el hp ht hC k0 k1 k2 k3 hg hgc hu huc hone b off cs n y) h
  have key : ∀ q : Rul.Rule, Rul.count q + Rul.mass q ≤ (q.map fun x : List Rul.Rl => (x.map fun r => r.rs.length).sum + x.length).sum ∧ ∀ l ∈ q, ∀ x ∈ l, x.rs.length ≤ (q.map fun x : List Rul.Rl => (x.map fun r => r.rs.length).sum + x.length).sum := by
    intro q
    induction q with
    | nil => exact ⟨by simp [Rul.count, Rul.mass], fun l hl => by simp at hl⟩
    | cons a q ih =>
      refine ⟨?_, fun l hl x hx => ?_⟩
      · have := ih.1
        unfold Rul.count Rul.mass at *
        simp only [List.map_cons, List.sum_cons]
        omega
      · simp only [List.map_cons, List.sum_cons]
        rcases List.mem_cons.1 hl with rfl | hl
        · have : x.rs.length ≤ (l.map fun r => r.rs.length).sum := by
            clear ih hl
            induction l with
            | nil => simp at hx
            | cons z l ih2 =>
              rcases List.mem_cons.1 hx with rfl | hx
              · simp
              · have := ih2 hx; simp; omega
          omega
        · have := ih.2 l hl x hx
          omega
  obtain ⟨q1, q2⟩ := key r
  exact ⟨r, h1, by omega, by omega, by omega, fun l hl x hx => by have := q2 l hl x hx; omega⟩
end
end Go.Proofs.YtoglgcjdjbjlmaaDoor
namespace Go.Proofs.YtoglgcjdjbjlmaaDoor
open Go.RowKit

theorem gPowT : (Tryd.prog.globals[6]?).map (·.type) = some 144 := by kernel_rfl
theorem cellsPow : Tryd.prog.cellsOf 144 = 20 := by kernel_rfl
theorem cellsU64 : Tryd.prog.cellsOf 129 = 1 := by kernel_rfl
theorem powW_of {L : List (String × DataW Unit)} {W : World} (h : laidMetH Tryd.prog L W) (hf : L.filter (fun x => x.1 == "internal/strconv.uint64pow10") = [("internal/strconv.uint64pow10", Rows.laid_internal_strconv_uint64pow10)]) : PowW W := by
  have g := laidMetH.filter (fun x => x.1 == "internal/strconv.uint64pow10") h
  rw [hf, MakeChecks.laidMetH_plain _ _ _ (by kernel_rfl)] at g
  exact Lib.tabIs_of_head gPow gPowT Tryd.underlying144 Tryd.underlying129 cellsU64 cellsPow g
end Go.Proofs.YtoglgcjdjbjlmaaDoor
namespace Go.Proofs.YtoglgcjdjbjlmaaDoor
open Go.RowKit

/-- what the rules' functions want of the start -/
structure TR (w : World) : Prop where
  p : PowW w
  n : NumW w
  m : MaxW w
theorem TR.below {w w' : World} (h : TR w) (hb : Below w.heap.size w w') : TR w' := ⟨h.p.below hb, h.n.below hb, h.m.below hb⟩

set_option maxRecDepth 100000 in
set_option maxHeartbeats 4000000 in
theorem ruleback_any (r : Rul.Rule) (a : Option Addr) (n c : Nat) (s : List UInt8) (w : World) (hT : TR w) (hr : SlAt 1 PartC w (.slice a n c) r) (hl : r.length ≤ 1048576) (hc : Rul.count r ≤ 1048576) (hm : Rul.mass r ≤ 1048576)
    (hrs : ∀ l ∈ r, ∀ x ∈ l, x.rs.length ≤ 1048576) (ht : s.length ≤ 1048576) :
    Calls Tryd.prog 3 #[.slice a n c, .string ⟨s.toArray⟩] w fun e w' => e = .returned (.bool true) ∧ Below w.heap.size w w' := by
  have HT := Lib.hid hT
  have HR := Lib.hid hr
  have CF := Lib.hid (ruled_any w hT.m hT.n hT.p)
  have CP := Lib.hid fun (wx : World) (hb : Below w.heap.size w wx) => rparse_any s wx (hT.m.below hb) (hT.n.below hb) (hT.p.below hb) (by omega)
  have hcnt := Rul.count_P s
  have hrsP := Rul.rs_P s
  have CT1 := Lib.hid fun (wx : World) (hb : Below w.heap.size w wx) (a' : Option Addr) (n' c' : Nat) (hs : SlAt 1 PartC wx (.slice a' n' c') (Rul.ruleP s)) (hok : Rul.parseOk s = true) =>
    have tot := Rul.ok_totals (Rul.parseOk_iff.1 hok).1 (fun l hl x hx => by have := hrsP l hl x hx; omega)
    rtext_yes (Rul.ruleP s) a' n' c' wx (hT.p.below hb) hs (by omega) (by omega) (fun l hl x hx => by have := hrsP l hl x hx; omega) (Rul.parseOk_iff.1 hok).1 tot.1 tot.2
  have CN := Lib.hid fun (wx : World) (hb : Below w.heap.size w wx) (hE : Rul.ruleE r ≠ 0) => rtext_no r a n c wx (hr.rule_below hb) (by omega) (by omega) (fun l hl x hx => by have := hrs l hl x hx; omega) hE
  have CY := Lib.hid fun (wx : World) (hb : Below w.heap.size w wx) (hE : Rul.ruleE r = 0) =>
    have tot := Rul.ok_totals hE (fun l hl x hx => by have := hrs l hl x hx; omega)
    rtext_yes r a n c wx (hT.p.below hb) (hr.rule_below hb) (by omega) (by omega) (fun l hl x hx => by have := hrs l hl x hx; omega) hE tot.1 tot.2
  have CQ := Lib.hid fun (wx : World) (hb : Below w.heap.size w wx) (hE : Rul.ruleE r = 0) => rparse_any (Rul.ruleT r) wx (hT.m.below hb) (hT.n.below hb) (hT.p.below hb) (by have := Rul.rule_len hE; omega)
  have HPT := Lib.hid fun (hE : Rul.ruleE r = 0) => Rul.parse_text hE
  clear hT hr hl hc hm hrs ht hcnt hrsP
  go_enter Tryd.func3, Tryd.ntmps3
  go_wp2_with fail
  refine CF.out.mono ?_
  rintro e w1 ⟨rfl, hb⟩
  have W1 := Lib.hid hb
  clear hb CF
  go_wp2_with fail
  refine (CP.out _ W1.out).mono ?_
  rintro e w2 ⟨v, f, rfl, hP, hb⟩
  have W2 := Lib.hid (blw_trans W1.out hb)
  have HP := Lib.hid hP
  clear hb CP W1 hP
  rcases HP.out with ⟨hok, rfl, a', n', c', rfl, hs⟩ | ⟨hno, rfl, rfl⟩
  · have CT := Lib.hid (CT1.out w2 W2.out a' n' c' hs hok)
    rw [(Rul.parseOk_iff.1 hok).2] at CT
    clear hs hok CT1 HP
    go_wp2_with fail
    refine CT.out.mono ?_
    rintro e w9 ⟨rfl, hb⟩
    have W9 := Lib.hid (blw_trans W2.out hb)
    clear hb CT W2
    by_cases hE : Rul.ruleE r = 0
    · have CT := Lib.hid (CY.out w9 W9.out hE)
      have HQ := Lib.hid (HPT.out hE)
      have CQ2 := Lib.hid fun wx hb => CQ.out wx hb hE
      generalize Rul.ruleT r = T at *
      clear hE CN CY CQ HPT
      go_wp2_with fail
      refine CT.out.mono ?_
      rintro e w3 ⟨rfl, hb⟩
      have W3 := Lib.hid (blw_trans W9.out hb)
      clear hb
      go_wp2_with fail
      refine (CQ2.out _ W3.out).mono ?_
      rintro e w4 ⟨v2, f2, rfl, hP, hb⟩
      have W4 := Lib.hid (blw_trans W3.out hb)
      rcases hP with ⟨_, rfl, a', n', c', rfl, hs⟩ | ⟨hno, _⟩
      · rw [HQ.out.2] at hs
        have CS := Lib.hid (srule_same r a' a n' n c' c w4 hs (HR.out.rule_below W4.out))
        clear hb hs
        go_wp2_with fail
        refine CS.out.mono ?_
        rintro e w5 ⟨rfl, hb⟩
        have W5 := Lib.hid (blw_trans W4.out hb)
        clear hb
        go_wp2_with fail
        go_ret
        exact ⟨rfl, W5.out⟩
      · rw [HQ.out.1] at hno; cases hno
    · have CT := Lib.hid (CN.out w9 W9.out hE)
      generalize Rul.ruleE r = E at *
      clear hE CN CY CQ HPT
      go_wp2_with fail
      refine CT.out.mono ?_
      rintro e w3 ⟨rfl, hb⟩
      have W3 := Lib.hid (blw_trans W9.out hb)
      clear hb
      go_wp2_with fail
      go_ret
      exact ⟨rfl, W3.out⟩
  · clear hno CT1 HP
    by_cases hE : Rul.ruleE r = 0
    · have CT := Lib.hid (CY.out w2 W2.out hE)
      have HQ := Lib.hid (HPT.out hE)
      have CQ2 := Lib.hid fun wx hb => CQ.out wx hb hE
      generalize Rul.ruleT r = T at *
      clear hE CN CY CQ HPT
      go_wp2_with fail
      refine CT.out.mono ?_
      rintro e w3 ⟨rfl, hb⟩
      have W3 := Lib.hid (blw_trans W2.out hb)
      clear hb
      go_wp2_with fail
      refine (CQ2.out _ W3.out).mono ?_
      rintro e w4 ⟨v2, f2, rfl, hP, hb⟩
      have W4 := Lib.hid (blw_trans W3.out hb)
      rcases hP with ⟨_, rfl, a', n', c', rfl, hs⟩ | ⟨hno, _⟩
      · rw [HQ.out.2] at hs
        have CS := Lib.hid (srule_same r a' a n' n c' c w4 hs (HR.out.rule_below W4.out))
        clear hb hs
        go_wp2_with fail
        refine CS.out.mono ?_
        rintro e w5 ⟨rfl, hb⟩
        have W5 := Lib.hid (blw_trans W4.out hb)
        clear hb
        go_wp2_with fail
        go_ret
        exact ⟨rfl, W5.out⟩
      · rw [HQ.out.1] at hno; cases hno
    · have CT := Lib.hid (CN.out w2 W2.out hE)
      generalize Rul.ruleE r = E at *
      clear hE CN CY CQ HPT
      go_wp2_with fail
      refine CT.out.mono ?_
      rintro e w3 ⟨rfl, hb⟩
      have W3 := Lib.hid (blw_trans W2.out hb)
      clear hb
      go_wp2_with fail
      go_ret
      exact ⟨rfl, W3.out⟩
end Go.Proofs.YtoglgcjdjbjlmaaDoor
namespace Go.Proofs.YtoglgcjdjbjlmaaDoor.lawRuleBack
open Go.ChangeShapes Go.WideShapes Go.ChangeAt Go.RowKit Go.Joins

theorem own : ownKnob Tryd.prog.godebug = none := by kernel_rfl
theorem laidOut : laidOutB Tryd.prog = true := by kernel_rfl
theorem cellsRel : Tryd.prog.cellsOf 60 = 4 := by kernel_rfl

set_option maxRecDepth 100000 in
theorem contract (H : Type) (enc : TypeId × Value → H) (W : World) (base : Nat) (args : Array Value) (ds gs : List (DataW H)) (before : List MemPlace)
    (hval : ∀ (j : Nat) t v, Tryd.f3.params[j]? = some t → args[j]? = some v → Value.okWide Tryd.prog W .any base t v)
    (hW : DataW.Whole enc Tryd.prog Tryd.f3.params.toList Rows.ruleBackSpec.vars false W args.toList ds gs before) (hk : Rows.uptoSmall H (ds ++ gs) = true) (hL : laidMetH Tryd.prog Rows.ruleBackUptoRow.laid W) (hS : W.ShapedOpen Tryd.prog) :
    Calls Tryd.prog 3 args W fun e W' => ∃ v, e = .returned v ∧ Rows.ruleBackSpec.post enc Tryd.prog Tryd.f3 false true false false W args v W' := by
  have hpost : ∀ W', Below W.heap.size W W' → Rows.ruleBackSpec.post enc Tryd.prog Tryd.f3 false true false false W args (.bool true) W' := fun W' hb =>
    law_post (tb := 4) laidOut rfl Tryd.underlying4 rfl (by kernel_rfl) (fun ds h => by match ds, h with | [x0, x1], _ => rfl) hW hb
  obtain ⟨p, q, hA0, hV, _, hfz, hnd⟩ := hW
  have hA : DataW.TrodAll enc Tryd.prog W 0 (fun _ => true) true Tryd.f3.params.toList args.toList ds p := hA0
  obtain ⟨rfl, rfl⟩ := trodVars_none hV
  rw [Tryd.params3] at hA hval
  obtain ⟨v0, vs0, d0, ds0, p0, q0, hargs, rfl, hp0, h0, r0⟩ := trodAll_cons hA
  obtain ⟨v1, vs1, d1, ds1, p1, q1, rfl, rfl, hp1, h1, r1⟩ := trodAll_cons r0
  obtain ⟨rfl, rfl, hp⟩ := trodAll_nil r1
  obtain rfl : args = #[v0, v1] := by cases args; simp_all
  obtain ⟨r_a, r_n, r_c, rfl⟩ := okWide_slice Tryd.underlying22 (hval 0 22 v0 rfl rfl)
  obtain ⟨r_f, r_h⟩ := h0
  obtain ⟨r, r_at, r_len, r_cnt, r_mass, r_rs⟩ := rule_open Tryd.underlying22 (by kernel_rfl) Tryd.underlying36 Tryd.underlying60 cellsRel Tryd.underlying5 Tryd.underlying3 Tryd.underlying4 Tryd.underlying58 Tryd.underlying84 (by kernel_rfl) Tryd.underlying3 (by kernel_rfl) (by kernel_rfl) r_h
  obtain ⟨s, rfl, rfl, rfl, w_s⟩ := ChangeMaps.open_string Tryd.underlying9 (hval 1 9 v1 rfl rfl) h1
  clear hA0 hfz hnd hval
  have hm : MaxW W := Go.Proofs.cell_of_shapedOpen_int (zero := #[.int .i64 0]) (t := 3) hS (of_decide_eq_true (by kernel_rfl)) (by kernel_rfl) rfl (by kernel_rfl) (by kernel_rfl) Tryd.underlying3
  have hT : TR W := ⟨powW_of hL (by kernel_rfl), numW_of hL (by kernel_rfl) (by kernel_rfl), hm⟩
  have hq := bulk_small hk
  simp only [List.append_nil, Rows.uptoBulkAll, Rows.uptoBulk, Array.length_toList] at hq
  have hz : ∀ x : ByteArray, x.data.size = x.size := fun _ => rfl
  rw [hz] at hq
  have hsz : s.size ≤ 1048576 := by omega
  refine Calls.mono (?_ : Calls Tryd.prog 3 #[.slice r_a r_n r_c, .string s] W fun e w' => e = .returned (.bool true) ∧ Below W.heap.size W w') fun e W' ⟨he, hb⟩ => ⟨_, he, hpost W' hb⟩
  obtain ⟨l, rfl⟩ : ∃ l : List UInt8, s = ⟨l.toArray⟩ := ⟨s.data.toList, rfl⟩
  rw [size_mkl] at hsz
  exact ruleback_any r r_a r_n r_c l W hT r_at (by omega) (by omega) (by omega) (fun l hl x hx => by have := r_rs l hl x hx; omega) hsz

theorem start_met (os : Os) : laidMetH Tryd.prog Rows.ruleBackUptoRow.laid ((World.laidAll Tryd.prog os Rows.ruleBackUptoRow.laid).forCall (fun _ _ => 0) ⟨#[], #[.slice none 0 0, .string ⟨#[]⟩], []⟩).memory :=
  by rw [MakeChecks.laidMetH_plain _ _ _ (by kernel_rfl)]; exact laidMet_laidAll _ (by kernel_rfl) (by kernel_rfl)
theorem start_reads (os : Os) {H : Type} (enc : TypeId × Value → H) : ∃ places, DataW.whole enc Tryd.prog ((World.laidAll Tryd.prog os Rows.ruleBackUptoRow.laid).forCall (fun _ _ => 0) ⟨#[], #[.slice none 0 0, .string ⟨#[]⟩], []⟩).memory Tryd.f3.params.toList Rows.ruleBackSpec.vars false (#[.slice none 0 0, .string ⟨#[]⟩] : Array Value).toList 8 = some ([.nil, .lit (.string [])], [], places) :=
  ⟨[], by kernel_rfl⟩

set_option maxRecDepth 100000 in
theorem lifted (os : Os) (started : os.Started) (H : Type) (enc : TypeId × Value → H) (F : Stop.Interp) :
    ReturnsInHanded {} Tryd.checked os 3 .any ((Rows.OpenSpec.upto Rows.ruleBackSpec).preRow enc Tryd.prog Tryd.f3 Rows.ruleBackUptoRow.domain false Rows.ruleBackUptoRow.laid) (((Rows.OpenSpec.upto Rows.ruleBackSpec).at F).post enc Tryd.prog Tryd.f3 false true false false) := by
  obtain ⟨places, hx⟩ := start_reads os enc
  refine returnsInHanded_of_row (C := Tryd.checked) (s := Rows.OpenSpec.upto Rows.ruleBackSpec) own started (by kernel_rfl) Tryd.func3
    (witness_row_atRef (enc := enc) (C := Tryd.checked) false (World.laidAll Tryd.prog os Rows.ruleBackUptoRow.laid) #[.slice none 0 0, .string ⟨#[]⟩] (World.laidAll_os _ _ _) (by kernel_rfl) (by kernel_rfl) (by kernel_rfl)
      (OpenSpec.preRow_of_cond 8 hx (by kernel_rfl) (fun k hk => by cases hk; kernel_rfl) (by kernel_rfl) (start_met os))) ?_
  intro W base args ds gs before hval hW _ hcond _ hL hS _
  exact contract H enc W base args ds gs before hval hW (hcond _ rfl) hL hS

theorem said : Rows.RuleBackUptoSaid :=
  OpenClaim.holds_of_cond 3 Tryd.f3 rfl rfl rfl rfl rfl rfl rfl ⟨rfl, rfl, rfl, rfl, rfl⟩ rfl rfl rfl rfl rfl (by kernel_rfl) Tryd.func3 (by kernel_rfl)
    (of_decide_eq_true (by kernel_rfl)) (by unfold Func.isWrapper; first | (rw [if_pos (by decide +kernel)]; kernel_rfl) | (rw [if_neg (by decide +kernel)]; exact ⟨rfl, rfl⟩))
    (fun os started H enc _ F => by rw [OpenClaim.pre_eq_preRow]; exact lifted os started H enc F)

theorem plain (f : FuncId) (fn : Func) (hf : Tryd.pinned.checked.prog.funcNamed "linguister/linguisterlaw1.RuleBack" = some f) (hfn : Tryd.pinned.checked.prog.funcs[f]? = some fn) :
    true = Tryd.pinned.checked.prog.looks [] ∧ ∀ (j : Nat) t, fn.params[j]? = some t → Tryd.pinned.checked.prog.wantsStandIn t = false := by
  obtain rfl : f = 3 := Option.some.inj ((show Tryd.prog.funcNamed "linguister/linguisterlaw1.RuleBack" = some 3 by kernel_rfl).symm.trans hf) |>.symm
  obtain rfl : fn = Tryd.f3 := (Option.some.inj (Tryd.func3.symm.trans hfn)).symm
  refine ⟨by kernel_rfl, fun j t ht => ?_⟩
  rw [Tryd.params3] at ht
  have hm : t ∈ [22, 9] := by simpa using Array.mem_of_getElem? ht
  have hall : ([22, 9].all fun u => !Tryd.prog.wantsStandIn u) = true := by kernel_rfl
  exact (show Tryd.prog.wantsStandIn t = false by simpa using List.all_eq_true.1 hall t hm)

theorem proved : Rows.RuleBackUptoCardSaid :=
  Claim7.holds_tied_plain_at .later [] _ _ _ _ said (fun _ h => by cases h) (by kernel_rfl) (fun _ h => by cases h) ruleBackUpto_row_tie rfl ⟨rfl, rfl⟩ (by kernel_rfl) rfl plain (by kernel_rfl)
#print axioms proved
end Go.Proofs.YtoglgcjdjbjlmaaDoor.lawRuleBack
