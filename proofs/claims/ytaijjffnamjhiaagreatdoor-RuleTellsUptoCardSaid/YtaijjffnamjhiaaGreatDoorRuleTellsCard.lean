/- The law RuleTells, proved where what it reads is of bulk at most 1048576: the call returns true of every input, and turns nothing that was there. Conditions: the row's own (the listed variables hold what the program's text lays; the card ties them). -/
import Derived.Test.YtaijjffnamjhiaaGreatDoorRparse
import Derived.Test.YtaijjffnamjhiaaGreatDoorRulFine
import Derived.Test.YtaijjffnamjhiaaGreatDoorDrew
import Derived.Test.YtaijjffnamjhiaaGreatDoorHeld
import Derived.OwnWalk
import Derived.Laws.StructEq
import Derived.Test.YtaijjffnamjhiaaGreatDoorRofM
import Derived.Test.YtaijjffnamjhiaaGreatDoorRltM
import Derived.Maps.AppendAt
import Derived.Test.YtaijjffnamjhiaaGreatDoorAs
import Derived.Deep.DeepCutAuto
import Derived.Test.YtaijjffnamjhiaaGreatDoorRows
import Derived.Test.YtaijjffnamjhiaaGreatDoorRulAt
import Derived.Test.YtaijjffnamjhiaaGreatDoorRulQ
import Derived.OpenShut
import Derived.Deep.Slices
import Derived.Deep.Fields
import Derived.ChangeSame
import Derived.Test.YtaijjffnamjhiaaGreatDoorItoa
import Derived.LaidSub
import Derived.MakeChecks
import Derived.Test.YtaijjffnamjhiaaGreatDoorBox
import Derived.Stop.Joined
import Derived.Lib.SmallJoins
import Derived.Lay
import Derived.LaidMore
import Derived.Test.YtaijjffnamjhiaaGreatDoorFrame
import Derived.LaidLaws
import Derived.LaidHandle
import Derived.Test.YtaijjffnamjhiaaGreatDoorCards
import Derived.Test.YtaijjffnamjhiaaGreatDoorTie
import Derived.Deep.DeepHandedRow
import Derived.Deep.DeepWitnessRowRef
namespace Go.Proofs.YtaijjffnamjhiaaGreatDoor
open Go.RowKit

/-- what the rules' functions want of the start -/
structure TR (w : World) : Prop where
  p : PowW w
  n : NumW w
  m : MaxW w
theorem TR.below {w w' : World} (h : TR w) (hb : Below w.heap.size w w') : TR w' := ⟨h.p.below hb, h.n.below hb, h.m.below hb⟩

set_option maxRecDepth 100000 in
set_option maxHeartbeats 1000000 in
theorem ruled_any (w : World) (hM : MaxW w) (hN : NumW w) (hp : PowW w) : Calls Tryz.prog 18 #[] w fun e w' => e = .returned (.bool true) ∧ Below w.heap.size w w' := by
  have CP := Lib.hid (rparse_any Rul.firstS w hM hN hp (by decide))
  have e1 : Rul.firstS = [105, 32, 61, 32, 49, 32, 97, 110, 100, 32, 118, 32, 61, 32, 48] := rfl
  have HF := Lib.hid Rul.first_parse
  rw [e1] at CP HF
  clear hM hN hp e1
  go_enter Tryz.func18, Tryz.ntmps18
  go_wp2_with fail
  refine CP.out.mono ?_
  rintro e w2 ⟨v, f, rfl, hP, hb⟩
  rcases hP with ⟨_, rfl, a, n, c, rfl, hs⟩ | ⟨h, _⟩
  · rw [HF.out.2] at hs
    rcases hs with ⟨e, _⟩ | ⟨b, off, cap, e1, _, _, _, hc⟩
    · cases e
    injection e1 with e1 e2 e3
    subst e1 e2 e3
    obtain ⟨pa, pn, pc, p0, ps⟩ := hc 0 _ rfl
    rw [Nat.zero_mul, Nat.add_zero] at p0
    obtain ⟨A1, cap1, e1, _⟩ := ps.spread
    injection e1 with e1 e2 e3
    subst e1 e2 e3
    have W2 := Lib.hid hb
    clear hb hc ps CP
    simp only [Rul.firstR, List.length_cons, List.length_nil, Nat.reduceAdd] at *
    go_wp2_with fail
    go_ret
    exact ⟨rfl, W2.out⟩
  · rw [HF.out.1] at h; cases h
end Go.Proofs.YtaijjffnamjhiaaGreatDoor
namespace Go.Proofs.YtaijjffnamjhiaaGreatDoor
open Go.RowKit

theorem eq_rng (a b : Int) (w : World) : (Op.equalIn 10000 165 (.agg #[.int .i64 a, .int .i64 b]) (.agg #[.int .i64 a, .int .i64 b])).run Tryz.prog w = .ok true w := by
  have u3 := Tryz.underlying3
  have a3 := Tryz.isAgg3
  have z3 := Tryz.sizeOf3
  rw [show (10000 : Nat) = 9999 + 1 from rfl, Op.equalIn]
  simp only [Sem.run_bind, run_underlying Tryz.underlying165, Result.andThen_ok]
  simp only [Std.Legacy.Range.forIn_eq_forIn_range', Std.Legacy.Range.size, Nat.sub_zero, Nat.add_sub_cancel, Nat.div_one, List.range'_succ, List.range'_zero, List.forIn_cons, List.forIn_nil]
  go_simp

set_option maxRecDepth 100000 in
set_option maxHeartbeats 2000000 in
theorem srel_none (op mod : Int) (no : Bool) (a a' : Option Addr) (c c' : Nat) (w : World) :
    Calls Tryz.prog 62 #[.agg #[.int .u8 op, .int .i64 mod, .bool no, .slice a 0 c], .agg #[.int .u8 op, .int .i64 mod, .bool no, .slice a' 0 c']] w fun e w' => e = .returned (.bool true) ∧ Below w.heap.size w w' := by
  have W2 := Lib.hid ((blw_alloc w (.cells #[.int .u8 op, .int .i64 mod, .bool no, .slice a 0 c] 106)).alloc (by simp) (.cells #[.int .u8 op, .int .i64 mod, .bool no, .slice a' 0 c'] 106))
  go_enter Tryz.func62, Tryz.ntmps62
  go_wp2_with fail
  refine wp_loop_rounds 1 ?_
  rw [rounds_succ]
  go_wp2_with fail
  go_ret
  exact ⟨rfl, W2.out⟩
set_option maxRecDepth 100000 in
set_option maxHeartbeats 2000000 in
theorem srel_some (rs : List (Int × Int)) (op mod : Int) (no : Bool) (b b' off off' cap cap' n : Nat) (w : World) (hn : rs.length = n) (hm : n ≤ 9223372036854775807) (hc : ∀ (j : Nat) x, rs[j]? = some x → RngC w b (off + j * 2) x) (hc' : ∀ (j : Nat) x, rs[j]? = some x → RngC w b' (off' + j * 2) x) :
    Calls Tryz.prog 62 #[.agg #[.int .u8 op, .int .i64 mod, .bool no, .slice (some ⟨b, off, none⟩) n cap], .agg #[.int .u8 op, .int .i64 mod, .bool no, .slice (some ⟨b', off', none⟩) n cap']] w fun e w' => e = .returned (.bool true) ∧ Below w.heap.size w w' := by
  have W2 := Lib.hid ((blw_alloc w (.cells #[.int .u8 op, .int .i64 mod, .bool no, .slice (some ⟨b, off, none⟩) n cap] 106)).alloc (by simp) (.cells #[.int .u8 op, .int .i64 mod, .bool no, .slice (some ⟨b', off', none⟩) n cap'] 106))
  have HC := Lib.hid hc
  have HC' := Lib.hid hc'
  have HN := Lib.hid hn
  clear hc hc' hn
  go_enter Tryz.func62, Tryz.ntmps62
  go_wp2_with fail
  have B2 := Lib.hid ((Boxed.made w #[.int .u8 op, .int .i64 mod, .bool no, .slice (some ⟨b, off, none⟩) n cap] 106).alloc (.cells #[.int .u8 op, .int .i64 mod, .bool no, .slice (some ⟨b', off', none⟩) n cap'] 106))
  have B3 := Lib.hid (Boxed.made (w.alloc (.cells #[.int .u8 op, .int .i64 mod, .bool no, .slice (some ⟨b, off, none⟩) n cap] 106)) #[.int .u8 op, .int .i64 mod, .bool no, .slice (some ⟨b', off', none⟩) n cap'] 106)
  simp only [World.size_alloc] at B3
  generalize (w.alloc (.cells #[.int .u8 op, .int .i64 mod, .bool no, .slice (some ⟨b, off, none⟩) n cap] 106)).alloc (.cells #[.int .u8 op, .int .i64 mod, .bool no, .slice (some ⟨b', off', none⟩) n cap'] 106) = v at *
  go_loopw [5] (fun i wr => ∃ k : Nat, i = .int .i64 k ∧ k ≤ n ∧ Hid (Drew v wr)) (fun i _ => n - (RowKit.intOf i).toNat)
  case atStart => exact ⟨0, rfl, Nat.zero_le _, Drew.refl _⟩
  case round =>
    obtain ⟨k, rfl, hk, HD⟩ := hrel
    have K3 := (B2.out.below HD.out.below).cell 3 _ rfl
    have J3 := (B3.out.below HD.out.below).cell 3 _ rfl
    by_cases hlt : k < n
    · obtain ⟨x, hx⟩ : ∃ x, rs[k]? = some x := ⟨rs[k]'(by have := HN.out; omega), List.getElem?_eq_getElem (by have := HN.out; omega)⟩
      have x0 := cell_keep (cell_keep (HC.out k x hx).1 W2.out) HD.out.below
      have x1 := cell_keep (cell_keep (HC.out k x hx).2 W2.out) HD.out.below
      have y0 := cell_keep (cell_keep (HC'.out k x hx).1 W2.out) HD.out.below
      have y1 := cell_keep (cell_keep (HC'.out k x hx).2 W2.out) HD.out.below
      have EQ := fun w => eq_rng x.1 x.2 w
      clear hx
      have k0 : (0 : Int) ≤ (k : Int) := by omega
      have k1 : (k : Int) < (n : Int) := by omega
      go_wp2_with fail
      go_region
      go_wp2_with fail
      go_roundw
      case rel => exact ⟨k + 1, by go_num, by omega, Lib.hid (HD.out.drewN _)⟩
      case measure => simp [RowKit.intOf]; omega
    · have e : k = n := by omega
      subst e
      go_wp2_with fail
      go_ret
      exact ⟨rfl, W2.out.trans (HD.out.below.mono W2.out.size)⟩
theorem srel_same (r : Rul.Rl) (a a' : Option Addr) (n n' c c' : Nat) (w : World) (hs : SlAt 2 RngC w (.slice a n c) r.rs) (hs' : SlAt 2 RngC w (.slice a' n' c') r.rs) :
    Calls Tryz.prog 62 #[.agg #[.int .u8 (r.op.toNat : Int), .int .i64 r.mod, .bool r.no, .slice a n c], .agg #[.int .u8 (r.op.toNat : Int), .int .i64 r.mod, .bool r.no, .slice a' n' c']] w fun e w' => e = .returned (.bool true) ∧ Below w.heap.size w w' := by
  rcases hs with ⟨e, a1, c1, e1⟩ | ⟨b, off, cap, e1, h0, h1, h2, h3⟩
  · rcases hs' with ⟨_, a2, c2, e2⟩ | ⟨b', off', cap', e2, h0', h1', h2', h3'⟩
    · injection e1 with e1 e1' e1''
      injection e2 with e2 e2' e2''
      subst e1' e2'
      exact srel_none _ _ _ _ _ _ _ w
    · rw [e] at h0'; simp at h0'
  · rcases hs' with ⟨e, a2, c2, e2⟩ | ⟨b', off', cap', e2, h0', h1', h2', h3'⟩
    · rw [e] at h0; simp at h0
    · injection e1 with e1 e1' e1''
      injection e2 with e2 e2' e2''
      subst e1 e2 e1' e2' e1'' e2''
      unfold maxLen at h2
      exact srel_some r.rs _ _ _ b b' off off' _ _ _ w rfl (by omega) h3 h3'
end Go.Proofs.YtaijjffnamjhiaaGreatDoor
namespace Go.Proofs.YtaijjffnamjhiaaGreatDoor
open Go.RowKit

set_option maxRecDepth 100000 in
set_option maxHeartbeats 2000000 in
theorem srule_none (a a' : Option Addr) (c c' : Nat) (w : World) :
    Calls Tryz.prog 24 #[.slice a 0 c, .slice a' 0 c'] w fun e w' => e = .returned (.bool true) ∧ Below w.heap.size w w' := by
  go_enter Tryz.func24, Tryz.ntmps24
  go_wp2_with fail
  refine wp_loop_rounds 1 ?_
  rw [rounds_succ]
  go_wp2_with fail
  go_ret
  exact ⟨rfl, Below.refl _ _⟩
set_option maxRecDepth 100000 in
set_option maxHeartbeats 4000000 in
theorem srule_some (r : Rul.Rule) (b b' off off' cap cap' n : Nat) (w : World) (hn : r.length = n) (hm : n ≤ 9223372036854775807) (hc : ∀ (j : Nat) x, r[j]? = some x → PartC w b (off + j * 1) x) (hc' : ∀ (j : Nat) x, r[j]? = some x → PartC w b' (off' + j * 1) x) :
    Calls Tryz.prog 24 #[.slice (some ⟨b, off, none⟩) n cap, .slice (some ⟨b', off', none⟩) n cap'] w fun e w' => e = .returned (.bool true) ∧ Below w.heap.size w w' := by
  have HC := Lib.hid hc
  have HC' := Lib.hid hc'
  have HN := Lib.hid hn
  clear hc hc' hn
  go_enter Tryz.func24, Tryz.ntmps24
  go_wp2_with fail
  go_loopw [5] (fun i wr => ∃ k : Nat, i = .int .i64 k ∧ k ≤ n ∧ Hid (Below w.heap.size w wr)) (fun i _ => n - (RowKit.intOf i).toNat)
  case atStart => exact ⟨0, rfl, Nat.zero_le _, Lib.hid (Below.refl _ _)⟩
  case round =>
    obtain ⟨k, rfl, hk, HD⟩ := hrel
    by_cases hlt : k < n
    · obtain ⟨x, hx⟩ : ∃ x, r[k]? = some x := ⟨r[k]'(by have := HN.out; omega), List.getElem?_eq_getElem (by have := HN.out; omega)⟩
      obtain ⟨pa, pn, pc, p0, ps⟩ := HC.out k x hx
      obtain ⟨qa, qn, qc, q0, qs⟩ := HC'.out k x hx
      rw [Nat.mul_one] at p0 q0
      have x0 := cell_keep p0 HD.out
      have y0 := cell_keep q0 HD.out
      obtain ⟨A1, cap1, e1, hm1, hcell1⟩ := ps.spread
      obtain ⟨A2, cap2, e2, hm2, hcell2⟩ := qs.spread
      injection e1 with e1 e1' e1''
      injection e2 with e2 e2' e2''
      subst e1 e1' e1'' e2 e2' e2''
      have PS := Lib.hid ps
      have QS := Lib.hid qs
      have P0 := Lib.hid p0
      have Q0 := Lib.hid q0
      have HC1 := Lib.hid hcell1
      have HC2 := Lib.hid hcell2
      obtain ⟨m, hmm⟩ : ∃ m, x.length = m := ⟨_, rfl⟩
      rw [hmm] at x0 y0 PS QS P0 Q0
      have HX := Lib.hid hmm
      clear hx ps qs p0 q0 hcell1 hcell2 hmm hm2
      have k0 : (0 : Int) ≤ (k : Int) := by omega
      have k1 : (k : Int) < (n : Int) := by omega
      unfold maxLen at hm1
      have hm3 : m ≤ 9223372036854775807 := by have := HX.out; omega
      clear hm1
      go_wp2_with fail
      go_region
      go_wp2_with fail
      have HDD := Lib.hid (show Below w.heap.size w wr.drew from Below.drew HD.out)
      have HK := Lib.hid (And.intro hlt hk)
      generalize wr.drew = v at *
      clear x0 y0 HD
      go_loopw [6] (fun i wr => ∃ j : Nat, i = .int .i64 j ∧ j ≤ m ∧ Hid (Below w.heap.size w wr)) (fun i _ => m - (RowKit.intOf i).toNat)
      case atStart => exact ⟨0, rfl, Nat.zero_le _, HDD⟩
      case round =>
        obtain ⟨j, rfl, hj, HI⟩ := hrel
        have x1 := cell_keep P0.out HI.out
        have y1 := cell_keep Q0.out HI.out
        by_cases hjm : j < m
        · obtain ⟨y, hy⟩ : ∃ y, x[j]? = some y := ⟨x[j]'(by have := HX.out; omega), List.getElem?_eq_getElem (by have := HX.out; omega)⟩
          obtain ⟨b1, o1, rfl, ra, rn, rc, r0, r1, r2, r3, rs⟩ := HC1.out j y hy
          obtain ⟨b2, o2, rfl, sa, sn, sc, s0, s1, s2, s3, ss⟩ := HC2.out j y hy
          have z0 := cell_keep r0 HI.out
          have z1 := cell_keep r1 HI.out
          have z2 := cell_keep r2 HI.out
          have z3 := cell_keep r3 HI.out
          have t0 := cell_keep s0 HI.out
          have t1 := cell_keep s1 HI.out
          have t2 := cell_keep s2 HI.out
          have t3 := cell_keep s3 HI.out
          have CS := Lib.hid fun (wx : World) (hb : Below w.heap.size w wx) => srel_same y ra sa rn sn rc sc wx (rs.rngs_below hb) (ss.rngs_below hb)
          clear hy r0 r1 r2 r3 rs s0 s1 s2 s3 ss HC1 HC2 PS QS
          have j0 : (0 : Int) ≤ (j : Int) := by omega
          have j1 : (j : Int) < (m : Int) := by omega
          go_wp2_with fail
          refine wp_region_held_drew (S := fun w' => w'.cell? ⟨b, off + k, none⟩ = some (.slice (some ⟨b1, o1, none⟩) m pc) ∧ w'.cell? ⟨b', off' + k, none⟩ = some (.slice (some ⟨b2, o2, none⟩) m qc) ∧ w'.cell? ⟨b1, o1 + j * 4, none⟩ = some (.int .u8 (y.op.toNat : Int)) ∧ w'.cell? ⟨b1, o1 + j * 4 + 1, none⟩ = some (.int .i64 y.mod) ∧ w'.cell? ⟨b1, o1 + j * 4 + 2, none⟩ = some (.bool y.no) ∧ w'.cell? ⟨b1, o1 + j * 4 + 3, none⟩ = some (.slice ra rn rc) ∧ w'.cell? ⟨b2, o2 + j * 4, none⟩ = some (.int .u8 (y.op.toNat : Int)) ∧ w'.cell? ⟨b2, o2 + j * 4 + 1, none⟩ = some (.int .i64 y.mod) ∧ w'.cell? ⟨b2, o2 + j * 4 + 2, none⟩ = some (.bool y.no) ∧ w'.cell? ⟨b2, o2 + j * 4 + 3, none⟩ = some (.slice sa sn sc) ∧ Hid (Below w.heap.size w w')) (by kernel_rfl) (by exact ⟨by go_keep, by go_keep, by go_keep, by go_keep, by go_keep, by go_keep, by go_keep, by go_keep, by go_keep, by go_keep, Lib.hid (Below.drew HI.out)⟩) (fun hHeld => ?_)
          refine take_run (d := (some 39)) (v := ?v1) 0 rfl rfl (by kernel_rfl) (by kernel_rfl) (by kernel_rfl) (fun _ _ _ h => h) (by rfl) hHeld ?hy1 ?rs1
          case hy1 => (intro w hSw; (try dsimp only at hSw); go_simp) <;> (try with_reducible rfl)
          (try simp only [Act.put, List.setIfInBounds_toArray, List.set_cons_zero, List.set_cons_succ])
          refine take_run (d := (some 40)) (v := ?v2) 1 rfl rfl (by kernel_rfl) (by kernel_rfl) (by kernel_rfl) (fun _ _ _ h => h) (by rfl) hHeld ?hy2 ?rs2
          case hy2 => (intro w hSw; (try dsimp only at hSw); go_simp) <;> (try with_reducible rfl)
          (try simp only [Act.put, List.setIfInBounds_toArray, List.set_cons_zero, List.set_cons_succ])
          refine take_run (d := (some 41)) (v := ?v3) 2 rfl rfl (by kernel_rfl) (by kernel_rfl) (by kernel_rfl) (fun _ _ _ h => h) (by rfl) hHeld ?hy3 ?rs3
          case hy3 => (intro w hSw; (try dsimp only at hSw); go_simp) <;> (try with_reducible rfl)
          (try simp only [Act.put, List.setIfInBounds_toArray, List.set_cons_zero, List.set_cons_succ])
          refine take_run (d := (some 42)) (v := ?v4) 3 rfl rfl (by kernel_rfl) (by kernel_rfl) (by kernel_rfl) (fun _ _ _ h => h) (by rfl) hHeld ?hy4 ?rs4
          case hy4 => (intro w hSw; (try dsimp only at hSw); go_simp) <;> (try with_reducible rfl)
          (try simp only [Act.put, List.setIfInBounds_toArray, List.set_cons_zero, List.set_cons_succ])
          refine take_run (d := (some 43)) (v := ?v5) 4 rfl rfl (by kernel_rfl) (by kernel_rfl) (by kernel_rfl) (fun _ _ _ h => h) (by rfl) hHeld ?hy5 ?rs5
          case hy5 => (intro w hSw; (try dsimp only at hSw); go_simp) <;> (try with_reducible rfl)
          (try simp only [Act.put, List.setIfInBounds_toArray, List.set_cons_zero, List.set_cons_succ])
          refine take_run (d := (some 44)) (v := ?v6) 5 rfl rfl (by kernel_rfl) (by kernel_rfl) (by kernel_rfl) (fun _ _ _ h => h) (by rfl) hHeld ?hy6 ?rs6
          case hy6 => (intro w hSw; (try dsimp only at hSw); go_simp) <;> (try with_reducible rfl)
          (try simp only [Act.put, List.setIfInBounds_toArray, List.set_cons_zero, List.set_cons_succ])
          refine take_run (d := (some 45)) (v := ?v7) 6 rfl rfl (by kernel_rfl) (by kernel_rfl) (by kernel_rfl) (fun _ _ _ h => h) (by rfl) hHeld ?hy7 ?rs7
          case hy7 => (intro w hSw; (try dsimp only at hSw); go_simp) <;> (try with_reducible rfl)
          (try simp only [Act.put, List.setIfInBounds_toArray, List.set_cons_zero, List.set_cons_succ])
          refine take_run (d := (some 46)) (v := ?v8) 7 rfl rfl (by kernel_rfl) (by kernel_rfl) (by kernel_rfl) (fun _ _ _ h => h) (by rfl) hHeld ?hy8 ?rs8
          case hy8 => (intro w hSw; (try dsimp only at hSw); go_simp) <;> (try with_reducible rfl)
          (try simp only [Act.put, List.setIfInBounds_toArray, List.set_cons_zero, List.set_cons_succ])
          refine take_run (d := (some 47)) (v := ?v9) 8 rfl rfl (by kernel_rfl) (by kernel_rfl) (by kernel_rfl) (fun _ _ _ h => h) (by rfl) hHeld ?hy9 ?rs9
          case hy9 => (intro w hSw; (try dsimp only at hSw); go_simp) <;> (try with_reducible rfl)
          (try simp only [Act.put, List.setIfInBounds_toArray, List.set_cons_zero, List.set_cons_succ])
          refine take_run (d := (some 48)) (v := ?v10) 9 rfl rfl (by kernel_rfl) (by kernel_rfl) (by kernel_rfl) (fun _ _ _ h => h) (by rfl) hHeld ?hy10 ?rs10
          case hy10 => (intro w hSw; (try dsimp only at hSw); go_simp) <;> (try with_reducible rfl)
          (try simp only [Act.put, List.setIfInBounds_toArray, List.set_cons_zero, List.set_cons_succ])
          refine take_run (d := (some 49)) (v := ?v11) 10 rfl rfl (by kernel_rfl) (by kernel_rfl) (by kernel_rfl) (fun _ _ _ h => h) (by rfl) hHeld ?hy11 ?rs11
          case hy11 => (intro w hSw; (try dsimp only at hSw); go_simp) <;> (try with_reducible rfl)
          (try simp only [Act.put, List.setIfInBounds_toArray, List.set_cons_zero, List.set_cons_succ])
          refine take_run (d := (some 50)) (v := ?v12) 11 rfl rfl (by kernel_rfl) (by kernel_rfl) (by kernel_rfl) (fun _ _ _ h => h) (by rfl) hHeld ?hy12 ?rs12
          case hy12 => (intro w hSw; (try dsimp only at hSw); go_simp) <;> (try with_reducible rfl)
          (try simp only [Act.put, List.setIfInBounds_toArray, List.set_cons_zero, List.set_cons_succ])
          refine take_run (d := (some 51)) (v := ?v13) 12 rfl rfl (by kernel_rfl) (by kernel_rfl) (by kernel_rfl) (fun _ _ _ h => h) (by rfl) hHeld ?hy13 ?rs13
          case hy13 => (intro w hSw; (try dsimp only at hSw); go_simp) <;> (try with_reducible rfl)
          (try simp only [Act.put, List.setIfInBounds_toArray, List.set_cons_zero, List.set_cons_succ])
          refine take_run (d := (some 52)) (v := ?v14) 13 rfl rfl (by kernel_rfl) (by kernel_rfl) (by kernel_rfl) (fun _ _ _ h => h) (by rfl) hHeld ?hy14 ?rs14
          case hy14 => (intro w hSw; (try dsimp only at hSw); go_simp) <;> (try with_reducible rfl)
          (try simp only [Act.put, List.setIfInBounds_toArray, List.set_cons_zero, List.set_cons_succ])
          refine take_call 14 rfl (by kernel_rfl) (by rfl) (fun K hK => ?_)
          go_simp
          refine (CS.out _ (by obtain ⟨_, _, _, _, _, _, _, _, _, _, h1⟩ := hHeld; exact h1.out)).mono ?_
          rintro e w' ⟨rfl, hb⟩
          refine hK.out _ _ (by obtain ⟨h0, h1, h2, h3, h4, h5, h6, h7, h8, h9, hw⟩ := hHeld; exact ⟨cell_keep h0 hb, cell_keep h1 hb, cell_keep h2 hb, cell_keep h3 hb, cell_keep h4 hb, cell_keep h5 hb, cell_keep h6 hb, cell_keep h7 hb, cell_keep h8 hb, cell_keep h9 hb, Lib.hid (blw_trans hw.out hb)⟩) (fun hHeld => ?_)
          clear hK K
          (try simp only [Act.put, List.setIfInBounds_toArray, List.set_cons_zero, List.set_cons_succ])
          refine take_run (d := (some 7)) (v := ?v16) 15 rfl rfl (by kernel_rfl) (by kernel_rfl) (by kernel_rfl) (fun _ _ _ h => h) (by rfl) hHeld ?hy16 ?rs16
          case hy16 => (intro w hSw; (try dsimp only at hSw); go_simp) <;> (try with_reducible rfl)
          (try simp only [Act.put, List.setIfInBounds_toArray, List.set_cons_zero, List.set_cons_succ])
          refine wpAnyH_done (by kernel_rfl) ?_ _
          obtain ⟨z0, z1, z2, z3, z4, z5, z6, z7, z8, z9, zW⟩ := hHeld
          clear z0 z1 z2 z3 z4 z5 z6 z7 z8 z9
          go_wp2_with fail
          go_roundw
          case rel => exact ⟨j + 1, by go_num, by omega, zW⟩
          case measure => simp [RowKit.intOf]; omega
        · have e : j = m := by omega
          subst e
          go_wp2_with fail
          go_roundw
          case rel => exact ⟨k + 1, by go_num, by have := HK.out; omega, HI⟩
          case measure => have := HK.out; simp [RowKit.intOf]; omega
    · have e : k = n := by omega
      subst e
      go_wp2_with fail
      go_ret
      exact ⟨rfl, HD.out⟩
theorem srule_same (r : Rul.Rule) (a a' : Option Addr) (n n' c c' : Nat) (w : World) (hs : SlAt 1 PartC w (.slice a n c) r) (hs' : SlAt 1 PartC w (.slice a' n' c') r) :
    Calls Tryz.prog 24 #[.slice a n c, .slice a' n' c'] w fun e w' => e = .returned (.bool true) ∧ Below w.heap.size w w' := by
  rcases hs with ⟨e, a1, c1, e1⟩ | ⟨b, off, cap, e1, h0, h1, h2, h3⟩
  · rcases hs' with ⟨_, a2, c2, e2⟩ | ⟨b', off', cap', e2, h0', h1', h2', h3'⟩
    · injection e1 with e1 e1' e1''
      injection e2 with e2 e2' e2''
      subst e1' e2'
      exact srule_none _ _ _ _ w
    · rw [e] at h0'; simp at h0'
  · rcases hs' with ⟨e, a2, c2, e2⟩ | ⟨b', off', cap', e2, h0', h1', h2', h3'⟩
    · rw [e] at h0; simp at h0
    · injection e1 with e1 e1' e1''
      injection e2 with e2 e2' e2''
      subst e1 e2 e1' e2' e1'' e2''
      unfold maxLen at h2
      exact srule_some r b b' off off' _ _ _ w rfl (by omega) h3 h3'
end Go.Proofs.YtaijjffnamjhiaaGreatDoor
namespace Go.Proofs.YtaijjffnamjhiaaGreatDoor
open Go.RowKit Go.Shelf

/-- what RuleOf hands back -/
def RuleOfPost (s : List UInt8) (w' : World) (v : Value) : Prop :=
  (Rul.okQ s = true ∧ ∃ a n c, v = .slice a n c ∧ SlAt 1 PartC w' (.slice a n c) (Rul.ruleQ s)) ∨ (Rul.okQ s = false ∧ v = .slice none 0 0)

set_option maxRecDepth 100000 in
set_option maxHeartbeats 8000000 in
theorem ruleof_any (s : List UInt8) (w : World) (ht : s.length ≤ 100000000) :
    Calls Tryz.prog 22 #[.string ⟨s.toArray⟩] w fun e w' => ∃ v, e = .returned (.tuple #[v, .bool (Rul.okQ s)]) ∧ RuleOfPost s w' v ∧ Below w.heap.size w w' := by
  obtain ⟨iR, hiR, hR0, hR1, hR2⟩ := info_parts infoRel
  obtain ⟨iP, hiP, hP0, hP1, hP2⟩ := info_parts infoPart
  have CW := Lib.hid fun w => cut_own s [32, 111, 114, 32] w (by simp) (by omega) (by simp)
  have hL0 : 0 < (Lib.split s [32, 111, 114, 32]).length := by rw [Spl.split_len (by simp)]; omega
  have hLm := Rul.split_short (s := s) (sub := [32, 111, 114, 32]) (by simp)
  have HPL := Lib.hid fun x (hx : x ∈ Lib.split s [32, 111, 114, 32]) => piece_le hx
  have hcnt := Rul.count_Q s
  have HCN := Lib.hid hcnt
  have HRS := Lib.hid (Rul.rs_Q s)
  have HOK := Lib.hid (show Rul.okQ s = (decide (Rul.ruleE (Rul.ruleQ s) = 0) && (Rul.ruleT (Rul.ruleQ s) == s)) from rfl)
  have hQ : Rul.ruleQ s = (Lib.split s [32, 111, 114, 32]).map Rul.partQ := rfl
  have HP1 := Lib.hid (show ∀ w' a n c, Rul.okQ s = true → SlAt 1 PartC w' (.slice a n c) (Rul.ruleQ s) → RuleOfPost s w' (.slice a n c) from fun w' a n c h1 h2 => .inl ⟨h1, _, _, _, rfl, h2⟩)
  have HP2 := Lib.hid (show ∀ w', Rul.okQ s = false → RuleOfPost s w' (.slice none 0 0) from fun w' h => .inr ⟨h, rfl⟩)
  generalize RuleOfPost s = RP at *
  generalize Rul.ruleQ s = RQ at *
  generalize Rul.okQ s = OK at *
  generalize Lib.split s [32, 111, 114, 32] = L at *
  have HQ := Lib.hid hQ
  obtain ⟨m, hm⟩ : ∃ m, L.length = m := ⟨_, rfl⟩
  have HM := Lib.hid hm
  clear hQ hcnt
  go_enter Tryz.func22, Tryz.ntmps22
  go_wp2_with fail
  refine (CW.out _).mono ?_
  rintro e w1 ⟨v5, rfl, hown5, hb⟩
  obtain ⟨g5, cap5, rfl, hg5, hg5', hc5, hm5, hcell5⟩ := row_txt hown5 hL0
  have W1 := Lib.hid hb
  have hs1 := hb.size
  have HC5 := Lib.hid hcell5
  rw [hm] at hL0 hLm hc5 ⊢
  have Q0 := Lib.hid (show QO w w1.heap.size (.slice none 0 0) [] (fun _ => False) (L.take 0) w1 from ⟨⟨rfl, .inl ⟨rfl, rfl⟩⟩, rfl, by simp, ⟨by simp, by simp, by simp⟩, hb, Nat.le_refl _⟩)
  clear hb hown5 hcell5 CW hm hm5 hg5
  go_wp2_with fail
  go_loopw [4, 6, 7, 8, 9] (fun o i _ _ _ wr => ∃ (k : Nat) (ps : List (List Rul.Rl × Value)) (S : Nat → Prop), i = .int .i64 k ∧ k ≤ m ∧ Hid (QO w w1.heap.size o ps S (L.take k) wr) ∧ Hid (Below w1.heap.size w1 wr)) (fun _ i _ _ _ _ => m - (RowKit.intOf i).toNat)
  case atStart => exact ⟨0, [], fun _ => False, rfl, Nat.zero_le _, Q0, Lib.hid (Below.refl _ _)⟩
  case round =>
    obtain ⟨k, ps, S, rfl, hk, P, HD⟩ := hrel
    rename World => wo
    clear Q0
    by_cases hlt : k < m
    · obtain ⟨x, hx⟩ : ∃ x, L[k]? = some x := ⟨L[k]'(by have := HM.out; omega), List.getElem?_eq_getElem (by have := HM.out; omega)⟩
      have cz := cell_keep (HC5.out k x hx) HD.out
      have hxl := HPL.out x (List.mem_of_getElem? hx)
      have CX := Lib.hid fun w => cut_own x [32, 97, 110, 100, 32] w (by simp) (by omega) (by simp)
      have hx0 : 0 < (Lib.split x [32, 97, 110, 100, 32]).length := by rw [Spl.split_len (by simp)]; omega
      have hxm := Rul.split_short (s := x) (sub := [32, 97, 110, 100, 32]) (by simp)
      have HXS := Lib.hid fun y (hy : y ∈ Lib.split x [32, 97, 110, 100, 32]) => Nat.le_trans (piece_le hy) hxl
      have HER := Lib.hid (show Rul.partQ x = (Lib.split x [32, 97, 110, 100, 32]).map Rul.relQ from rfl)
      generalize Lib.split x [32, 97, 110, 100, 32] = L2 at *
      have HTK := Lib.hid (show L.take (k + 1) = L.take k ++ [x] by rw [List.take_add_one, hx]; rfl)
      have hpl : ps.length = k := by rw [P.out.len, List.length_take, HM.out]; omega
      have hov := fun b h => (P.out.row.lt b h).2
      have k0 : (0 : Int) ≤ (k : Int) := by omega
      have k1 : (k : Int) < (m : Int) := by omega
      clear hx
      go_wp2_with fail
      refine (CX.out _).mono ?_
      rintro e w2 ⟨v8, rfl, hown8, hb⟩
      obtain ⟨g8, cap8, rfl, hg8, _, hc8, hm8, hcell8⟩ := row_txt hown8 hx0
      have P1 := Lib.hid (P.out.below hb)
      have D1 := Lib.hid (blw_trans HD.out hb)
      have hs2 := hb.size
      have hs3 := HD.out.size
      have HC8 := Lib.hid hcell8
      obtain ⟨n2, hn2⟩ : ∃ n2, L2.length = n2 := ⟨_, rfl⟩
      rw [hn2] at hx0 hxm hc8 ⊢
      have HN2 := Lib.hid hn2
      have I0 := Lib.hid (show QI w2.heap.size (.slice none 0 0) [] (fun _ => False) (L2.take 0) w2 from ⟨⟨rfl, .inl ⟨rfl, rfl⟩⟩, rfl, by simp, ⟨by simp, by simp, by simp⟩, Nat.le_refl _⟩)
      clear hb hown8 hcell8 CX cz P HD hn2 hm8 hg8
      go_wp2_with fail
      go_loopw [7, 9] (fun o2 i wx => ∃ (j : Nat) (qs : List (Rul.Rl × Value)) (S2 : Nat → Prop), i = .int .i64 j ∧ j ≤ n2 ∧ Hid (QI w2.heap.size o2 qs S2 (L2.take j) wx) ∧ Hid (Below w2.heap.size w2 wx)) (fun _ i _ => n2 - (RowKit.intOf i).toNat)
      case atStart => exact ⟨0, [], fun _ => False, rfl, Nat.zero_le _, I0, Lib.hid (Below.refl _ _)⟩
      case round =>
        obtain ⟨j, qs, S2, rfl, hj, PI, HI⟩ := hrel
        rename World => wi
        clear I0
        by_cases hjn : j < n2
        · obtain ⟨y, hy⟩ : ∃ y, L2[j]? = some y := ⟨L2[j]'(by have := HN2.out; omega), List.getElem?_eq_getElem (by have := HN2.out; omega)⟩
          have cz := cell_keep (HC8.out j y hy) HI.out
          have hyl := HXS.out y (List.mem_of_getElem? hy)
          have CR := Lib.hid fun w => relof_any y w (by omega)
          obtain ⟨R, hR⟩ : ∃ R, Rul.relQ y = R := ⟨_, rfl⟩
          rw [hR] at CR
          have HR := Lib.hid hR
          have HTJ := Lib.hid (show L2.take (j + 1) = L2.take j ++ [y] by rw [List.take_add_one, hy]; rfl)
          have hql : qs.length = j := by rw [PI.out.len, List.length_take, HN2.out]; omega
          have hov2 := fun b h => (PI.out.row.lt b h).2
          have j0 : (0 : Int) ≤ (j : Int) := by omega
          have j1 : (j : Int) < (n2 : Int) := by omega
          clear hy hR
          go_wp2_with fail
          refine (CR.out _).mono ?_
          rintro e w3 ⟨a, n, c, rfl, hsl, hfr, hb⟩
          have HB := Lib.hid (show ∀ b, (Value.slice a n c).ownBlock = some b → w2.heap.size ≤ b ∧ _ ≠ some b from fun b hb' => ⟨by have := hfr b hb'; have := HI.out.size; omega, fun e => by have := hfr b hb'; have := hov2 b e; omega⟩)
          have P3 := Lib.hid ((PI.out.below hb).below (blw_alloc w3 (.cells #[.int .u8 (R.op.toNat : Int), .int .i64 R.mod, .bool R.no, .slice a n c] 106)))
          have BN := Lib.hid (Boxed.made w3 #[.int .u8 (R.op.toNat : Int), .int .i64 R.mod, .bool R.no, .slice a n c] 106)
          have HSL := Lib.hid (hsl.rngs_below (blw_alloc w3 (.cells #[.int .u8 (R.op.toNat : Int), .int .i64 R.mod, .bool R.no, .slice a n c] 106)))
          have I3 := Lib.hid (blw_trans (blw_trans HI.out hb) (blw_alloc w3 (.cells #[.int .u8 (R.op.toNat : Int), .int .i64 R.mod, .bool R.no, .slice a n c] 106)))
          clear hb hsl hfr cz CR PI HI hov2
          go_wp2_with (at_builtin; refine wpList_append_own_at _ rfl _ _ 102 rfl w2.heap.size 106 iR _ 4 48 Tryz.underlying102 hiR hR0 hR1 hR2 rfl (by decide) _ qs.length (qflat qs) rfl P3.out.row ⟨w3.heap.size, 0, none⟩ 1 1 [.int .u8 (R.op.toNat : Int), .int .i64 R.mod, .bool R.no, .slice a n c] rfl rfl (boxed_add BN.out) (fun u hu => by simp at hu; rcases hu with rfl | rfl | rfl | rfl <;> rfl) (by unfold maxLen; omega) (by omega) P3.out.sz ?_; intro v' w5 hown hgrow hnil hat)
          have P4 := Lib.hid (P3.out.append (x := y) (by rw [HR.out]; exact hown) hgrow hat (by rw [HR.out]; exact HSL.out) HB.out)
          have I4 := Lib.hid (show Below w2.heap.size w2 w5 from I3.out.grown hgrow I3.out.size (fun k hk => (P3.out.row.lt k hk).1))
          clear hown hgrow hnil hat P3 I3 HSL BN HB
          go_wp2_with fail
          go_roundw
          case rel => exact ⟨j + 1, _, _, by go_num, by omega, by rw [HTJ.out]; exact P4, I4⟩
          case measure => simp [RowKit.intOf]; omega
        · have e : j = n2 := by omega
          subst e
          obtain ⟨a2, c2, rfl⟩ := row_any PI.out.row
          have li := PI.out.lies
          rw [List.take_of_length_le (by have := HN2.out; omega), ← HER.out] at li
          have hql : qs.length = j := by rw [PI.out.len, List.length_take, HN2.out]; omega
          rw [hql] at li ⊢
          have LI := Lib.hid li
          have P3 := Lib.hid ((P1.out.below HI.out).below (blw_alloc wi (.cells #[.slice a2 j c2] 102)))
          have BN := Lib.hid (Boxed.made wi #[.slice a2 j c2] 102)
          have D3 := Lib.hid (blw_trans (blw_trans D1.out HI.out) (blw_alloc wi (.cells #[.slice a2 j c2] 102)))
          have hs4 := HI.out.size
          clear li PI hql
          go_wp2_with (at_builtin; refine wpList_append_own_at _ rfl _ _ 43 rfl w1.heap.size 102 iP _ 1 24 Tryz.underlying43 hiP hP0 hP1 hP2 rfl (by decide) _ ps.length (ps.map (fun q : List Rul.Rl × Value => q.2)) rfl P3.out.row ⟨wi.heap.size, 0, none⟩ 1 1 [.slice a2 j c2] rfl rfl (boxed_add BN.out) (fun u hu => by simp at hu; subst hu; rfl) (by unfold maxLen; omega) (by omega) P3.out.sz ?_; intro v' w5 hown hgrow hnil hat)
          have P4 := Lib.hid (P3.out.append (x := x) hown hgrow hat hs1 (relsI_kept LI.out.1 (fun b hb' => (blw_alloc wi _).block b (LI.out.2 b hb').2.lt) (fun _ h => h)) (fun b hb' => ⟨by have := (LI.out.2 b hb').1; omega, fun e => by have := (LI.out.2 b hb').1; have := hov b e; omega, (LI.out.2 b hb').2.grown (grown_below (blw_alloc wi _)) (fun e => by cases e)⟩))
          have D4 := Lib.hid (show Below w1.heap.size w1 w5 from D3.out.grown hgrow D3.out.size (fun k hk => (P3.out.row.lt k hk).1))
          clear hown hgrow hnil hat P3 D3 BN LI
          go_wp2_with fail
          go_roundw
          case rel => exact ⟨k + 1, _, _, by go_num, by omega, by rw [HTK.out]; exact P4, D4⟩
          case measure => simp [RowKit.intOf]; omega
    · have e : k = m := by omega
      subst e
      obtain ⟨a, c, rfl⟩ := row_any P.out.row
      have hpl : ps.length = k := by rw [P.out.len, List.length_take, HM.out]; omega
      have li := P.out.lies
      rw [List.take_of_length_le (by have := HM.out; omega), ← HQ.out] at li
      rw [hpl] at li ⊢
      have hlow := P.out.low
      have hcn := HCN.out
      have CF := Lib.hid (rulefault_any RQ a k c wo li (by omega) (by omega))
      have LI := Lib.hid li
      have LW := Lib.hid hlow
      clear P HD hpl HPL HC5
      by_cases hE : Rul.ruleE RQ = 0
      · have CT := Lib.hid fun w' (hb : Below wo.heap.size wo w') => ruletext_any RQ a k c w' (li.rule_below hb) hE (fun l hl x hx => by have := HRS.out l hl x hx; omega)
        rw [hE] at CF
        have HO2 := Lib.hid (show OK = (Rul.ruleT RQ == s) by rw [HOK.out, hE]; simp)
        generalize Rul.ruleT RQ = T at *
        clear li hlow hE hcn
        go_wp2_with fail
        refine CF.out.mono ?_
        rintro e w2 ⟨rfl, hb⟩
        have F2 := Lib.hid hb
        clear hb CF
        go_wp2_with fail
        refine (CT.out _ F2.out).mono ?_
        rintro e w3 ⟨rfl, hb⟩
        have F3 := Lib.hid (blw_trans F2.out hb)
        clear hb CT
        by_cases hT : T = s
        · subst hT
          obtain rfl : OK = true := by rw [HO2.out]; simp
          go_wp2_with fail
          go_ret2
          exact ⟨_, rfl, HP1.out _ _ _ _ (by first | trivial | rfl) (LI.out.rule_below F3.out), blw_trans LW.out F3.out⟩
        · have hT' : (T == s) = false := by simpa using hT
          obtain rfl : OK = false := by rw [HO2.out]; exact hT'
          clear hT
          go_wp2_with fail
          go_ret2
          exact ⟨_, rfl, HP2.out _ (by first | trivial | rfl), blw_trans LW.out F3.out⟩
      · obtain rfl : OK = false := by rw [HOK.out, dec_no hE]; rfl
        generalize Rul.ruleE RQ = E at *
        have hE' : (E == 0) = false := beq_no hE
        have hE2 : (E != 0) = true := by simp [hE]
        clear li hlow hcn hE
        go_wp2_with fail
        refine CF.out.mono ?_
        rintro e w2 ⟨rfl, hb⟩
        have F2 := Lib.hid hb
        clear hb CF
        go_wp2_with fail
        go_ret2
        exact ⟨_, rfl, HP2.out _ (by first | trivial | rfl), blw_trans LW.out F2.out⟩
end Go.Proofs.YtaijjffnamjhiaaGreatDoor
namespace Go.Proofs.YtaijjffnamjhiaaGreatDoor
open Go.RowKit

theorem errR_no (E : Int) : ErrNo (errR E) E := by
  unfold errR
  split
  · rename_i h; rw [h]; exact ErrNo.nil
  · exact ErrNo.no E

set_option maxRecDepth 100000 in
set_option maxHeartbeats 8000000 in
theorem ruletells_any (r : Rul.Rule) (a : Option Addr) (n c : Nat) (s : List UInt8) (oi ov ow of ot : Int) (w : World) (hT : TR w) (hH : HanW w) (hr : SlAt 1 PartC w (.slice a n c) r) (hl : r.length ≤ 1048576) (hc : Rul.count r ≤ 1048576)
    (hrs : ∀ l ∈ r, ∀ x ∈ l, x.rs.length ≤ 1048576) (ht : s.length ≤ 1048576) :
    Calls Tryz.prog 5 #[.slice a n c, .string ⟨s.toArray⟩, .agg #[.int .i64 oi, .int .i64 ov, .int .i64 ow, .int .i64 of, .int .i64 ot]] w fun e w' => e = .returned (.bool true) ∧ Below w.heap.size w w' := by
  have W0 := Lib.hid (blw_alloc w (.cells #[.int .i64 oi, .int .i64 ov, .int .i64 ow, .int .i64 of, .int .i64 ot] 45))
  have B0 := Lib.hid (Boxed.made w #[.int .i64 oi, .int .i64 ov, .int .i64 ow, .int .i64 of, .int .i64 ot] 45)
  obtain ⟨w0, hw0⟩ : ∃ w0, w.alloc (.cells #[.int .i64 oi, .int .i64 ov, .int .i64 ow, .int .i64 of, .int .i64 ot] 45) = w0 := ⟨_, rfl⟩
  rw [hw0] at W0 B0
  obtain ⟨E, hE⟩ : ∃ E, Rul.ruleE r = E := ⟨_, rfl⟩
  obtain ⟨TX, hTX⟩ : ∃ TX, TX = if E = 0 then Rul.ruleT r else [] := ⟨_, rfl⟩
  obtain ⟨ER, hER⟩ : ∃ ER, ER = errR E := ⟨_, rfl⟩
  obtain ⟨ok, hok⟩ : ∃ ok, Rul.okQ s = ok := ⟨_, rfl⟩
  obtain ⟨F, hF⟩ : ∃ F : Int, F = if ok then 0 else 3 := ⟨_, rfl⟩
  obtain ⟨FR, hFR⟩ : ∃ FR, FR = errR F := ⟨_, rfl⟩
  obtain ⟨RL, hRL⟩ : ∃ RL, RL = if ok then Rul.ruleP s else [] := ⟨_, rfl⟩
  obtain ⟨same1, same2⟩ := Rul.ok_same s
  rw [hok] at same1
  obtain ⟨HH, hHH⟩ : ∃ HH, HH = (decide (E = 0) && Rul.ruleH r ⟨oi, ov, ow, of, ot⟩) := ⟨_, rfl⟩
  have t0 := fun (wx : World) (hb : Below w0.heap.size w0 wx) => blw_trans W0.out hb
  have CF := Lib.hid fun (wx : World) (hb : Below w0.heap.size w0 wx) => ruled_any wx (hT.m.below (t0 wx hb)) (hT.n.below (t0 wx hb)) (hT.p.below (t0 wx hb))
  have CE := Lib.hid fun (wx : World) (hb : Below w0.heap.size w0 wx) => hE ▸ rulefault_any r a n c wx (hr.rule_below (t0 wx hb)) (by omega) (by omega)
  have CX := Lib.hid fun (wx : World) (hb : Below w0.heap.size w0 wx) (h : E = 0) => ruletext_any r a n c wx (hr.rule_below (t0 wx hb)) (hE.trans h) (fun l hl x hx => by have := hrs l hl x hx; omega)
  have CT : Hid (∀ (wx : World), Below w0.heap.size w0 wx → Calls Tryz.prog 21 #[.slice a n c] wx fun e w' => e = .returned (.tuple #[.string ⟨TX.toArray⟩, ER]) ∧ Below wx.heap.size wx w') := Lib.hid fun wx hb => by
    by_cases h : E = 0
    · rw [hTX, hER, if_pos h, h]
      have tot := Rul.ok_totals (hE.trans h) (fun l hl x hx => by have := hrs l hl x hx; omega)
      exact rtext_yes r a n c wx (hT.p.below (t0 wx hb)) (hr.rule_below (t0 wx hb)) (by omega) (by omega) (fun l hl x hx => by have := hrs l hl x hx; omega) (hE.trans h) tot.1 tot.2
    · rw [hTX, hER, if_neg h, show errR E = errV E from if_neg h, ← hE]
      exact rtext_no r a n c wx (hr.rule_below (t0 wx hb)) (by omega) (by omega) (fun l hl x hx => by have := hrs l hl x hx; omega) (by rw [hE]; exact h)
  have CO : Hid (∀ (wx : World), Below w0.heap.size w0 wx → Calls Tryz.prog 22 #[.string ⟨s.toArray⟩] wx fun e w' => ∃ a n c, e = .returned (.tuple #[.slice a n c, .bool ok]) ∧ SlAt 1 PartC w' (.slice a n c) RL ∧ Below wx.heap.size wx w') := Lib.hid fun wx hb => by
    have h := ruleof_any s wx (by omega)
    rw [hok] at h
    refine h.mono ?_
    rintro e w' ⟨v, rfl, hp, hb'⟩
    rcases hp with ⟨h1, a, n, c, rfl, h2⟩ | ⟨h1, rfl⟩
    · rw [hok] at h1
      subst h1
      exact ⟨_, _, _, rfl, by rw [hRL, if_pos rfl, ← same2 same1.symm]; exact h2, hb'⟩
    · rw [hok] at h1
      subst h1
      exact ⟨_, _, _, rfl, by rw [hRL]; exact .inl ⟨rfl, _, _, rfl⟩, hb'⟩
  have CP : Hid (∀ (wx : World), Below w0.heap.size w0 wx → Calls Tryz.prog 23 #[.string ⟨s.toArray⟩] wx fun e w' => ∃ a n c, e = .returned (.tuple #[.slice a n c, FR]) ∧ SlAt 1 PartC w' (.slice a n c) RL ∧ Below wx.heap.size wx w') := Lib.hid fun wx hb => by
    refine (rparse_any s wx (hT.m.below (t0 wx hb)) (hT.n.below (t0 wx hb)) (hT.p.below (t0 wx hb)) (by omega)).mono ?_
    rintro e w' ⟨v, f, rfl, hp, hb'⟩
    rcases hp with ⟨h1, rfl, a, n, c, rfl, h2⟩ | ⟨h1, rfl, rfl⟩
    · rw [← same1] at h1
      subst h1
      exact ⟨_, _, _, by rw [hFR, hF]; rfl, by rw [hRL, if_pos rfl]; exact h2, hb'⟩
    · rw [← same1] at h1
      subst h1
      exact ⟨_, _, _, by rw [hFR, hF]; rfl, by rw [hRL]; exact .inl ⟨rfl, _, _, rfl⟩, hb'⟩
  have CS := Lib.hid fun (wx : World) (hb : Below w0.heap.size w0 wx) => hER ▸ sameErr_yes (errR_no E) wx (hH.below (t0 wx hb))
  have CS2 := Lib.hid fun (wx : World) (hb : Below w0.heap.size w0 wx) => hFR ▸ sameErr_yes (errR_no F) wx (hH.below (t0 wx hb))
  have CH : Hid (∀ (wx : World), Below w0.heap.size w0 wx → Calls Tryz.prog 25 #[.slice a n c, .agg #[.int .i64 oi, .int .i64 ov, .int .i64 ow, .int .i64 of, .int .i64 ot]] wx fun e w' => e = .returned (.tuple #[.bool HH, ER]) ∧ Below wx.heap.size wx w') := Lib.hid fun wx hb => by
    by_cases h : E = 0
    · rw [hHH, hER, h]
      exact rholds_yes r a n c ⟨oi, ov, ow, of, ot⟩ wx (hr.rule_below (t0 wx hb)) (by omega) (by omega) (fun l hl x hx => by have := hrs l hl x hx; omega) (hE.trans h)
    · rw [hHH, dec_no h, hER, show errR E = errV E from if_neg h, ← hE]
      exact rholds_no r a n c oi ov ow of ot wx (hr.rule_below (t0 wx hb)) (by omega) (by omega) (fun l hl x hx => by have := hrs l hl x hx; omega) (by rw [hE]; exact h)
  have CR := Lib.hid fun (wx : World) (hb : Below w0.heap.size w0 wx) (h : E = 0) => rhr_any r a n c ⟨oi, ov, ow, of, ot⟩ wx (hr.rule_below (t0 wx hb)) (hE.trans h)
  have HHH := Lib.hid hHH
  have HTX := Lib.hid hTX
  have HF := Lib.hid hF
  generalize Rul.ruleH r ⟨oi, ov, ow, of, ot⟩ = RH at *
  generalize Rul.ruleT r = RT at *
  clear hT hH hr hl hc hrs ht hE hTX hER hok hF hFR hRL same1 same2 hHH t0
  go_enter Tryz.func5, Tryz.ntmps5
  go_wp2_with fail
  clear hw0
  refine (CF.out _ (Below.refl _ _)).mono ?_
  rintro e w1 ⟨rfl, hb⟩
  have W1 := Lib.hid hb
  clear hb CF
  go_wp2_with fail
  refine (CE.out _ W1.out).mono ?_
  rintro e w2 ⟨rfl, hb⟩
  have W2 := Lib.hid (blw_trans W1.out hb)
  clear hb CE W1
  go_upto_if 25 with fail
  go_cut [9] from 25 (fun t wx => t = .string ⟨TX.toArray⟩ ∧ Hid (Below w0.heap.size w0 wx))
  case first =>
    by_cases h : E = 0
    · have CX2 := Lib.hid fun wx hb => CX.out wx hb h
      obtain rfl : TX = RT := by rw [HTX.out, if_pos h]
      have he : (E == 0) = true := beq_yes h
      clear h CX HTX HHH CR
      go_wp2_with fail
      refine (CX2.out _ W2.out).mono ?_
      rintro e w3 ⟨rfl, hb⟩
      have W3 := Lib.hid (blw_trans W2.out hb)
      clear hb CX2
      go_wp2_with fail
      go_meet
      exact ⟨rfl, W3⟩
    · obtain rfl : TX = [] := by rw [HTX.out, if_neg h]
      have he : (E == 0) = false := beq_no h
      clear h
      go_wp2_with fail
      go_meet
      exact ⟨rfl, W2⟩
  case rest =>
    obtain ⟨rfl, W3⟩ := hcut
    clear W2 CX HTX
    go_wp2_with fail
    refine (CT.out _ W3.out).mono ?_
    rintro e w4 ⟨rfl, hb⟩
    have W4 := Lib.hid (blw_trans W3.out hb)
    clear hb CT W3
    go_wp2_with fail
    refine (CS.out _ W4.out).mono ?_
    rintro e w5 ⟨rfl, hb⟩
    have W5 := Lib.hid (blw_trans W4.out hb)
    clear hb W4
    go_wp2_with fail
    refine (CO.out _ W5.out).mono ?_
    rintro e w6 ⟨a1, n1, c1, rfl, hs1, hb⟩
    have W6 := Lib.hid (blw_trans W5.out hb)
    have S6 := Lib.hid hs1
    clear hb W5 CO hs1
    go_upto_if 42 with fail
    go_cut [15] from 42 (fun t wx => t = .int .i64 F ∧ wx = w6)
    case first =>
      cases ok with
      | true =>
        obtain rfl : F = 0 := HF.out
        go_wp2_with fail
        go_meet
        exact ⟨rfl, rfl⟩
      | false =>
        obtain rfl : F = 3 := HF.out
        go_wp2_with fail
        go_meet
        exact ⟨rfl, rfl⟩
    case rest =>
      obtain ⟨rfl, rfl⟩ := hcut
      clear HF
      go_wp2_with fail
      refine (CP.out _ W6.out).mono ?_
      rintro e w7 ⟨a2, n2, c2, rfl, hs2, hb⟩
      have W7 := Lib.hid (blw_trans W6.out hb)
      have S7 := Lib.hid (S6.out.rule_below hb)
      have S8 := Lib.hid hs2
      clear hb W6 CP hs2 S6
      go_wp2_with fail
      refine (CS2.out _ W7.out).mono ?_
      rintro e w8 ⟨rfl, hb⟩
      have W8 := Lib.hid (blw_trans W7.out hb)
      have CQ := Lib.hid (srule_same RL a2 a1 n2 n1 c2 c1 w8 (S8.out.rule_below hb) (S7.out.rule_below hb))
      clear hb W7 CS2 S7 S8
      go_wp2_with fail
      refine CQ.out.mono ?_
      rintro e w9 ⟨rfl, hb⟩
      have W9 := Lib.hid (blw_trans W8.out hb)
      have B9 := Lib.hid (B0.out.below W9.out)
      have k0 := B9.out.cell 0 _ rfl
      have k1 := B9.out.cell 1 _ rfl
      have k2 := B9.out.cell 2 _ rfl
      have k3 := B9.out.cell 3 _ rfl
      have k4 := B9.out.cell 4 _ rfl
      clear hb W8 CQ B0
      by_cases h0 : oi < 0
      · have d0 : decide (oi < 0) = true := dec_yes h0
        go_wp2_with fail
        go_ret
        exact ⟨rfl, blw_trans W0.out W9.out⟩
      have d0 : decide (oi < 0) = false := dec_no h0
      by_cases h1 : ov < 0
      · have d1 : decide (ov < 0) = true := dec_yes h1
        go_wp2_with fail
        go_ret
        exact ⟨rfl, blw_trans W0.out W9.out⟩
      have d1 : decide (ov < 0) = false := dec_no h1
      by_cases h2 : ow < 0
      · have d2 : decide (ow < 0) = true := dec_yes h2
        go_wp2_with fail
        go_ret
        exact ⟨rfl, blw_trans W0.out W9.out⟩
      have d2 : decide (ow < 0) = false := dec_no h2
      by_cases h3 : of < 0
      · have d3 : decide (of < 0) = true := dec_yes h3
        go_wp2_with fail
        go_ret
        exact ⟨rfl, blw_trans W0.out W9.out⟩
      have d3 : decide (of < 0) = false := dec_no h3
      by_cases h4 : ot < 0
      · have d4 : decide (ot < 0) = true := dec_yes h4
        go_wp2_with fail
        go_ret
        exact ⟨rfl, blw_trans W0.out W9.out⟩
      have d4 : decide (ot < 0) = false := dec_no h4
      clear h0 h1 h2 h3 h4
      go_wp2_with fail
      refine (CH.out _ W9.out).mono ?_
      rintro e w10 ⟨rfl, hb⟩
      have W10 := Lib.hid (blw_trans W9.out hb)
      have B10 := Lib.hid (B9.out.below hb)
      clear hb W9 CH
      go_wp2_with fail
      refine (CS.out _ W10.out).mono ?_
      rintro e w11 ⟨rfl, hb⟩
      have W11 := Lib.hid (blw_trans W10.out hb)
      have B11 := Lib.hid (B10.out.below hb)
      clear hb W10 CS k0 k1 k2 k3 k4
      have k0 := B11.out.cell 0 _ rfl
      have k1 := B11.out.cell 1 _ rfl
      have k2 := B11.out.cell 2 _ rfl
      have k3 := B11.out.cell 3 _ rfl
      have k4 := B11.out.cell 4 _ rfl
      by_cases h : E = 0
      · have CR2 := Lib.hid (CR.out _ W11.out h)
        obtain rfl : HH = RH := by rw [HHH.out, dec_yes h]; rfl
        have he : (E == 0) = true := beq_yes h
        clear h CR HHH
        go_wp2_with fail
        refine CR2.out.mono ?_
        rintro e w12 ⟨rfl, hb⟩
        have W12 := Lib.hid (blw_trans W11.out hb)
        clear hb CR2
        go_wp2_with fail
        go_ret
        exact ⟨ret_bool (by simp), blw_trans W0.out W12.out⟩
      · obtain rfl : HH = false := by rw [HHH.out, dec_no h]; rfl
        have he : (E == 0) = false := beq_no h
        clear h CR
        go_wp2_with fail
        go_ret
        exact ⟨rfl, blw_trans W0.out W11.out⟩
end Go.Proofs.YtaijjffnamjhiaaGreatDoor
namespace Go.Proofs.YtaijjffnamjhiaaGreatDoor
open Go.RowKit Go.WideShapes Go.ChangeShapes Go.Deep

theorem bulk_small {H : Type} {l : List (DataW H)} (hk : Rows.uptoSmall H l = true) : Rows.uptoBulkAll l ≤ 1048576 := of_decide_eq_true hk
theorem list_by {α : Type} {Q : Nat → α → Prop} : ∀ (n : Nat), (∀ i, i < n → ∃ t, Q i t) → ∃ L : List α, L.length = n ∧ ∀ i t, L[i]? = some t → Q i t
  | 0, _ => ⟨[], rfl, fun i t h => by simp at h⟩
  | n + 1, h => by
    obtain ⟨L, hl, hq⟩ := list_by n fun i hi => h i (by omega)
    obtain ⟨t, ht⟩ := h n (by omega)
    refine ⟨L ++ [t], by simp [hl], fun i x hx => ?_⟩
    by_cases hi : i < n
    · rw [List.getElem?_append_left (by omega)] at hx; exact hq i x hx
    · rw [List.getElem?_append_right (by omega)] at hx
      have hk : i - L.length < 1 := (List.getElem?_eq_some_iff.1 hx).1
      obtain rfl : i = n := by omega
      rw [hl, Nat.sub_self] at hx
      obtain rfl : t = x := by simpa using hx
      exact ht
theorem bulk_sum {H : Type} {α : Type} (bulk : α → Nat) : ∀ (L : List α) (D : Nat → DataW H) (k : Nat), (∀ i x, L[i]? = some x → bulk x + 1 ≤ Rows.uptoBulk (D (k + i))) → (L.map bulk).sum + L.length ≤ Rows.uptoBulkAll ((List.range' k L.length).map D)
  | [], _, _, _ => by simp [Rows.uptoBulkAll]
  | x :: r, D, k, h => by
    have a := h 0 x rfl
    have b := bulk_sum bulk r D (k + 1) fun i y hy => by
      have := h (i + 1) y (by simpa using hy)
      rwa [show k + 1 + i = k + (i + 1) by omega]
    rw [List.length_cons, List.range'_succ, List.map_cons, List.map_cons, List.sum_cons]
    simp only [Rows.uptoBulkAll]
    simp only [Nat.add_zero] at a
    omega
section
variable {H : Type} {enc : TypeId × Value → H} {P : Program} {w : World} {base : Nat} {sp : Nat → Bool} {held : Bool}
theorem sl_open {α : Type} {fuel m : Nat} {t e : TypeId} {C : World → Nat → Nat → α → Prop} (bulk : α → Nat) (ht : P.underlying t = some (.slice e)) (hC : P.cellsOf e = m) (hm : 0 < m)
    (el : ∀ (b off : Nat) (cs : List Value) (n : Nat) (y : DataW H × List MemPlace), (∀ i, i < m → w.cell? ⟨b, off + i, none⟩ = cs[i]?) → cs.length = m → DataW.trod enc P w base sp held n e cs = some y → ∃ x : α, C w b off x ∧ bulk x + 1 ≤ Rows.uptoBulk y.1)
    {a : Option Addr} {n c : Nat} {d : DataW H} {p : List MemPlace} (h : DataW.trod enc P w base sp held fuel t (Value.slice a n c).cells.toList = some (d, p)) :
    ∃ l : List α, SlAt m C w (.slice a n c) l ∧ (l.map bulk).sum + l.length + 1 ≤ Rows.uptoBulk d := by
  rcases open_slice ht h with ⟨hcs, hx⟩ | ⟨a', len, cap, mm, nn, D, Pl, hcs, _, hl, hcm, hmm, hx, hi⟩
  · have e1 : Value.slice a n c = .slice none 0 0 := by simpa [Value.cells] using hcs
    rw [e1]
    refine ⟨[], .inl ⟨rfl, none, 0, rfl⟩, ?_⟩
    rw [show d = .nil from congrArg Prod.fst hx]
    simp [Rows.uptoBulk]
  · have e1 : Value.slice a n c = .slice (some a') len cap := by simpa [Value.cells] using hcs
    rw [e1]
    have hd : d = .slice ((List.range len).map D) ((List.range (mm - len)).map fun j => D (len + j)) := congrArg Prod.fst hx
    by_cases hz : len = 0
    · subst hz
      refine ⟨[], .inl ⟨rfl, _, _, rfl⟩, ?_⟩
      rw [hd]
      simp only [List.map_nil, List.sum_nil, List.length_nil, Rows.uptoBulk]
      omega
    have hlm : len ≤ mm := by rw [hmm]; split <;> omega
    rw [hC] at hi
    obtain ⟨b, off, spot⟩ := a'
    have hsp : spot = none := by
      obtain ⟨cs0, q0, _⟩ := hi 0 (by omega)
      obtain ⟨_, q1, q2⟩ := World.cells?_some q0
      have q3 := q2 0 hm
      rw [List.getElem?_eq_getElem (by omega)] at q3
      simpa [Addr.add] using World.cell?_spot q3
    subst hsp
    obtain ⟨L, hL, hQ⟩ := list_by (Q := fun i x => C w b (off + i * m) x ∧ bulk x + 1 ≤ Rows.uptoBulk (D i)) len fun i hil => by
      obtain ⟨cs', q0, q1⟩ := hi i (by omega)
      obtain ⟨_, q2, q3⟩ := World.cells?_some q0
      rw [Go.WideShapes.add_plain] at q3
      exact el b (off + i * m) cs' nn _ (fun j hj => by have := q3 j hj; rwa [Go.WideShapes.add_plain] at this) q2 q1
    refine ⟨L, .inr ⟨b, off, cap, by rw [hL], by omega, by omega, hcm, fun j x hx => (hQ j x hx).1⟩, ?_⟩
    have s := bulk_sum bulk L D 0 (fun i x hx => by have := (hQ i x hx).2; rwa [Nat.zero_add])
    rw [hL, ← List.range_eq_range'] at s
    rw [hd, hL]
    simp only [Rows.uptoBulk]
    omega
theorem sl_field {α : Type} {fuel m : Nat} {t e : TypeId} {C : World → Nat → Nat → α → Prop} (bulk : α → Nat) (ht : P.underlying t = some (.slice e)) (hC : P.cellsOf e = m) (hm : 0 < m)
    (el : ∀ (b off : Nat) (cs : List Value) (n : Nat) (y : DataW H × List MemPlace), (∀ i, i < m → w.cell? ⟨b, off + i, none⟩ = cs[i]?) → cs.length = m → DataW.trod enc P w base sp held n e cs = some y → ∃ x : α, C w b off x ∧ bulk x + 1 ≤ Rows.uptoBulk y.1)
    {v : Value} {y : DataW H × List MemPlace} (h : DataW.trod enc P w base sp held fuel t [v] = some y) :
    ∃ a n c l, v = .slice a n c ∧ SlAt m C w (.slice a n c) l ∧ (l.map bulk).sum + l.length + 1 ≤ Rows.uptoBulk y.1 := by
  obtain ⟨a, n, c, rfl⟩ : ∃ a n c, v = .slice a n c := by
    rcases open_slice ht h with ⟨hcs, _⟩ | ⟨a', len, cap, _, _, _, _, hcs, _⟩
    · exact ⟨_, _, _, by simpa using hcs⟩
    · exact ⟨_, _, _, by simpa using hcs⟩
  obtain ⟨l, h1, h2⟩ := sl_open bulk ht hC hm el (a := a) (n := n) (c := c) (d := y.1) (p := y.2) (by simpa [Value.cells] using h)
  exact ⟨a, n, c, l, rfl, h1, h2⟩
/-- one range -/
theorem rng_el {t e : TypeId} (ht : P.underlying t = some (.array 2 e)) (he : P.underlying e = some (.int .i64)) (hc : P.cellsOf e = 1) (b off : Nat) (cs : List Value) (n : Nat) (y : DataW H × List MemPlace)
    (h1 : ∀ i, i < 2 → w.cell? ⟨b, off + i, none⟩ = cs[i]?) (h2 : cs.length = 2) (h : DataW.trod enc P w base sp held n t cs = some y) : ∃ x : Int × Int, RngC w b off x ∧ (fun _ => 0) x + 1 ≤ Rows.uptoBulk y.1 := by
  obtain ⟨xs, m, _, hy, _, hxl, hx⟩ := DataW.trod_array ht h
  obtain ⟨c0, c1, rfl⟩ : ∃ c0 c1, cs = [c0, c1] := by
    match cs, h2 with
    | [c0, c1], _ => exact ⟨c0, c1, rfl⟩
  have x0 := hx 0 (by omega)
  have x1 := hx 1 (by omega)
  rw [hc] at x0 x1
  rw [List.getElem?_eq_getElem (by omega)] at x0 x1
  obtain ⟨v0, e0, _⟩ := DataW.trod_int he x0
  obtain ⟨v1, e1, _⟩ := DataW.trod_int he x1
  obtain rfl : c0 = .int .i64 v0 := by simpa using e0
  obtain rfl : c1 = .int .i64 v1 := by simpa using e1
  refine ⟨(v0, v1), ⟨h1 0 (by omega), h1 1 (by omega)⟩, ?_⟩
  rw [hy]
  simp [Rows.uptoBulk]
/-- the fields of one relation -/
theorem rel_fields {g u : TypeId} {f0 f1 f2 f3 : Field} {v0 v1 v2 v3 : Value} {n0 n1 n2 n3 : Nat} {y0 y1 y2 y3 : DataW H × List MemPlace} (k0 : P.underlying f0.type = some (.int .u8)) (k1 : P.underlying f1.type = some (.int .i64)) (k2 : P.underlying f2.type = some .bool)
    (k3 : P.underlying f3.type = some (.slice g)) (hg : P.underlying g = some (.array 2 u)) (hgc : P.cellsOf g = 2) (hu : P.underlying u = some (.int .i64)) (huc : P.cellsOf u = 1)
    (r0 : DataW.trod enc P w base sp held n0 f0.type [v0] = some y0) (r1 : DataW.trod enc P w base sp held n1 f1.type [v1] = some y1) (r2 : DataW.trod enc P w base sp held n2 f2.type [v2] = some y2) (r3 : DataW.trod enc P w base sp held n3 f3.type [v3] = some y3) :
    ∃ (r : Rul.Rl) (a : Option Addr) (n c : Nat), v0 = .int .u8 (r.op.toNat : Int) ∧ v1 = .int .i64 r.mod ∧ v2 = .bool r.no ∧ v3 = .slice a n c ∧ SlAt 2 RngC w (.slice a n c) r.rs ∧ r.rs.length + 1 ≤ Rows.uptoBulk y3.1 := by
  obtain ⟨a0, e0, _, w0⟩ := DataW.trod_int k0 r0
  obtain ⟨a1, e1, _⟩ := DataW.trod_int k1 r1
  obtain ⟨a2, e2, _⟩ := DataW.trod_bool k2 r2
  obtain ⟨a, n, c, rs, rfl, hs, hb⟩ := sl_field (C := RngC) (fun _ => 0) k3 hgc (by omega) (fun b off cs n y => rng_el hg hu huc b off cs n y) r3
  obtain rfl : v0 = .int .u8 a0 := by simpa using e0
  obtain rfl : v1 = .int .i64 a1 := by simpa using e1
  obtain rfl : v2 = .bool a2 := by simpa using e2
  have b0 := bounds_u8 w0
  refine ⟨⟨UInt8.ofNat a0.toNat, a1, a2, rs⟩, a, n, c, ?_, rfl, rfl, rfl, hs, by show rs.length + 1 ≤ _; omega⟩
  congr 1
  show a0 = ((UInt8.ofNat a0.toNat).toNat : Int)
  rw [UInt8.toNat_ofNat']
  omega
theorem rel_el {t g u : TypeId} {f0 f1 f2 f3 : Field} (ht : P.underlying t = some (.struct #[f0, f1, f2, f3])) (k0 : P.underlying f0.type = some (.int .u8)) (k1 : P.underlying f1.type = some (.int .i64)) (k2 : P.underlying f2.type = some .bool)
    (k3 : P.underlying f3.type = some (.slice g)) (hg : P.underlying g = some (.array 2 u)) (hgc : P.cellsOf g = 2) (hu : P.underlying u = some (.int .i64)) (huc : P.cellsOf u = 1) (hone : oneCellFields P #[f0, f1, f2, f3] = true)
    (b off : Nat) (cs : List Value) (n : Nat) (y : DataW H × List MemPlace)
    (h1 : ∀ i, i < 4 → w.cell? ⟨b, off + i, none⟩ = cs[i]?) (h2 : cs.length = 4) (h : DataW.trod enc P w base sp held n t cs = some y) : ∃ x : Rul.Rl, RelC w b off x ∧ (fun x : Rul.Rl => x.rs.length) x + 1 ≤ Rows.uptoBulk y.1 := by
  obtain ⟨ys, n', _, hy, _, hyl, hf⟩ := DataW.trod_struct ht h
  obtain ⟨c0, c1, c2, c3, rfl⟩ : ∃ c0 c1 c2 c3, cs = [c0, c1, c2, c3] := by
    match cs, h2 with
    | [c0, c1, c2, c3], _ => exact ⟨c0, c1, c2, c3, rfl⟩
  obtain ⟨y0, y1, y2, y3, rfl⟩ : ∃ a0 a1 a2 a3, ys = [a0, a1, a2, a3] := by
    match ys, hyl with
    | [a0, a1, a2, a3], _ => exact ⟨a0, a1, a2, a3, rfl⟩
  have r0 := hf 0 f0 rfl
  have r1 := hf 1 f1 rfl
  have r2 := hf 2 f2 rfl
  have r3 := hf 3 f3 rfl
  rw [(hone_of hone 0 f0 rfl).1, (hone_of hone 0 f0 rfl).2] at r0
  rw [(hone_of hone 1 f1 rfl).1, (hone_of hone 1 f1 rfl).2] at r1
  rw [(hone_of hone 2 f2 rfl).1, (hone_of hone 2 f2 rfl).2] at r2
  rw [(hone_of hone 3 f3 rfl).1, (hone_of hone 3 f3 rfl).2] at r3
  obtain ⟨r, a, n, c, rfl, rfl, rfl, rfl, hs, hb⟩ := rel_fields k0 k1 k2 k3 hg hgc hu huc (v0 := c0) (v1 := c1) (v2 := c2) (v3 := c3) r0 r1 r2 r3
  refine ⟨r, ⟨a, n, c, h1 0 (by omega), h1 1 (by omega), h1 2 (by omega), h1 3 (by omega), hs⟩, ?_⟩
  rw [hy]
  simp only [List.map_cons, List.map_nil, Rows.uptoBulk, Rows.uptoBulkAll]
  omega
theorem part_el {t e g u : TypeId} {f0 f1 f2 f3 : Field} (hp : P.underlying t = some (.slice e)) (ht : P.underlying e = some (.struct #[f0, f1, f2, f3])) (hC : P.cellsOf e = 4) (k0 : P.underlying f0.type = some (.int .u8)) (k1 : P.underlying f1.type = some (.int .i64)) (k2 : P.underlying f2.type = some .bool)
    (k3 : P.underlying f3.type = some (.slice g)) (hg : P.underlying g = some (.array 2 u)) (hgc : P.cellsOf g = 2) (hu : P.underlying u = some (.int .i64)) (huc : P.cellsOf u = 1) (hone : oneCellFields P #[f0, f1, f2, f3] = true)
    (b off : Nat) (cs : List Value) (n : Nat) (y : DataW H × List MemPlace)
    (h1 : ∀ i, i < 1 → w.cell? ⟨b, off + i, none⟩ = cs[i]?) (h2 : cs.length = 1) (h : DataW.trod enc P w base sp held n t cs = some y) : ∃ x : List Rul.Rl, PartC w b off x ∧ (fun x : List Rul.Rl => (x.map fun r => r.rs.length).sum + x.length) x + 1 ≤ Rows.uptoBulk y.1 := by
  obtain ⟨c0, rfl⟩ : ∃ c0, cs = [c0] := by
    match cs, h2 with
    | [c0], _ => exact ⟨c0, rfl⟩
  obtain ⟨a, n, c, l, rfl, hs, hb⟩ := sl_field (C := RelC) (fun x : Rul.Rl => x.rs.length) hp hC (by omega) (fun b off cs n y => rel_el ht k0 k1 k2 k3 hg hgc hu huc hone b off cs n y) h
  exact ⟨l, ⟨a, n, c, h1 0 (by omega), hs⟩, hb⟩
theorem rule_open {fuel : Nat} {s t e g u : TypeId} {f0 f1 f2 f3 : Field} (hq : P.underlying s = some (.slice t)) (htc : P.cellsOf t = 1) (hp : P.underlying t = some (.slice e)) (ht : P.underlying e = some (.struct #[f0, f1, f2, f3])) (hC : P.cellsOf e = 4) (k0 : P.underlying f0.type = some (.int .u8)) (k1 : P.underlying f1.type = some (.int .i64)) (k2 : P.underlying f2.type = some .bool)
    (k3 : P.underlying f3.type = some (.slice g)) (hg : P.underlying g = some (.array 2 u)) (hgc : P.cellsOf g = 2) (hu : P.underlying u = some (.int .i64)) (huc : P.cellsOf u = 1) (hone : oneCellFields P #[f0, f1, f2, f3] = true)
    {a : Option Addr} {n c : Nat} {d : DataW H} {p : List MemPlace} (h : DataW.trod enc P w base sp held fuel s (Value.slice a n c).cells.toList = some (d, p)) :
    ∃ r : Rul.Rule, SlAt 1 PartC w (.slice a n c) r ∧ r.length ≤ Rows.uptoBulk d ∧ Rul.count r ≤ Rows.uptoBulk d ∧ Rul.mass r ≤ Rows.uptoBulk d ∧ ∀ l ∈ r, ∀ x ∈ l, x.rs.length ≤ Rows.uptoBulk d := by
  obtain ⟨r, h1, h2⟩ := sl_open (C := PartC) (fun x : List Rul.Rl => (x.map fun r => r.rs.length).sum + x.length) hq htc (by omega) (fun b off cs n y => part_el hp ht hC k0 k1 k2 k3 hg hgc hu huc hone b off cs n y) h
  have key : ∀ q : Rul.Rule, Rul.count q + Rul.mass q ≤ (q.map fun x : List Rul.Rl => (x.map fun r => r.rs.length).sum + x.length).sum ∧ ∀ l ∈ q, ∀ x ∈ l, x.rs.length ≤ (q.map fun x : List Rul.Rl => (x.map fun r => r.rs.length).sum + x.length).sum := by
    intro q
    induction q with
    | nil => exact ⟨by simp [Rul.count, Rul.mass], fun l hl => by simp at hl⟩
    | cons a q ih =>
      refine ⟨?_, fun l hl x hx => ?_⟩
      · have := ih.1
        unfold Rul.count Rul.mass at *
        simp only [List.map_cons, List.sum_cons]
        omega
      · simp only [List.map_cons, List.sum_cons]
        rcases List.mem_cons.1 hl with rfl | hl
        · have : x.rs.length ≤ (l.map fun r => r.rs.length).sum := by
            clear ih hl
            induction l with
            | nil => simp at hx
            | cons z l ih2 =>
              rcases List.mem_cons.1 hx with rfl | hx
              · simp
              · have := ih2 hx; simp; omega
          omega
        · have := ih.2 l hl x hx
          omega
  obtain ⟨q1, q2⟩ := key r
  exact ⟨r, h1, by omega, by omega, by omega, fun l hl x hx => by have := q2 l hl x hx; omega⟩
end
end Go.Proofs.YtaijjffnamjhiaaGreatDoor
namespace Go.Proofs.YtaijjffnamjhiaaGreatDoor
open Go.RowKit

theorem gPowT : (Tryz.prog.globals[8]?).map (·.type) = some 276 := by kernel_rfl
theorem cellsPow : Tryz.prog.cellsOf 276 = 20 := by kernel_rfl
theorem cellsU64 : Tryz.prog.cellsOf 144 = 1 := by kernel_rfl
theorem powW_of {L : List (String × DataW Unit)} {W : World} (h : laidMetH Tryz.prog L W) (hf : L.filter (fun x => x.1 == "internal/strconv.uint64pow10") = [("internal/strconv.uint64pow10", Rows.laid_internal_strconv_uint64pow10)]) : PowW W := by
  have g := laidMetH.filter (fun x => x.1 == "internal/strconv.uint64pow10") h
  rw [hf, MakeChecks.laidMetH_plain _ _ _ (by kernel_rfl)] at g
  exact Lib.tabIs_of_head gPow gPowT Tryz.underlying276 Tryz.underlying144 cellsU64 cellsPow g
end Go.Proofs.YtaijjffnamjhiaaGreatDoor
namespace Go.Proofs.YtaijjffnamjhiaaGreatDoor
open Go.ChangeShapes Go.WideShapes Go.RowKit Go.Joins Go.Deep

section
variable {H : Type} {enc : TypeId × Value → H} {P : Program} {w : World} {base : Nat} {spare : Nat → Bool} {held : Bool}
theorem open_agg5 {r : Reach} {b0 : Nat} {t : TypeId} {f0 f1 f2 f3 f4 : Field} {v : Value} {d : DataW H} {p : List MemPlace} (hs : P.underlying t = some (.struct #[f0, f1, f2, f3, f4])) (hone : oneCellFields P #[f0, f1, f2, f3, f4] = true) (hC : P.cellsOf t = 5)
    (hv : Value.okWide P w r b0 t v) (h : DataW.Trod enc P w base spare held t v d p) :
    ∃ (v0 v1 v2 v3 v4 : Value) (y0 y1 y2 y3 y4 : DataW H × List MemPlace) (n : Nat), v = .agg #[v0, v1, v2, v3, v4] ∧ d = .agg [y0.1, y1.1, y2.1, y3.1, y4.1] ∧ p = y0.2 ++ (y1.2 ++ (y2.2 ++ (y3.2 ++ y4.2))) ∧
      DataW.trod enc P w base spare held n f0.type [v0] = some y0 ∧ DataW.trod enc P w base spare held n f1.type [v1] = some y1 ∧ DataW.trod enc P w base spare held n f2.type [v2] = some y2 ∧ DataW.trod enc P w base spare held n f3.type [v3] = some y3 ∧ DataW.trod enc P w base spare held n f4.type [v4] = some y4 := by
  obtain ⟨cs, rfl, hsz⟩ := okWide_struct hs hv
  obtain ⟨c0, c1, c2, c3, c4, rfl⟩ : ∃ c0 c1 c2 c3 c4, cs = #[c0, c1, c2, c3, c4] := by
    obtain ⟨l⟩ := cs
    match l, hsz.trans hC with
    | [c0, c1, c2, c3, c4], _ => exact ⟨c0, c1, c2, c3, c4, rfl⟩
  obtain ⟨fuel, hf⟩ := h
  obtain ⟨xs, n, _, hx, _, hlen, hg⟩ := DataW.trod_struct hs hf
  obtain ⟨y0, y1, y2, y3, y4, rfl⟩ : ∃ y0 y1 y2 y3 y4, xs = [y0, y1, y2, y3, y4] := by
    match xs, hlen with
    | [y0, y1, y2, y3, y4], _ => exact ⟨y0, y1, y2, y3, y4, rfl⟩
  obtain ⟨o0, k0⟩ := hone_of hone 0 f0 rfl
  obtain ⟨o1, k1⟩ := hone_of hone 1 f1 rfl
  obtain ⟨o2, k2⟩ := hone_of hone 2 f2 rfl
  obtain ⟨o3, k3⟩ := hone_of hone 3 f3 rfl
  obtain ⟨o4, k4⟩ := hone_of hone 4 f4 rfl
  have h0 := hg 0 f0 rfl
  have h1 := hg 1 f1 rfl
  have h2 := hg 2 f2 rfl
  have h3 := hg 3 f3 rfl
  have h4 := hg 4 f4 rfl
  simp only [Prod.mk.injEq] at hx
  exact ⟨c0, c1, c2, c3, c4, y0, y1, y2, y3, y4, n, rfl, by simpa using hx.1, by simpa using hx.2, by simpa [Value.cells, o0, k0] using h0, by simpa [Value.cells, o1, k1] using h1, by simpa [Value.cells, o2, k2] using h2, by simpa [Value.cells, o3, k3] using h3, by simpa [Value.cells, o4, k4] using h4⟩
end
end Go.Proofs.YtaijjffnamjhiaaGreatDoor
namespace Go.Proofs.YtaijjffnamjhiaaGreatDoor
theorem laidMet_over {P : Program} {W : World} {L : List (String × DataW Unit)} (args : Array Value) (hf : W.layFits P L [] = true) (hi : W.layIfaces P L (W.layVars P L) = true) :
    laidMet P L ((W.layVars P L).forCall (fun _ _ => 0) ⟨#[], args, []⟩).memory := by
  have e1 : (L.filter fun x => (L.map (·.1)).contains x.1) = L := List.filter_eq_self.2 fun x hx => List.contains_iff_mem.2 (List.mem_map.2 ⟨x, hx, rfl⟩)
  have e2 : (L.filter fun x => !(L.map (·.1)).contains x.1) = [] := List.filter_eq_nil_iff.2 fun x hx => by rw [List.contains_iff_mem.2 (List.mem_map.2 ⟨x, hx, rfl⟩)]; simp
  have h : laidMet P L (W.layVars P L) := laidMet_layVars (w0 := W) (L.map (·.1)) [] (by rw [e1]) (by rw [e1]; exact hf) (by rw [e1]; exact hi) (by rw [e2]; exact LaidIn.none)
  exact h.of_heap (by simp [World.memory, World.forCall, Input.heap])
end Go.Proofs.YtaijjffnamjhiaaGreatDoor
namespace Go.Proofs.YtaijjffnamjhiaaGreatDoor
open Go.RowKit

theorem hanEt : Tryz.prog.globalNamed "errors.errorType" = some 1 := by kernel_rfl
theorem hanRt : (Tryz.prog.cutTypes.find? (·.1 == "internal/reflectlite.rtype")).map (·.2) = some 234 := by kernel_rfl
theorem hanOne : ((List.range 313).filter fun t => Tryz.prog.rowNamed t [101, 114, 114, 111, 114]) = [25] := by kernel_rfl
theorem hanSize : Tryz.prog.types.size = 313 := by kernel_rfl
theorem hanW_of {L : List (String × DataW Unit)} {W : World} (hm : ("errors.errorType", Rows.laid_errors_errorType) ∈ L) (h : laidMetH Tryz.prog L W) : HanW W := by
  have hf : ("errors.errorType", Rows.laid_errors_errorType) ∈ L.filter (fun x => x.snd.handleName?.isSome) := List.mem_filter.2 ⟨hm, rfl⟩
  unfold laidMetH at h
  split at h
  · rename_i hE; rw [hE] at hf; cases hf
  rename_i hE
  rw [hE] at hf
  obtain ⟨name, u, ty, e1, e2, e3, e4, e5⟩ := h.2 _ hf
  have en : name = [101, 114, 114, 111, 114] := (Option.some.inj e1).symm
  subst en
  obtain rfl := Option.some.inj (hanRt.symm.trans e2)
  have hm : ty ∈ (List.range 313).filter fun t => Tryz.prog.rowNamed t [101, 114, 114, 111, 114] := List.mem_filter.2 ⟨List.mem_range.2 (by rw [← hanSize]; exact e3), e4⟩
  rw [hanOne] at hm
  obtain rfl := List.mem_singleton.1 hm
  have hh : typeHandle Tryz.prog 25 = .pointer (some ⟨11, 25, none⟩) := by kernel_rfl
  rw [hh] at e5
  simpa [HanW] using World.var?_cell hanEt e5 0
end Go.Proofs.YtaijjffnamjhiaaGreatDoor
namespace Go.Proofs.YtaijjffnamjhiaaGreatDoor.lawRuleTells
open Go.ChangeShapes Go.WideShapes Go.ChangeAt Go.RowKit Go.Joins

theorem own : ownKnob Tryz.prog.godebug = none := by kernel_rfl
theorem laidOut : laidOutB Tryz.prog = true := by kernel_rfl
theorem cellsRel : Tryz.prog.cellsOf 106 = 4 := by kernel_rfl
theorem cellsOps : Tryz.prog.cellsOf 45 = 5 := by kernel_rfl

set_option maxRecDepth 100000 in
theorem contract (H : Type) (enc : TypeId × Value → H) (W : World) (base : Nat) (args : Array Value) (ds gs : List (DataW H)) (before : List MemPlace)
    (hval : ∀ (j : Nat) t v, Tryz.f5.params[j]? = some t → args[j]? = some v → Value.okWide Tryz.prog W .any base t v)
    (hW : DataW.Whole enc Tryz.prog Tryz.f5.params.toList Rows.ruleTellsSpec.vars false W args.toList ds gs before) (hk : Rows.uptoSmall H (ds ++ gs) = true) (hL : laidMetH Tryz.prog Rows.ruleTellsUptoRow.laid W) (hS : W.ShapedOpen Tryz.prog) :
    Calls Tryz.prog 5 args W fun e W' => ∃ v, e = .returned v ∧ Rows.ruleTellsSpec.post enc Tryz.prog Tryz.f5 false true false false W args v W' := by
  have hpost : ∀ W', Below W.heap.size W W' → Rows.ruleTellsSpec.post enc Tryz.prog Tryz.f5 false true false false W args (.bool true) W' := fun W' hb =>
    law_post (tb := 4) laidOut rfl Tryz.underlying4 rfl (by kernel_rfl) (fun ds h => by match ds, h with | [x0, x1, x2], _ => rfl) hW hb
  obtain ⟨p, q, hA0, hV, _, hfz, hnd⟩ := hW
  have hA : DataW.TrodAll enc Tryz.prog W 0 (fun _ => true) true Tryz.f5.params.toList args.toList ds p := hA0
  obtain ⟨rfl, rfl⟩ := trodVars_none hV
  rw [Tryz.params5] at hA hval
  obtain ⟨v0, vs0, d0, ds0, p0, q0, hargs, rfl, hp0, h0, r0⟩ := trodAll_cons hA
  obtain ⟨v1, vs1, d1, ds1, p1, q1, rfl, rfl, hp1, h1, r1⟩ := trodAll_cons r0
  obtain ⟨v2, vs2, d2, ds2, p2, q2, rfl, rfl, hp2, h2, r2⟩ := trodAll_cons r1
  obtain ⟨rfl, rfl, hp⟩ := trodAll_nil r2
  obtain rfl : args = #[v0, v1, v2] := by cases args; simp_all
  obtain ⟨r_a, r_n, r_c, rfl⟩ := okWide_slice Tryz.underlying43 (hval 0 43 v0 rfl rfl)
  obtain ⟨r_f, r_h⟩ := h0
  obtain ⟨r, r_at, r_len, r_cnt, r_mass, r_rs⟩ := rule_open Tryz.underlying43 (by kernel_rfl) Tryz.underlying102 Tryz.underlying106 cellsRel Tryz.underlying5 Tryz.underlying3 Tryz.underlying4 Tryz.underlying104 Tryz.underlying165 (by kernel_rfl) Tryz.underlying3 (by kernel_rfl) (by kernel_rfl) r_h
  obtain ⟨s, rfl, rfl, rfl, w_s⟩ := ChangeMaps.open_string Tryz.underlying9 (hval 1 9 v1 rfl rfl) h1
  obtain ⟨c2_0, c2_1, c2_2, c2_3, c2_4, y2_0, y2_1, y2_2, y2_3, y2_4, m2, rfl, rfl, rfl, hy2_0, hy2_1, hy2_2, hy2_3, hy2_4⟩ := open_agg5 Tryz.underlying45 (by kernel_rfl) cellsOps (hval 2 45 v2 rfl rfl) h2
  obtain ⟨o_i, e2_0, _, w_o_i⟩ := DataW.trod_int Tryz.underlying3 hy2_0
  obtain ⟨o_v, e2_1, _, w_o_v⟩ := DataW.trod_int Tryz.underlying3 hy2_1
  obtain ⟨o_w, e2_2, _, w_o_w⟩ := DataW.trod_int Tryz.underlying3 hy2_2
  obtain ⟨o_f, e2_3, _, w_o_f⟩ := DataW.trod_int Tryz.underlying3 hy2_3
  obtain ⟨o_t, e2_4, _, w_o_t⟩ := DataW.trod_int Tryz.underlying3 hy2_4
  simp at e2_0 e2_1 e2_2 e2_3 e2_4
  subst e2_0 e2_1 e2_2 e2_3 e2_4
  have b_o_i := bounds_i64 w_o_i
  have b_o_v := bounds_i64 w_o_v
  have b_o_w := bounds_i64 w_o_w
  have b_o_f := bounds_i64 w_o_f
  have b_o_t := bounds_i64 w_o_t
  clear hA0 hfz hnd hval
  have hm : MaxW W := Go.Proofs.cell_of_shapedOpen_int (zero := #[.int .i64 0]) (t := 3) hS (of_decide_eq_true (by kernel_rfl)) (by kernel_rfl) rfl (by kernel_rfl) (by kernel_rfl) Tryz.underlying3
  have hT : TR W := ⟨powW_of hL (by kernel_rfl), numW_of hL (by kernel_rfl) (by kernel_rfl), hm⟩
  have hH : HanW W := hanW_of (by repeat (first | exact List.Mem.head _ | refine List.Mem.tail _ ?_)) hL
  have hq : Rows.uptoBulkAll _ ≤ 1048576 := of_decide_eq_true hk
  simp only [List.append_nil, Rows.uptoBulkAll, Rows.uptoBulk, Array.length_toList] at hq
  have hz : ∀ x : ByteArray, x.data.size = x.size := fun _ => rfl
  rw [hz] at hq
  have hsz : s.size ≤ 1048576 := by omega
  refine Calls.mono (?_ : Calls Tryz.prog 5 #[.slice r_a r_n r_c, .string s, .agg #[.int .i64 o_i, .int .i64 o_v, .int .i64 o_w, .int .i64 o_f, .int .i64 o_t]] W fun e w' => e = .returned (.bool true) ∧ Below W.heap.size W w') fun e W' ⟨he, hb⟩ => ⟨_, he, hpost W' hb⟩
  obtain ⟨l, rfl⟩ : ∃ l : List UInt8, s = ⟨l.toArray⟩ := ⟨s.data.toList, rfl⟩
  rw [size_mkl] at hsz
  exact ruletells_any r r_a r_n r_c l o_i o_v o_w o_f o_t W hT hH r_at (by omega) (by omega) (fun l hl x hx => by have := r_rs l hl x hx; omega) hsz

theorem start_met (os : Os) : laidMetH Tryz.prog Rows.ruleTellsUptoRow.laid (((World.doorLaid Tryz.prog 89 os).layVars Tryz.prog (Rows.ruleTellsUptoRow.laid.filter fun x => x.2.handleName?.isNone)).forCall (fun _ _ => 0) ⟨#[], #[.slice none 0 0, .string ⟨#[]⟩, .agg #[.int .i64 0, .int .i64 0, .int .i64 0, .int .i64 0, .int .i64 0]], []⟩).memory :=
  laidMetH_of_parts3 (fuel := 8) (laidMet_over _ (by kernel_rfl) (by kernel_rfl)) (by kernel_rfl) (by kernel_rfl)
theorem start_reads (os : Os) {H : Type} (enc : TypeId × Value → H) : ∃ places, DataW.whole enc Tryz.prog (((World.doorLaid Tryz.prog 89 os).layVars Tryz.prog (Rows.ruleTellsUptoRow.laid.filter fun x => x.2.handleName?.isNone)).forCall (fun _ _ => 0) ⟨#[], #[.slice none 0 0, .string ⟨#[]⟩, .agg #[.int .i64 0, .int .i64 0, .int .i64 0, .int .i64 0, .int .i64 0]], []⟩).memory Tryz.f5.params.toList Rows.ruleTellsSpec.vars false (#[.slice none 0 0, .string ⟨#[]⟩, .agg #[.int .i64 0, .int .i64 0, .int .i64 0, .int .i64 0, .int .i64 0]] : Array Value).toList 8 = some ([.nil, .lit (.string []), .agg [.lit (.int .i64 0), .lit (.int .i64 0), .lit (.int .i64 0), .lit (.int .i64 0), .lit (.int .i64 0)]], [], places) :=
  ⟨[], by kernel_rfl⟩

set_option maxRecDepth 100000 in
theorem lifted (os : Os) (started : os.Started) (H : Type) (enc : TypeId × Value → H) (F : Stop.Interp) :
    ReturnsInHanded {} Tryz.checked os 5 .any ((Rows.OpenSpec.upto Rows.ruleTellsSpec).preRow enc Tryz.prog Tryz.f5 Rows.ruleTellsUptoRow.domain false Rows.ruleTellsUptoRow.laid) (((Rows.OpenSpec.upto Rows.ruleTellsSpec).at F).post enc Tryz.prog Tryz.f5 false true false false) := by
  obtain ⟨places, hx⟩ := start_reads os enc
  refine returnsInHanded_of_row (C := Tryz.checked) (s := Rows.OpenSpec.upto Rows.ruleTellsSpec) own started (by kernel_rfl) Tryz.func5
    (witness_row_atRef (enc := enc) (C := Tryz.checked) false ((World.doorLaid Tryz.prog 89 os).layVars Tryz.prog (Rows.ruleTellsUptoRow.laid.filter fun x => x.2.handleName?.isNone)) #[.slice none 0 0, .string ⟨#[]⟩, .agg #[.int .i64 0, .int .i64 0, .int .i64 0, .int .i64 0, .int .i64 0]] (World.layVars_os _ _ _) (by kernel_rfl) (by kernel_rfl) (by kernel_rfl)
      (OpenSpec.preRow_of_cond 8 hx (by kernel_rfl) (fun k hk => by cases hk; kernel_rfl) (by kernel_rfl) (start_met os))) ?_
  intro W base args ds gs before hval hW _ hcond _ hL hS _
  exact contract H enc W base args ds gs before hval hW (hcond _ rfl) hL hS

theorem said : Rows.RuleTellsUptoSaid :=
  OpenClaim.holds_of_cond 5 Tryz.f5 rfl rfl rfl rfl rfl rfl rfl ⟨rfl, rfl, rfl, rfl, rfl⟩ rfl rfl rfl rfl rfl (by kernel_rfl) Tryz.func5 (by kernel_rfl)
    (of_decide_eq_true (by kernel_rfl)) (by unfold Func.isWrapper; first | (rw [if_pos (by decide +kernel)]; kernel_rfl) | (rw [if_neg (by decide +kernel)]; exact ⟨rfl, rfl⟩))
    (fun os started H enc _ F => by rw [OpenClaim.pre_eq_preRow]; exact lifted os started H enc F)

theorem plain (f : FuncId) (fn : Func) (hf : Tryz.pinned.checked.prog.funcNamed "linguister/linguisterlaw1.RuleTells" = some f) (hfn : Tryz.pinned.checked.prog.funcs[f]? = some fn) :
    true = Tryz.pinned.checked.prog.looks [] ∧ ∀ (j : Nat) t, fn.params[j]? = some t → Tryz.pinned.checked.prog.wantsStandIn t = false := by
  obtain rfl : f = 5 := Option.some.inj ((show Tryz.prog.funcNamed "linguister/linguisterlaw1.RuleTells" = some 5 by kernel_rfl).symm.trans hf) |>.symm
  obtain rfl : fn = Tryz.f5 := (Option.some.inj (Tryz.func5.symm.trans hfn)).symm
  refine ⟨by kernel_rfl, fun j t ht => ?_⟩
  rw [Tryz.params5] at ht
  have hm : t ∈ [43, 9, 45] := by simpa using Array.mem_of_getElem? ht
  have hall : ([43, 9, 45].all fun u => !Tryz.prog.wantsStandIn u) = true := by kernel_rfl
  exact (show Tryz.prog.wantsStandIn t = false by simpa using List.all_eq_true.1 hall t hm)

theorem proved : Rows.RuleTellsUptoCardSaid :=
  Claim7.holds_tied_plain_at .later [] _ _ _ _ said (fun _ h => by cases h) (by kernel_rfl) (fun _ h => by cases h) ruleTellsUpto_row_tie rfl ⟨rfl, rfl⟩ (by kernel_rfl) rfl plain (by kernel_rfl)
#print axioms proved
end Go.Proofs.YtaijjffnamjhiaaGreatDoor.lawRuleTells
