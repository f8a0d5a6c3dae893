/- The law RuleParts, proved where what it reads is of bulk at most 1048576: the call returns true of every input, and turns nothing that was there. Conditions: the row's own (the listed variables hold what the program's text lays; the card ties them). -/
import Derived.Test.YtoglgcjdjbjlmaaDoorBox
import Derived.Stop.Joined
import Derived.Lib.SmallJoins
import Derived.OpenShut
import Derived.Test.YtoglgcjdjbjlmaaDoorRulFine
import Derived.Test.YtoglgcjdjbjlmaaDoorHeld
import Derived.OwnWalk
import Derived.Laws.StructEq
import Derived.Test.YtoglgcjdjbjlmaaDoorRparse
import Derived.Test.YtoglgcjdjbjlmaaDoorRows
import Derived.Test.YtoglgcjdjbjlmaaDoorRulAt
import Derived.Test.YtoglgcjdjbjlmaaDoorRulQ
import Derived.Deep.Slices
import Derived.Deep.Fields
import Derived.ChangeSame
import Derived.Test.YtoglgcjdjbjlmaaDoorItoa
import Derived.LaidSub
import Derived.MakeChecks
import Derived.WalkKit
import Derived.MapKept
import Derived.Test.YtoglgcjdjbjlmaaDoorRulFind
import Derived.Test.YtoglgcjdjbjlmaaDoorBoxS
import Derived.Lib.Hide
import Derived.Test.YtoglgcjdjbjlmaaDoorRchk
import Derived.Test.YtoglgcjdjbjlmaaDoorCards
import Derived.Test.YtoglgcjdjbjlmaaDoorTie
import Derived.Deep.DeepHandedRow
import Derived.Deep.DeepWitnessRowRef
import Derived.Lay
import Derived.Test.YtoglgcjdjbjlmaaDoorFrame
namespace Go.Proofs.YtoglgcjdjbjlmaaDoor
open Go.ChangeShapes Go.WideShapes Go.RowKit Go.Joins Go.Deep

section
variable {H : Type} {enc : TypeId × Value → H} {P : Program} {w : World} {base : Nat} {spare : Nat → Bool} {held : Bool}
theorem open_agg5 {r : Reach} {b0 : Nat} {t : TypeId} {f0 f1 f2 f3 f4 : Field} {v : Value} {d : DataW H} {p : List MemPlace} (hs : P.underlying t = some (.struct #[f0, f1, f2, f3, f4])) (hone : oneCellFields P #[f0, f1, f2, f3, f4] = true) (hC : P.cellsOf t = 5)
    (hv : Value.okWide P w r b0 t v) (h : DataW.Trod enc P w base spare held t v d p) :
    ∃ (v0 v1 v2 v3 v4 : Value) (y0 y1 y2 y3 y4 : DataW H × List MemPlace) (n : Nat), v = .agg #[v0, v1, v2, v3, v4] ∧ d = .agg [y0.1, y1.1, y2.1, y3.1, y4.1] ∧ p = y0.2 ++ (y1.2 ++ (y2.2 ++ (y3.2 ++ y4.2))) ∧
      DataW.trod enc P w base spare held n f0.type [v0] = some y0 ∧ DataW.trod enc P w base spare held n f1.type [v1] = some y1 ∧ DataW.trod enc P w base spare held n f2.type [v2] = some y2 ∧ DataW.trod enc P w base spare held n f3.type [v3] = some y3 ∧ DataW.trod enc P w base spare held n f4.type [v4] = some y4 := by
  obtain ⟨cs, rfl, hsz⟩ := okWide_struct hs hv
  obtain ⟨c0, c1, c2, c3, c4, rfl⟩ : ∃ c0 c1 c2 c3 c4, cs = #[c0, c1, c2, c3, c4] := by
    obtain ⟨l⟩ := cs
    match l, hsz.trans hC with
    | [c0, c1, c2, c3, c4], _ => exact ⟨c0, c1, c2, c3, c4, rfl⟩
  obtain ⟨fuel, hf⟩ := h
  obtain ⟨xs, n, _, hx, _, hlen, hg⟩ := DataW.trod_struct hs hf
  obtain ⟨y0, y1, y2, y3, y4, rfl⟩ : ∃ y0 y1 y2 y3 y4, xs = [y0, y1, y2, y3, y4] := by
    match xs, hlen with
    | [y0, y1, y2, y3, y4], _ => exact ⟨y0, y1, y2, y3, y4, rfl⟩
  obtain ⟨o0, k0⟩ := hone_of hone 0 f0 rfl
  obtain ⟨o1, k1⟩ := hone_of hone 1 f1 rfl
  obtain ⟨o2, k2⟩ := hone_of hone 2 f2 rfl
  obtain ⟨o3, k3⟩ := hone_of hone 3 f3 rfl
  obtain ⟨o4, k4⟩ := hone_of hone 4 f4 rfl
  have h0 := hg 0 f0 rfl
  have h1 := hg 1 f1 rfl
  have h2 := hg 2 f2 rfl
  have h3 := hg 3 f3 rfl
  have h4 := hg 4 f4 rfl
  simp only [Prod.mk.injEq] at hx
  exact ⟨c0, c1, c2, c3, c4, y0, y1, y2, y3, y4, n, rfl, by simpa using hx.1, by simpa using hx.2, by simpa [Value.cells, o0, k0] using h0, by simpa [Value.cells, o1, k1] using h1, by simpa [Value.cells, o2, k2] using h2, by simpa [Value.cells, o3, k3] using h3, by simpa [Value.cells, o4, k4] using h4⟩
end
end Go.Proofs.YtoglgcjdjbjlmaaDoor
namespace Go.Proofs.YtoglgcjdjbjlmaaDoor
open Go.RowKit

/-- only draws -/
def Drew (w w' : World) : Prop := ∃ n, w' = w.drewN n
theorem Drew.refl (w : World) : Drew w w := ⟨0, rfl⟩
theorem drewN_drewN (w : World) (a b : Nat) : (w.drewN a).drewN b = w.drewN (a + b) := by
  induction b with
  | zero => rfl
  | succ b ih => show ((w.drewN a).drewN b).drew = (w.drewN (a + b)).drew; rw [ih]
theorem Drew.drewN {w w' : World} (h : Drew w w') (n : Nat) : Drew w (w'.drewN n) := by
  obtain ⟨a, rfl⟩ := h
  exact ⟨a + n, drewN_drewN w a n⟩
theorem Drew.drew {w w' : World} (h : Drew w w') : Drew w w'.drew := h.drewN 1
theorem Drew.below {w w' : World} (h : Drew w w') : Below w.heap.size w w' := by
  obtain ⟨a, rfl⟩ := h
  exact blw_drewN (Below.refl _ _) a
end Go.Proofs.YtoglgcjdjbjlmaaDoor
namespace Go.Proofs.YtoglgcjdjbjlmaaDoor
open Go.RowKit

theorem eq_rng (a b : Int) (w : World) : (Op.equalIn 10000 84 (.agg #[.int .i64 a, .int .i64 b]) (.agg #[.int .i64 a, .int .i64 b])).run Tryd.prog w = .ok true w := by
  have u3 := Tryd.underlying3
  have a3 := Tryd.isAgg3
  have z3 := Tryd.sizeOf3
  rw [show (10000 : Nat) = 9999 + 1 from rfl, Op.equalIn]
  simp only [Sem.run_bind, run_underlying Tryd.underlying84, Result.andThen_ok]
  simp only [Std.Legacy.Range.forIn_eq_forIn_range', Std.Legacy.Range.size, Nat.sub_zero, Nat.add_sub_cancel, Nat.div_one, List.range'_succ, List.range'_zero, List.forIn_cons, List.forIn_nil]
  go_simp

set_option maxRecDepth 100000 in
set_option maxHeartbeats 2000000 in
theorem srel_none (op mod : Int) (no : Bool) (a a' : Option Addr) (c c' : Nat) (w : World) :
    Calls Tryd.prog 29 #[.agg #[.int .u8 op, .int .i64 mod, .bool no, .slice a 0 c], .agg #[.int .u8 op, .int .i64 mod, .bool no, .slice a' 0 c']] w fun e w' => e = .returned (.bool true) ∧ Below w.heap.size w w' := by
  have W2 := Lib.hid ((blw_alloc w (.cells #[.int .u8 op, .int .i64 mod, .bool no, .slice a 0 c] 60)).alloc (by simp) (.cells #[.int .u8 op, .int .i64 mod, .bool no, .slice a' 0 c'] 60))
  go_enter Tryd.func29, Tryd.ntmps29
  go_wp2_with fail
  refine wp_loop_rounds 1 ?_
  rw [rounds_succ]
  go_wp2_with fail
  go_ret
  exact ⟨rfl, W2.out⟩
set_option maxRecDepth 100000 in
set_option maxHeartbeats 2000000 in
theorem srel_some (rs : List (Int × Int)) (op mod : Int) (no : Bool) (b b' off off' cap cap' n : Nat) (w : World) (hn : rs.length = n) (hm : n ≤ 9223372036854775807) (hc : ∀ (j : Nat) x, rs[j]? = some x → RngC w b (off + j * 2) x) (hc' : ∀ (j : Nat) x, rs[j]? = some x → RngC w b' (off' + j * 2) x) :
    Calls Tryd.prog 29 #[.agg #[.int .u8 op, .int .i64 mod, .bool no, .slice (some ⟨b, off, none⟩) n cap], .agg #[.int .u8 op, .int .i64 mod, .bool no, .slice (some ⟨b', off', none⟩) n cap']] w fun e w' => e = .returned (.bool true) ∧ Below w.heap.size w w' := by
  have W2 := Lib.hid ((blw_alloc w (.cells #[.int .u8 op, .int .i64 mod, .bool no, .slice (some ⟨b, off, none⟩) n cap] 60)).alloc (by simp) (.cells #[.int .u8 op, .int .i64 mod, .bool no, .slice (some ⟨b', off', none⟩) n cap'] 60))
  have HC := Lib.hid hc
  have HC' := Lib.hid hc'
  have HN := Lib.hid hn
  clear hc hc' hn
  go_enter Tryd.func29, Tryd.ntmps29
  go_wp2_with fail
  have B2 := Lib.hid ((Boxed.made w #[.int .u8 op, .int .i64 mod, .bool no, .slice (some ⟨b, off, none⟩) n cap] 60).alloc (.cells #[.int .u8 op, .int .i64 mod, .bool no, .slice (some ⟨b', off', none⟩) n cap'] 60))
  have B3 := Lib.hid (Boxed.made (w.alloc (.cells #[.int .u8 op, .int .i64 mod, .bool no, .slice (some ⟨b, off, none⟩) n cap] 60)) #[.int .u8 op, .int .i64 mod, .bool no, .slice (some ⟨b', off', none⟩) n cap'] 60)
  simp only [World.size_alloc] at B3
  generalize (w.alloc (.cells #[.int .u8 op, .int .i64 mod, .bool no, .slice (some ⟨b, off, none⟩) n cap] 60)).alloc (.cells #[.int .u8 op, .int .i64 mod, .bool no, .slice (some ⟨b', off', none⟩) n cap'] 60) = v at *
  go_loopw [5] (fun i wr => ∃ k : Nat, i = .int .i64 k ∧ k ≤ n ∧ Hid (Drew v wr)) (fun i _ => n - (RowKit.intOf i).toNat)
  case atStart => exact ⟨0, rfl, Nat.zero_le _, Drew.refl _⟩
  case round =>
    obtain ⟨k, rfl, hk, HD⟩ := hrel
    have K3 := (B2.out.below HD.out.below).cell 3 _ rfl
    have J3 := (B3.out.below HD.out.below).cell 3 _ rfl
    by_cases hlt : k < n
    · obtain ⟨x, hx⟩ : ∃ x, rs[k]? = some x := ⟨rs[k]'(by have := HN.out; omega), List.getElem?_eq_getElem (by have := HN.out; omega)⟩
      have x0 := cell_keep (cell_keep (HC.out k x hx).1 W2.out) HD.out.below
      have x1 := cell_keep (cell_keep (HC.out k x hx).2 W2.out) HD.out.below
      have y0 := cell_keep (cell_keep (HC'.out k x hx).1 W2.out) HD.out.below
      have y1 := cell_keep (cell_keep (HC'.out k x hx).2 W2.out) HD.out.below
      have EQ := fun w => eq_rng x.1 x.2 w
      clear hx
      have k0 : (0 : Int) ≤ (k : Int) := by omega
      have k1 : (k : Int) < (n : Int) := by omega
      go_wp2_with fail
      go_region
      go_wp2_with fail
      go_roundw
      case rel => exact ⟨k + 1, by go_num, by omega, Lib.hid (HD.out.drewN _)⟩
      case measure => simp [RowKit.intOf]; omega
    · have e : k = n := by omega
      subst e
      go_wp2_with fail
      go_ret
      exact ⟨rfl, W2.out.trans (HD.out.below.mono W2.out.size)⟩
theorem srel_same (r : Rul.Rl) (a a' : Option Addr) (n n' c c' : Nat) (w : World) (hs : SlAt 2 RngC w (.slice a n c) r.rs) (hs' : SlAt 2 RngC w (.slice a' n' c') r.rs) :
    Calls Tryd.prog 29 #[.agg #[.int .u8 (r.op.toNat : Int), .int .i64 r.mod, .bool r.no, .slice a n c], .agg #[.int .u8 (r.op.toNat : Int), .int .i64 r.mod, .bool r.no, .slice a' n' c']] w fun e w' => e = .returned (.bool true) ∧ Below w.heap.size w w' := by
  rcases hs with ⟨e, a1, c1, e1⟩ | ⟨b, off, cap, e1, h0, h1, h2, h3⟩
  · rcases hs' with ⟨_, a2, c2, e2⟩ | ⟨b', off', cap', e2, h0', h1', h2', h3'⟩
    · injection e1 with e1 e1' e1''
      injection e2 with e2 e2' e2''
      subst e1' e2'
      exact srel_none _ _ _ _ _ _ _ w
    · rw [e] at h0'; simp at h0'
  · rcases hs' with ⟨e, a2, c2, e2⟩ | ⟨b', off', cap', e2, h0', h1', h2', h3'⟩
    · rw [e] at h0; simp at h0
    · injection e1 with e1 e1' e1''
      injection e2 with e2 e2' e2''
      subst e1 e2 e1' e2' e1'' e2''
      unfold maxLen at h2
      exact srel_some r.rs _ _ _ b b' off off' _ _ _ w rfl (by omega) h3 h3'
end Go.Proofs.YtoglgcjdjbjlmaaDoor
namespace Go.Proofs.YtoglgcjdjbjlmaaDoor
open Go.RowKit

set_option maxRecDepth 100000 in
set_option maxHeartbeats 2000000 in
theorem srule_none (a a' : Option Addr) (c c' : Nat) (w : World) :
    Calls Tryd.prog 12 #[.slice a 0 c, .slice a' 0 c'] w fun e w' => e = .returned (.bool true) ∧ Below w.heap.size w w' := by
  go_enter Tryd.func12, Tryd.ntmps12
  go_wp2_with fail
  refine wp_loop_rounds 1 ?_
  rw [rounds_succ]
  go_wp2_with fail
  go_ret
  exact ⟨rfl, Below.refl _ _⟩
set_option maxRecDepth 100000 in
set_option maxHeartbeats 4000000 in
theorem srule_some (r : Rul.Rule) (b b' off off' cap cap' n : Nat) (w : World) (hn : r.length = n) (hm : n ≤ 9223372036854775807) (hc : ∀ (j : Nat) x, r[j]? = some x → PartC w b (off + j * 1) x) (hc' : ∀ (j : Nat) x, r[j]? = some x → PartC w b' (off' + j * 1) x) :
    Calls Tryd.prog 12 #[.slice (some ⟨b, off, none⟩) n cap, .slice (some ⟨b', off', none⟩) n cap'] w fun e w' => e = .returned (.bool true) ∧ Below w.heap.size w w' := by
  have HC := Lib.hid hc
  have HC' := Lib.hid hc'
  have HN := Lib.hid hn
  clear hc hc' hn
  go_enter Tryd.func12, Tryd.ntmps12
  go_wp2_with fail
  go_loopw [5] (fun i wr => ∃ k : Nat, i = .int .i64 k ∧ k ≤ n ∧ Hid (Below w.heap.size w wr)) (fun i _ => n - (RowKit.intOf i).toNat)
  case atStart => exact ⟨0, rfl, Nat.zero_le _, Lib.hid (Below.refl _ _)⟩
  case round =>
    obtain ⟨k, rfl, hk, HD⟩ := hrel
    by_cases hlt : k < n
    · obtain ⟨x, hx⟩ : ∃ x, r[k]? = some x := ⟨r[k]'(by have := HN.out; omega), List.getElem?_eq_getElem (by have := HN.out; omega)⟩
      obtain ⟨pa, pn, pc, p0, ps⟩ := HC.out k x hx
      obtain ⟨qa, qn, qc, q0, qs⟩ := HC'.out k x hx
      rw [Nat.mul_one] at p0 q0
      have x0 := cell_keep p0 HD.out
      have y0 := cell_keep q0 HD.out
      obtain ⟨A1, cap1, e1, hm1, hcell1⟩ := ps.spread
      obtain ⟨A2, cap2, e2, hm2, hcell2⟩ := qs.spread
      injection e1 with e1 e1' e1''
      injection e2 with e2 e2' e2''
      subst e1 e1' e1'' e2 e2' e2''
      have PS := Lib.hid ps
      have QS := Lib.hid qs
      have P0 := Lib.hid p0
      have Q0 := Lib.hid q0
      have HC1 := Lib.hid hcell1
      have HC2 := Lib.hid hcell2
      obtain ⟨m, hmm⟩ : ∃ m, x.length = m := ⟨_, rfl⟩
      rw [hmm] at x0 y0 PS QS P0 Q0
      have HX := Lib.hid hmm
      clear hx ps qs p0 q0 hcell1 hcell2 hmm hm2
      have k0 : (0 : Int) ≤ (k : Int) := by omega
      have k1 : (k : Int) < (n : Int) := by omega
      unfold maxLen at hm1
      have hm3 : m ≤ 9223372036854775807 := by have := HX.out; omega
      clear hm1
      go_wp2_with fail
      go_region
      go_wp2_with fail
      have HDD := Lib.hid (show Below w.heap.size w wr.drew from Below.drew HD.out)
      have HK := Lib.hid (And.intro hlt hk)
      generalize wr.drew = v at *
      clear x0 y0 HD
      go_loopw [6] (fun i wr => ∃ j : Nat, i = .int .i64 j ∧ j ≤ m ∧ Hid (Below w.heap.size w wr)) (fun i _ => m - (RowKit.intOf i).toNat)
      case atStart => exact ⟨0, rfl, Nat.zero_le _, HDD⟩
      case round =>
        obtain ⟨j, rfl, hj, HI⟩ := hrel
        have x1 := cell_keep P0.out HI.out
        have y1 := cell_keep Q0.out HI.out
        by_cases hjm : j < m
        · obtain ⟨y, hy⟩ : ∃ y, x[j]? = some y := ⟨x[j]'(by have := HX.out; omega), List.getElem?_eq_getElem (by have := HX.out; omega)⟩
          obtain ⟨b1, o1, rfl, ra, rn, rc, r0, r1, r2, r3, rs⟩ := HC1.out j y hy
          obtain ⟨b2, o2, rfl, sa, sn, sc, s0, s1, s2, s3, ss⟩ := HC2.out j y hy
          have z0 := cell_keep r0 HI.out
          have z1 := cell_keep r1 HI.out
          have z2 := cell_keep r2 HI.out
          have z3 := cell_keep r3 HI.out
          have t0 := cell_keep s0 HI.out
          have t1 := cell_keep s1 HI.out
          have t2 := cell_keep s2 HI.out
          have t3 := cell_keep s3 HI.out
          have CS := Lib.hid fun (wx : World) (hb : Below w.heap.size w wx) => srel_same y ra sa rn sn rc sc wx (rs.rngs_below hb) (ss.rngs_below hb)
          clear hy r0 r1 r2 r3 rs s0 s1 s2 s3 ss HC1 HC2 PS QS
          have j0 : (0 : Int) ≤ (j : Int) := by omega
          have j1 : (j : Int) < (m : Int) := by omega
          go_wp2_with fail
          refine wp_region_held_drew (S := fun w' => w'.cell? ⟨b, off + k, none⟩ = some (.slice (some ⟨b1, o1, none⟩) m pc) ∧ w'.cell? ⟨b', off' + k, none⟩ = some (.slice (some ⟨b2, o2, none⟩) m qc) ∧ w'.cell? ⟨b1, o1 + j * 4, none⟩ = some (.int .u8 (y.op.toNat : Int)) ∧ w'.cell? ⟨b1, o1 + j * 4 + 1, none⟩ = some (.int .i64 y.mod) ∧ w'.cell? ⟨b1, o1 + j * 4 + 2, none⟩ = some (.bool y.no) ∧ w'.cell? ⟨b1, o1 + j * 4 + 3, none⟩ = some (.slice ra rn rc) ∧ w'.cell? ⟨b2, o2 + j * 4, none⟩ = some (.int .u8 (y.op.toNat : Int)) ∧ w'.cell? ⟨b2, o2 + j * 4 + 1, none⟩ = some (.int .i64 y.mod) ∧ w'.cell? ⟨b2, o2 + j * 4 + 2, none⟩ = some (.bool y.no) ∧ w'.cell? ⟨b2, o2 + j * 4 + 3, none⟩ = some (.slice sa sn sc) ∧ Hid (Below w.heap.size w w')) (by kernel_rfl) (by exact ⟨by go_keep, by go_keep, by go_keep, by go_keep, by go_keep, by go_keep, by go_keep, by go_keep, by go_keep, by go_keep, Lib.hid (Below.drew HI.out)⟩) (fun hHeld => ?_)
          refine take_run (d := (some 39)) (v := ?v1) 0 rfl rfl (by kernel_rfl) (by kernel_rfl) (by kernel_rfl) (fun _ _ _ h => h) (by rfl) hHeld ?hy1 ?rs1
          case hy1 => (intro w hSw; (try dsimp only at hSw); go_simp) <;> (try with_reducible rfl)
          (try simp only [Act.put, List.setIfInBounds_toArray, List.set_cons_zero, List.set_cons_succ])
          refine take_run (d := (some 40)) (v := ?v2) 1 rfl rfl (by kernel_rfl) (by kernel_rfl) (by kernel_rfl) (fun _ _ _ h => h) (by rfl) hHeld ?hy2 ?rs2
          case hy2 => (intro w hSw; (try dsimp only at hSw); go_simp) <;> (try with_reducible rfl)
          (try simp only [Act.put, List.setIfInBounds_toArray, List.set_cons_zero, List.set_cons_succ])
          refine take_run (d := (some 41)) (v := ?v3) 2 rfl rfl (by kernel_rfl) (by kernel_rfl) (by kernel_rfl) (fun _ _ _ h => h) (by rfl) hHeld ?hy3 ?rs3
          case hy3 => (intro w hSw; (try dsimp only at hSw); go_simp) <;> (try with_reducible rfl)
          (try simp only [Act.put, List.setIfInBounds_toArray, List.set_cons_zero, List.set_cons_succ])
          refine take_run (d := (some 42)) (v := ?v4) 3 rfl rfl (by kernel_rfl) (by kernel_rfl) (by kernel_rfl) (fun _ _ _ h => h) (by rfl) hHeld ?hy4 ?rs4
          case hy4 => (intro w hSw; (try dsimp only at hSw); go_simp) <;> (try with_reducible rfl)
          (try simp only [Act.put, List.setIfInBounds_toArray, List.set_cons_zero, List.set_cons_succ])
          refine take_run (d := (some 43)) (v := ?v5) 4 rfl rfl (by kernel_rfl) (by kernel_rfl) (by kernel_rfl) (fun _ _ _ h => h) (by rfl) hHeld ?hy5 ?rs5
          case hy5 => (intro w hSw; (try dsimp only at hSw); go_simp) <;> (try with_reducible rfl)
          (try simp only [Act.put, List.setIfInBounds_toArray, List.set_cons_zero, List.set_cons_succ])
          refine take_run (d := (some 44)) (v := ?v6) 5 rfl rfl (by kernel_rfl) (by kernel_rfl) (by kernel_rfl) (fun _ _ _ h => h) (by rfl) hHeld ?hy6 ?rs6
          case hy6 => (intro w hSw; (try dsimp only at hSw); go_simp) <;> (try with_reducible rfl)
          (try simp only [Act.put, List.setIfInBounds_toArray, List.set_cons_zero, List.set_cons_succ])
          refine take_run (d := (some 45)) (v := ?v7) 6 rfl rfl (by kernel_rfl) (by kernel_rfl) (by kernel_rfl) (fun _ _ _ h => h) (by rfl) hHeld ?hy7 ?rs7
          case hy7 => (intro w hSw; (try dsimp only at hSw); go_simp) <;> (try with_reducible rfl)
          (try simp only [Act.put, List.setIfInBounds_toArray, List.set_cons_zero, List.set_cons_succ])
          refine take_run (d := (some 46)) (v := ?v8) 7 rfl rfl (by kernel_rfl) (by kernel_rfl) (by kernel_rfl) (fun _ _ _ h => h) (by rfl) hHeld ?hy8 ?rs8
          case hy8 => (intro w hSw; (try dsimp only at hSw); go_simp) <;> (try with_reducible rfl)
          (try simp only [Act.put, List.setIfInBounds_toArray, List.set_cons_zero, List.set_cons_succ])
          refine take_run (d := (some 47)) (v := ?v9) 8 rfl rfl (by kernel_rfl) (by kernel_rfl) (by kernel_rfl) (fun _ _ _ h => h) (by rfl) hHeld ?hy9 ?rs9
          case hy9 => (intro w hSw; (try dsimp only at hSw); go_simp) <;> (try with_reducible rfl)
          (try simp only [Act.put, List.setIfInBounds_toArray, List.set_cons_zero, List.set_cons_succ])
          refine take_run (d := (some 48)) (v := ?v10) 9 rfl rfl (by kernel_rfl) (by kernel_rfl) (by kernel_rfl) (fun _ _ _ h => h) (by rfl) hHeld ?hy10 ?rs10
          case hy10 => (intro w hSw; (try dsimp only at hSw); go_simp) <;> (try with_reducible rfl)
          (try simp only [Act.put, List.setIfInBounds_toArray, List.set_cons_zero, List.set_cons_succ])
          refine take_run (d := (some 49)) (v := ?v11) 10 rfl rfl (by kernel_rfl) (by kernel_rfl) (by kernel_rfl) (fun _ _ _ h => h) (by rfl) hHeld ?hy11 ?rs11
          case hy11 => (intro w hSw; (try dsimp only at hSw); go_simp) <;> (try with_reducible rfl)
          (try simp only [Act.put, List.setIfInBounds_toArray, List.set_cons_zero, List.set_cons_succ])
          refine take_run (d := (some 50)) (v := ?v12) 11 rfl rfl (by kernel_rfl) (by kernel_rfl) (by kernel_rfl) (fun _ _ _ h => h) (by rfl) hHeld ?hy12 ?rs12
          case hy12 => (intro w hSw; (try dsimp only at hSw); go_simp) <;> (try with_reducible rfl)
          (try simp only [Act.put, List.setIfInBounds_toArray, List.set_cons_zero, List.set_cons_succ])
          refine take_run (d := (some 51)) (v := ?v13) 12 rfl rfl (by kernel_rfl) (by kernel_rfl) (by kernel_rfl) (fun _ _ _ h => h) (by rfl) hHeld ?hy13 ?rs13
          case hy13 => (intro w hSw; (try dsimp only at hSw); go_simp) <;> (try with_reducible rfl)
          (try simp only [Act.put, List.setIfInBounds_toArray, List.set_cons_zero, List.set_cons_succ])
          refine take_run (d := (some 52)) (v := ?v14) 13 rfl rfl (by kernel_rfl) (by kernel_rfl) (by kernel_rfl) (fun _ _ _ h => h) (by rfl) hHeld ?hy14 ?rs14
          case hy14 => (intro w hSw; (try dsimp only at hSw); go_simp) <;> (try with_reducible rfl)
          (try simp only [Act.put, List.setIfInBounds_toArray, List.set_cons_zero, List.set_cons_succ])
          refine take_call 14 rfl (by kernel_rfl) (by rfl) (fun K hK => ?_)
          go_simp
          refine (CS.out _ (by obtain ⟨_, _, _, _, _, _, _, _, _, _, h1⟩ := hHeld; exact h1.out)).mono ?_
          rintro e w' ⟨rfl, hb⟩
          refine hK.out _ _ (by obtain ⟨h0, h1, h2, h3, h4, h5, h6, h7, h8, h9, hw⟩ := hHeld; exact ⟨cell_keep h0 hb, cell_keep h1 hb, cell_keep h2 hb, cell_keep h3 hb, cell_keep h4 hb, cell_keep h5 hb, cell_keep h6 hb, cell_keep h7 hb, cell_keep h8 hb, cell_keep h9 hb, Lib.hid (blw_trans hw.out hb)⟩) (fun hHeld => ?_)
          clear hK K
          (try simp only [Act.put, List.setIfInBounds_toArray, List.set_cons_zero, List.set_cons_succ])
          refine take_run (d := (some 7)) (v := ?v16) 15 rfl rfl (by kernel_rfl) (by kernel_rfl) (by kernel_rfl) (fun _ _ _ h => h) (by rfl) hHeld ?hy16 ?rs16
          case hy16 => (intro w hSw; (try dsimp only at hSw); go_simp) <;> (try with_reducible rfl)
          (try simp only [Act.put, List.setIfInBounds_toArray, List.set_cons_zero, List.set_cons_succ])
          refine wpAnyH_done (by kernel_rfl) ?_ _
          obtain ⟨z0, z1, z2, z3, z4, z5, z6, z7, z8, z9, zW⟩ := hHeld
          clear z0 z1 z2 z3 z4 z5 z6 z7 z8 z9
          go_wp2_with fail
          go_roundw
          case rel => exact ⟨j + 1, by go_num, by omega, zW⟩
          case measure => simp [RowKit.intOf]; omega
        · have e : j = m := by omega
          subst e
          go_wp2_with fail
          go_roundw
          case rel => exact ⟨k + 1, by go_num, by have := HK.out; omega, HI⟩
          case measure => have := HK.out; simp [RowKit.intOf]; omega
    · have e : k = n := by omega
      subst e
      go_wp2_with fail
      go_ret
      exact ⟨rfl, HD.out⟩
theorem srule_same (r : Rul.Rule) (a a' : Option Addr) (n n' c c' : Nat) (w : World) (hs : SlAt 1 PartC w (.slice a n c) r) (hs' : SlAt 1 PartC w (.slice a' n' c') r) :
    Calls Tryd.prog 12 #[.slice a n c, .slice a' n' c'] w fun e w' => e = .returned (.bool true) ∧ Below w.heap.size w w' := by
  rcases hs with ⟨e, a1, c1, e1⟩ | ⟨b, off, cap, e1, h0, h1, h2, h3⟩
  · rcases hs' with ⟨_, a2, c2, e2⟩ | ⟨b', off', cap', e2, h0', h1', h2', h3'⟩
    · injection e1 with e1 e1' e1''
      injection e2 with e2 e2' e2''
      subst e1' e2'
      exact srule_none _ _ _ _ w
    · rw [e] at h0'; simp at h0'
  · rcases hs' with ⟨e, a2, c2, e2⟩ | ⟨b', off', cap', e2, h0', h1', h2', h3'⟩
    · rw [e] at h0; simp at h0
    · injection e1 with e1 e1' e1''
      injection e2 with e2 e2' e2''
      subst e1 e2 e1' e2' e1'' e2''
      unfold maxLen at h2
      exact srule_some r b b' off off' _ _ _ w rfl (by omega) h3 h3'
end Go.Proofs.YtoglgcjdjbjlmaaDoor
namespace Go.Proofs.YtoglgcjdjbjlmaaDoor
open Go.RowKit

set_option maxRecDepth 100000 in
set_option maxHeartbeats 1000000 in
theorem ruled_any (w : World) (hM : MaxW w) (hN : NumW w) (hp : PowW w) : Calls Tryd.prog 9 #[] w fun e w' => e = .returned (.bool true) ∧ Below w.heap.size w w' := by
  have CP := Lib.hid (rparse_any Rul.firstS w hM hN hp (by decide))
  have e1 : Rul.firstS = [105, 32, 61, 32, 49, 32, 97, 110, 100, 32, 118, 32, 61, 32, 48] := rfl
  have HF := Lib.hid Rul.first_parse
  rw [e1] at CP HF
  clear hM hN hp e1
  go_enter Tryd.func9, Tryd.ntmps9
  go_wp2_with fail
  refine CP.out.mono ?_
  rintro e w2 ⟨v, f, rfl, hP, hb⟩
  rcases hP with ⟨_, rfl, a, n, c, rfl, hs⟩ | ⟨h, _⟩
  · rw [HF.out.2] at hs
    rcases hs with ⟨e, _⟩ | ⟨b, off, cap, e1, _, _, _, hc⟩
    · cases e
    injection e1 with e1 e2 e3
    subst e1 e2 e3
    obtain ⟨pa, pn, pc, p0, ps⟩ := hc 0 _ rfl
    rw [Nat.zero_mul, Nat.add_zero] at p0
    obtain ⟨A1, cap1, e1, _⟩ := ps.spread
    injection e1 with e1 e2 e3
    subst e1 e2 e3
    have W2 := Lib.hid hb
    clear hb hc ps CP
    simp only [Rul.firstR, List.length_cons, List.length_nil, Nat.reduceAdd] at *
    go_wp2_with fail
    go_ret
    exact ⟨rfl, W2.out⟩
  · rw [HF.out.1] at h; cases h
end Go.Proofs.YtoglgcjdjbjlmaaDoor
namespace Go.Proofs.YtoglgcjdjbjlmaaDoor
open Go.RowKit Go.WideShapes Go.ChangeShapes Go.Deep

theorem bulk_small {H : Type} {l : List (DataW H)} (hk : Rows.uptoSmall H l = true) : Rows.uptoBulkAll l ≤ 1048576 := of_decide_eq_true hk
theorem list_by {α : Type} {Q : Nat → α → Prop} : ∀ (n : Nat), (∀ i, i < n → ∃ t, Q i t) → ∃ L : List α, L.length = n ∧ ∀ i t, L[i]? = some t → Q i t
  | 0, _ => ⟨[], rfl, fun i t h => by simp at h⟩
  | n + 1, h => by
    obtain ⟨L, hl, hq⟩ := list_by n fun i hi => h i (by omega)
    obtain ⟨t, ht⟩ := h n (by omega)
    refine ⟨L ++ [t], by simp [hl], fun i x hx => ?_⟩
    by_cases hi : i < n
    · rw [List.getElem?_append_left (by omega)] at hx; exact hq i x hx
    · rw [List.getElem?_append_right (by omega)] at hx
      have hk : i - L.length < 1 := (List.getElem?_eq_some_iff.1 hx).1
      obtain rfl : i = n := by omega
      rw [hl, Nat.sub_self] at hx
      obtain rfl : t = x := by simpa using hx
      exact ht
theorem bulk_sum {H : Type} {α : Type} (bulk : α → Nat) : ∀ (L : List α) (D : Nat → DataW H) (k : Nat), (∀ i x, L[i]? = some x → bulk x + 1 ≤ Rows.uptoBulk (D (k + i))) → (L.map bulk).sum + L.length ≤ Rows.uptoBulkAll ((List.range' k L.length).map D)
  | [], _, _, _ => by simp [Rows.uptoBulkAll]
  | x :: r, D, k, h => by
    have a := h 0 x rfl
    have b := bulk_sum bulk r D (k + 1) fun i y hy => by
      have := h (i + 1) y (by simpa using hy)
      rwa [show k + 1 + i = k + (i + 1) by omega]
    rw [List.length_cons, List.range'_succ, List.map_cons, List.map_cons, List.sum_cons]
    simp only [Rows.uptoBulkAll]
    simp only [Nat.add_zero] at a
    omega
section
variable {H : Type} {enc : TypeId × Value → H} {P : Program} {w : World} {base : Nat} {sp : Nat → Bool} {held : Bool}
theorem sl_open {α : Type} {fuel m : Nat} {t e : TypeId} {C : World → Nat → Nat → α → Prop} (bulk : α → Nat) (ht : P.underlying t = some (.slice e)) (hC : P.cellsOf e = m) (hm : 0 < m)
    (el : ∀ (b off : Nat) (cs : List Value) (n : Nat) (y : DataW H × List MemPlace), (∀ i, i < m → w.cell? ⟨b, off + i, none⟩ = cs[i]?) → cs.length = m → DataW.trod enc P w base sp held n e cs = some y → ∃ x : α, C w b off x ∧ bulk x + 1 ≤ Rows.uptoBulk y.1)
    {a : Option Addr} {n c : Nat} {d : DataW H} {p : List MemPlace} (h : DataW.trod enc P w base sp held fuel t (Value.slice a n c).cells.toList = some (d, p)) :
    ∃ l : List α, SlAt m C w (.slice a n c) l ∧ (l.map bulk).sum + l.length + 1 ≤ Rows.uptoBulk d := by
  rcases open_slice ht h with ⟨hcs, hx⟩ | ⟨a', len, cap, mm, nn, D, Pl, hcs, _, hl, hcm, hmm, hx, hi⟩
  · have e1 : Value.slice a n c = .slice none 0 0 := by simpa [Value.cells] using hcs
    rw [e1]
    refine ⟨[], .inl ⟨rfl, none, 0, rfl⟩, ?_⟩
    rw [show d = .nil from congrArg Prod.fst hx]
    simp [Rows.uptoBulk]
  · have e1 : Value.slice a n c = .slice (some a') len cap := by simpa [Value.cells] using hcs
    rw [e1]
    have hd : d = .slice ((List.range len).map D) ((List.range (mm - len)).map fun j => D (len + j)) := congrArg Prod.fst hx
    by_cases hz : len = 0
    · subst hz
      refine ⟨[], .inl ⟨rfl, _, _, rfl⟩, ?_⟩
      rw [hd]
      simp only [List.map_nil, List.sum_nil, List.length_nil, Rows.uptoBulk]
      omega
    have hlm : len ≤ mm := by rw [hmm]; split <;> omega
    rw [hC] at hi
    obtain ⟨b, off, spot⟩ := a'
    have hsp : spot = none := by
      obtain ⟨cs0, q0, _⟩ := hi 0 (by omega)
      obtain ⟨_, q1, q2⟩ := World.cells?_some q0
      have q3 := q2 0 hm
      rw [List.getElem?_eq_getElem (by omega)] at q3
      simpa [Addr.add] using World.cell?_spot q3
    subst hsp
    obtain ⟨L, hL, hQ⟩ := list_by (Q := fun i x => C w b (off + i * m) x ∧ bulk x + 1 ≤ Rows.uptoBulk (D i)) len fun i hil => by
      obtain ⟨cs', q0, q1⟩ := hi i (by omega)
      obtain ⟨_, q2, q3⟩ := World.cells?_some q0
      rw [Go.WideShapes.add_plain] at q3
      exact el b (off + i * m) cs' nn _ (fun j hj => by have := q3 j hj; rwa [Go.WideShapes.add_plain] at this) q2 q1
    refine ⟨L, .inr ⟨b, off, cap, by rw [hL], by omega, by omega, hcm, fun j x hx => (hQ j x hx).1⟩, ?_⟩
    have s := bulk_sum bulk L D 0 (fun i x hx => by have := (hQ i x hx).2; rwa [Nat.zero_add])
    rw [hL, ← List.range_eq_range'] at s
    rw [hd, hL]
    simp only [Rows.uptoBulk]
    omega
theorem sl_field {α : Type} {fuel m : Nat} {t e : TypeId} {C : World → Nat → Nat → α → Prop} (bulk : α → Nat) (ht : P.underlying t = some (.slice e)) (hC : P.cellsOf e = m) (hm : 0 < m)
    (el : ∀ (b off : Nat) (cs : List Value) (n : Nat) (y : DataW H × List MemPlace), (∀ i, i < m → w.cell? ⟨b, off + i, none⟩ = cs[i]?) → cs.length = m → DataW.trod enc P w base sp held n e cs = some y → ∃ x : α, C w b off x ∧ bulk x + 1 ≤ Rows.uptoBulk y.1)
    {v : Value} {y : DataW H × List MemPlace} (h : DataW.trod enc P w base sp held fuel t [v] = some y) :
    ∃ a n c l, v = .slice a n c ∧ SlAt m C w (.slice a n c) l ∧ (l.map bulk).sum + l.length + 1 ≤ Rows.uptoBulk y.1 := by
  obtain ⟨a, n, c, rfl⟩ : ∃ a n c, v = .slice a n c := by
    rcases open_slice ht h with ⟨hcs, _⟩ | ⟨a', len, cap, _, _, _, _, hcs, _⟩
    · exact ⟨_, _, _, by simpa using hcs⟩
    · exact ⟨_, _, _, by simpa using hcs⟩
  obtain ⟨l, h1, h2⟩ := sl_open bulk ht hC hm el (a := a) (n := n) (c := c) (d := y.1) (p := y.2) (by simpa [Value.cells] using h)
  exact ⟨a, n, c, l, rfl, h1, h2⟩
/-- one range -/
theorem rng_el {t e : TypeId} (ht : P.underlying t = some (.array 2 e)) (he : P.underlying e = some (.int .i64)) (hc : P.cellsOf e = 1) (b off : Nat) (cs : List Value) (n : Nat) (y : DataW H × List MemPlace)
    (h1 : ∀ i, i < 2 → w.cell? ⟨b, off + i, none⟩ = cs[i]?) (h2 : cs.length = 2) (h : DataW.trod enc P w base sp held n t cs = some y) : ∃ x : Int × Int, RngC w b off x ∧ (fun _ => 0) x + 1 ≤ Rows.uptoBulk y.1 := by
  obtain ⟨xs, m, _, hy, _, hxl, hx⟩ := DataW.trod_array ht h
  obtain ⟨c0, c1, rfl⟩ : ∃ c0 c1, cs = [c0, c1] := by
    match cs, h2 with
    | [c0, c1], _ => exact ⟨c0, c1, rfl⟩
  have x0 := hx 0 (by omega)
  have x1 := hx 1 (by omega)
  rw [hc] at x0 x1
  rw [List.getElem?_eq_getElem (by omega)] at x0 x1
  obtain ⟨v0, e0, _⟩ := DataW.trod_int he x0
  obtain ⟨v1, e1, _⟩ := DataW.trod_int he x1
  obtain rfl : c0 = .int .i64 v0 := by simpa using e0
  obtain rfl : c1 = .int .i64 v1 := by simpa using e1
  refine ⟨(v0, v1), ⟨h1 0 (by omega), h1 1 (by omega)⟩, ?_⟩
  rw [hy]
  simp [Rows.uptoBulk]
/-- the fields of one relation -/
theorem rel_fields {g u : TypeId} {f0 f1 f2 f3 : Field} {v0 v1 v2 v3 : Value} {n0 n1 n2 n3 : Nat} {y0 y1 y2 y3 : DataW H × List MemPlace} (k0 : P.underlying f0.type = some (.int .u8)) (k1 : P.underlying f1.type = some (.int .i64)) (k2 : P.underlying f2.type = some .bool)
    (k3 : P.underlying f3.type = some (.slice g)) (hg : P.underlying g = some (.array 2 u)) (hgc : P.cellsOf g = 2) (hu : P.underlying u = some (.int .i64)) (huc : P.cellsOf u = 1)
    (r0 : DataW.trod enc P w base sp held n0 f0.type [v0] = some y0) (r1 : DataW.trod enc P w base sp held n1 f1.type [v1] = some y1) (r2 : DataW.trod enc P w base sp held n2 f2.type [v2] = some y2) (r3 : DataW.trod enc P w base sp held n3 f3.type [v3] = some y3) :
    ∃ (r : Rul.Rl) (a : Option Addr) (n c : Nat), v0 = .int .u8 (r.op.toNat : Int) ∧ v1 = .int .i64 r.mod ∧ v2 = .bool r.no ∧ v3 = .slice a n c ∧ SlAt 2 RngC w (.slice a n c) r.rs ∧ r.rs.length + 1 ≤ Rows.uptoBulk y3.1 := by
  obtain ⟨a0, e0, _, w0⟩ := DataW.trod_int k0 r0
  obtain ⟨a1, e1, _⟩ := DataW.trod_int k1 r1
  obtain ⟨a2, e2, _⟩ := DataW.trod_bool k2 r2
  obtain ⟨a, n, c, rs, rfl, hs, hb⟩ := sl_field (C := RngC) (fun _ => 0) k3 hgc (by omega) (fun b off cs n y => rng_el hg hu huc b off cs n y) r3
  obtain rfl : v0 = .int .u8 a0 := by simpa using e0
  obtain rfl : v1 = .int .i64 a1 := by simpa using e1
  obtain rfl : v2 = .bool a2 := by simpa using e2
  have b0 := bounds_u8 w0
  refine ⟨⟨UInt8.ofNat a0.toNat, a1, a2, rs⟩, a, n, c, ?_, rfl, rfl, rfl, hs, by show rs.length + 1 ≤ _; omega⟩
  congr 1
  show a0 = ((UInt8.ofNat a0.toNat).toNat : Int)
  rw [UInt8.toNat_ofNat']
  omega
theorem rel_el {t g u : TypeId} {f0 f1 f2 f3 : Field} (ht : P.underlying t = some (.struct #[f0, f1, f2, f3])) (k0 : P.underlying f0.type = some (.int .u8)) (k1 : P.underlying f1.type = some (.int .i64)) (k2 : P.underlying f2.type = some .bool)
    (k3 : P.underlying f3.type = some (.slice g)) (hg : P.underlying g = some (.array 2 u)) (hgc : P.cellsOf g = 2) (hu : P.underlying u = some (.int .i64)) (huc : P.cellsOf u = 1) (hone : oneCellFields P #[f0, f1, f2, f3] = true)
    (b off : Nat) (cs : List Value) (n : Nat) (y : DataW H × List MemPlace)
    (h1 : ∀ i, i < 4 → w.cell? ⟨b, off + i, none⟩ = cs[i]?) (h2 : cs.length = 4) (h : DataW.trod enc P w base sp held n t cs = some y) : ∃ x : Rul.Rl, RelC w b off x ∧ (fun x : Rul.Rl => x.rs.length) x + 1 ≤ Rows.uptoBulk y.1 := by
  obtain ⟨ys, n', _, hy, _, hyl, hf⟩ := DataW.trod_struct ht h
  obtain ⟨c0, c1, c2, c3, rfl⟩ : ∃ c0 c1 c2 c3, cs = [c0, c1, c2, c3] := by
    match cs, h2 with
    | [c0, c1, c2, c3], _ => exact ⟨c0, c1, c2, c3, rfl⟩
  obtain ⟨y0, y1, y2, y3, rfl⟩ : ∃ a0 a1 a2 a3, ys = [a0, a1, a2, a3] := by
    match ys, hyl with
    | [a0, a1, a2, a3], _ => exact ⟨a0, a1, a2, a3, rfl⟩
  have r0 := hf 0 f0 rfl
  have r1 := hf 1 f1 rfl
  have r2 := hf 2 f2 rfl
  have r3 := hf 3 f3 rfl
  rw [(hone_of hone 0 f0 rfl).1, (hone_of hone 0 f0 rfl).2] at r0
  rw [(hone_of hone 1 f1 rfl).1, (hone_of hone 1 f1 rfl).2] at r1
  rw [(hone_of hone 2 f2 rfl).1, (hone_of hone 2 f2 rfl).2] at r2
  rw [(hone_of hone 3 f3 rfl).1, (hone_of hone 3 f3 rfl).2] at r3
  obtain ⟨r, a, n, c, rfl, rfl, rfl, rfl, hs, hb⟩ := rel_fields k0 k1 k2 k3 hg hgc hu huc (v0 := c0) (v1 := c1) (v2 := c2) (v3 := c3) r0 r1 r2 r3
  refine ⟨r, ⟨a, n, c, h1 0 (by omega), h1 1 (by omega), h1 2 (by omega), h1 3 (by omega), hs⟩, ?_⟩
  rw [hy]
  simp only [List.map_cons, List.map_nil, Rows.uptoBulk, Rows.uptoBulkAll]
  omega
theorem part_el {t e g u : TypeId} {f0 f1 f2 f3 : Field} (hp : P.underlying t = some (.slice e)) (ht : P.underlying e = some (.struct #[f0, f1, f2, f3])) (hC : P.cellsOf e = 4) (k0 : P.underlying f0.type = some (.int .u8)) (k1 : P.underlying f1.type = some (.int .i64)) (k2 : P.underlying f2.type = some .bool)
    (k3 : P.underlying f3.type = some (.slice g)) (hg : P.underlying g = some (.array 2 u)) (hgc : P.cellsOf g = 2) (hu : P.underlying u = some (.int .i64)) (huc : P.cellsOf u = 1) (hone : oneCellFields P #[f0, f1, f2, f3] = true)
    (b off : Nat) (cs : List Value) (n : Nat) (y : DataW H × List MemPlace)
    (h1 : ∀ i, i < 1 → w.cell? ⟨b, off + i, none⟩ = cs[i]?) (h2 : cs.length = 1) (h : DataW.trod enc P w base sp held n t cs = some y) : ∃ x : List Rul.Rl, PartC w b off x ∧ (fun x : List Rul.Rl => (x.map fun r => r.rs.length).sum + x.length) x + 1 ≤ Rows.uptoBulk y.1 := by
  obtain ⟨c0, rfl⟩ : ∃ c0, cs = [c0] := by
    match cs, h2 with
    | [c0], _ => exact ⟨c0, rfl⟩
  obtain ⟨a, n, c, l, rfl, hs, hb⟩ := sl_field (C := RelC) (fun x : Rul.Rl => x.rs.length) hp hC (by omega) (fun b off cs n y => rel_el ht k0 k1 k2 k3 hg hgc hu huc hone b off cs n y) h
  exact ⟨l, ⟨a, n, c, h1 0 (by omega), hs⟩, hb⟩
theorem rule_open {fuel : Nat} {s t e g u : TypeId} {f0 f1 f2 f3 : Field} (hq : P.underlying s = some (.slice t)) (htc : P.cellsOf t = 1) (hp : P.underlying t = some (.slice e)) (ht : P.underlying e = some (.struct #[f0, f1, f2, f3])) (hC : P.cellsOf e = 4) (k0 : P.underlying f0.type = some (.int .u8)) (k1 : P.underlying f1.type = some (.int .i64)) (k2 : P.underlying f2.type = some .bool)
    (k3 : P.underlying f3.type = some (.slice g)) (hg : P.underlying g = some (.array 2 u)) (hgc : P.cellsOf g = 2) (hu : P.underlying u = some (.int .i64)) (huc : P.cellsOf u = 1) (hone : oneCellFields P #[f0, f1, f2, f3] = true)
    {a : Option Addr} {n c : Nat} {d : DataW H} {p : List MemPlace} (h : DataW.trod enc P w base sp held fuel s (Value.slice a n c).cells.toList = some (d, p)) :
    ∃ r : Rul.Rule, SlAt 1 PartC w (.slice a n c) r ∧ r.length ≤ Rows.uptoBulk d ∧ Rul.count r ≤ Rows.uptoBulk d ∧ Rul.mass r ≤ Rows.uptoBulk d ∧ ∀ l ∈ r, ∀ x ∈ l, x.rs.length ≤ Rows.uptoBulk d := by
  obtain ⟨r, h1, h2⟩ := sl_open (C := PartC) (fun x : List Rul.Rl => (x.map fun r => r.rs.length).sum + x.length) hq htc (by omega) (fun b off cs n y => part_el hp ht hC k0 k1 k2 k3 hg hgc hu huc hone b off cs n y) h
  have key : ∀ q : Rul.Rule, Rul.count q + Rul.mass q ≤ (q.map fun x : List Rul.Rl => (x.map fun r => r.rs.length).sum + x.length).sum ∧ ∀ l ∈ q, ∀ x ∈ l, x.rs.length ≤ (q.map fun x : List Rul.Rl => (x.map fun r => r.rs.length).sum + x.length).sum := by
    intro q
    induction q with
    | nil => exact ⟨by simp [Rul.count, Rul.mass], fun l hl => by simp at hl⟩
    | cons a q ih =>
      refine ⟨?_, fun l hl x hx => ?_⟩
      · have := ih.1
        unfold Rul.count Rul.mass at *
        simp only [List.map_cons, List.sum_cons]
        omega
      · simp only [List.map_cons, List.sum_cons]
        rcases List.mem_cons.1 hl with rfl | hl
        · have : x.rs.length ≤ (l.map fun r => r.rs.length).sum := by
            clear ih hl
            induction l with
            | nil => simp at hx
            | cons z l ih2 =>
              rcases List.mem_cons.1 hx with rfl | hx
              · simp
              · have := ih2 hx; simp; omega
          omega
        · have := ih.2 l hl x hx
          omega
  obtain ⟨q1, q2⟩ := key r
  exact ⟨r, h1, by omega, by omega, by omega, fun l hl x hx => by have := q2 l hl x hx; omega⟩
end
end Go.Proofs.YtoglgcjdjbjlmaaDoor
namespace Go.Proofs.YtoglgcjdjbjlmaaDoor
open Go.RowKit

theorem gPowT : (Tryd.prog.globals[6]?).map (·.type) = some 144 := by kernel_rfl
theorem cellsPow : Tryd.prog.cellsOf 144 = 20 := by kernel_rfl
theorem cellsU64 : Tryd.prog.cellsOf 129 = 1 := by kernel_rfl
theorem powW_of {L : List (String × DataW Unit)} {W : World} (h : laidMetH Tryd.prog L W) (hf : L.filter (fun x => x.1 == "internal/strconv.uint64pow10") = [("internal/strconv.uint64pow10", Rows.laid_internal_strconv_uint64pow10)]) : PowW W := by
  have g := laidMetH.filter (fun x => x.1 == "internal/strconv.uint64pow10") h
  rw [hf, MakeChecks.laidMetH_plain _ _ _ (by kernel_rfl)] at g
  exact Lib.tabIs_of_head gPow gPowT Tryd.underlying144 Tryd.underlying129 cellsU64 cellsPow g
end Go.Proofs.YtoglgcjdjbjlmaaDoor
namespace Go.Proofs.YtoglgcjdjbjlmaaDoor
open Go.RowKit

/-- what the rules' functions want of the start -/
structure TR (w : World) : Prop where
  p : PowW w
  n : NumW w
  m : MaxW w
theorem TR.below {w w' : World} (h : TR w) (hb : Below w.heap.size w w') : TR w' := ⟨h.p.below hb, h.n.below hb, h.m.below hb⟩

set_option maxRecDepth 100000 in
set_option maxHeartbeats 4000000 in
theorem ruleback_any (r : Rul.Rule) (a : Option Addr) (n c : Nat) (s : List UInt8) (w : World) (hT : TR w) (hr : SlAt 1 PartC w (.slice a n c) r) (hl : r.length ≤ 1048576) (hc : Rul.count r ≤ 1048576) (hm : Rul.mass r ≤ 1048576)
    (hrs : ∀ l ∈ r, ∀ x ∈ l, x.rs.length ≤ 1048576) (ht : s.length ≤ 1048576) :
    Calls Tryd.prog 3 #[.slice a n c, .string ⟨s.toArray⟩] w fun e w' => e = .returned (.bool true) ∧ Below w.heap.size w w' := by
  have HT := Lib.hid hT
  have HR := Lib.hid hr
  have CF := Lib.hid (ruled_any w hT.m hT.n hT.p)
  have CP := Lib.hid fun (wx : World) (hb : Below w.heap.size w wx) => rparse_any s wx (hT.m.below hb) (hT.n.below hb) (hT.p.below hb) (by omega)
  have hcnt := Rul.count_P s
  have hrsP := Rul.rs_P s
  have CT1 := Lib.hid fun (wx : World) (hb : Below w.heap.size w wx) (a' : Option Addr) (n' c' : Nat) (hs : SlAt 1 PartC wx (.slice a' n' c') (Rul.ruleP s)) (hok : Rul.parseOk s = true) =>
    have tot := Rul.ok_totals (Rul.parseOk_iff.1 hok).1 (fun l hl x hx => by have := hrsP l hl x hx; omega)
    rtext_yes (Rul.ruleP s) a' n' c' wx (hT.p.below hb) hs (by omega) (by omega) (fun l hl x hx => by have := hrsP l hl x hx; omega) (Rul.parseOk_iff.1 hok).1 tot.1 tot.2
  have CN := Lib.hid fun (wx : World) (hb : Below w.heap.size w wx) (hE : Rul.ruleE r ≠ 0) => rtext_no r a n c wx (hr.rule_below hb) (by omega) (by omega) (fun l hl x hx => by have := hrs l hl x hx; omega) hE
  have CY := Lib.hid fun (wx : World) (hb : Below w.heap.size w wx) (hE : Rul.ruleE r = 0) =>
    have tot := Rul.ok_totals hE (fun l hl x hx => by have := hrs l hl x hx; omega)
    rtext_yes r a n c wx (hT.p.below hb) (hr.rule_below hb) (by omega) (by omega) (fun l hl x hx => by have := hrs l hl x hx; omega) hE tot.1 tot.2
  have CQ := Lib.hid fun (wx : World) (hb : Below w.heap.size w wx) (hE : Rul.ruleE r = 0) => rparse_any (Rul.ruleT r) wx (hT.m.below hb) (hT.n.below hb) (hT.p.below hb) (by have := Rul.rule_len hE; omega)
  have HPT := Lib.hid fun (hE : Rul.ruleE r = 0) => Rul.parse_text hE
  clear hT hr hl hc hm hrs ht hcnt hrsP
  go_enter Tryd.func3, Tryd.ntmps3
  go_wp2_with fail
  refine CF.out.mono ?_
  rintro e w1 ⟨rfl, hb⟩
  have W1 := Lib.hid hb
  clear hb CF
  go_wp2_with fail
  refine (CP.out _ W1.out).mono ?_
  rintro e w2 ⟨v, f, rfl, hP, hb⟩
  have W2 := Lib.hid (blw_trans W1.out hb)
  have HP := Lib.hid hP
  clear hb CP W1 hP
  rcases HP.out with ⟨hok, rfl, a', n', c', rfl, hs⟩ | ⟨hno, rfl, rfl⟩
  · have CT := Lib.hid (CT1.out w2 W2.out a' n' c' hs hok)
    rw [(Rul.parseOk_iff.1 hok).2] at CT
    clear hs hok CT1 HP
    go_wp2_with fail
    refine CT.out.mono ?_
    rintro e w9 ⟨rfl, hb⟩
    have W9 := Lib.hid (blw_trans W2.out hb)
    clear hb CT W2
    by_cases hE : Rul.ruleE r = 0
    · have CT := Lib.hid (CY.out w9 W9.out hE)
      have HQ := Lib.hid (HPT.out hE)
      have CQ2 := Lib.hid fun wx hb => CQ.out wx hb hE
      generalize Rul.ruleT r = T at *
      clear hE CN CY CQ HPT
      go_wp2_with fail
      refine CT.out.mono ?_
      rintro e w3 ⟨rfl, hb⟩
      have W3 := Lib.hid (blw_trans W9.out hb)
      clear hb
      go_wp2_with fail
      refine (CQ2.out _ W3.out).mono ?_
      rintro e w4 ⟨v2, f2, rfl, hP, hb⟩
      have W4 := Lib.hid (blw_trans W3.out hb)
      rcases hP with ⟨_, rfl, a', n', c', rfl, hs⟩ | ⟨hno, _⟩
      · rw [HQ.out.2] at hs
        have CS := Lib.hid (srule_same r a' a n' n c' c w4 hs (HR.out.rule_below W4.out))
        clear hb hs
        go_wp2_with fail
        refine CS.out.mono ?_
        rintro e w5 ⟨rfl, hb⟩
        have W5 := Lib.hid (blw_trans W4.out hb)
        clear hb
        go_wp2_with fail
        go_ret
        exact ⟨rfl, W5.out⟩
      · rw [HQ.out.1] at hno; cases hno
    · have CT := Lib.hid (CN.out w9 W9.out hE)
      generalize Rul.ruleE r = E at *
      clear hE CN CY CQ HPT
      go_wp2_with fail
      refine CT.out.mono ?_
      rintro e w3 ⟨rfl, hb⟩
      have W3 := Lib.hid (blw_trans W9.out hb)
      clear hb
      go_wp2_with fail
      go_ret
      exact ⟨rfl, W3.out⟩
  · clear hno CT1 HP
    by_cases hE : Rul.ruleE r = 0
    · have CT := Lib.hid (CY.out w2 W2.out hE)
      have HQ := Lib.hid (HPT.out hE)
      have CQ2 := Lib.hid fun wx hb => CQ.out wx hb hE
      generalize Rul.ruleT r = T at *
      clear hE CN CY CQ HPT
      go_wp2_with fail
      refine CT.out.mono ?_
      rintro e w3 ⟨rfl, hb⟩
      have W3 := Lib.hid (blw_trans W2.out hb)
      clear hb
      go_wp2_with fail
      refine (CQ2.out _ W3.out).mono ?_
      rintro e w4 ⟨v2, f2, rfl, hP, hb⟩
      have W4 := Lib.hid (blw_trans W3.out hb)
      rcases hP with ⟨_, rfl, a', n', c', rfl, hs⟩ | ⟨hno, _⟩
      · rw [HQ.out.2] at hs
        have CS := Lib.hid (srule_same r a' a n' n c' c w4 hs (HR.out.rule_below W4.out))
        clear hb hs
        go_wp2_with fail
        refine CS.out.mono ?_
        rintro e w5 ⟨rfl, hb⟩
        have W5 := Lib.hid (blw_trans W4.out hb)
        clear hb
        go_wp2_with fail
        go_ret
        exact ⟨rfl, W5.out⟩
      · rw [HQ.out.1] at hno; cases hno
    · have CT := Lib.hid (CN.out w2 W2.out hE)
      generalize Rul.ruleE r = E at *
      clear hE CN CY CQ HPT
      go_wp2_with fail
      refine CT.out.mono ?_
      rintro e w3 ⟨rfl, hb⟩
      have W3 := Lib.hid (blw_trans W2.out hb)
      clear hb
      go_wp2_with fail
      go_ret
      exact ⟨rfl, W3.out⟩
end Go.Proofs.YtoglgcjdjbjlmaaDoor
namespace Go.Proofs.YtoglgcjdjbjlmaaDoor
open Go.RowKit Go.MapKept

theorem mapb_new {P : Program} (T K E : TypeId) (hT : P.underlying T = some (.map K E)) (hK : P.underlying K = some (.int .u8)) (es : Array MapEntry) (c : Nat) (k : Int) (v : Value)
    (hf : Instr.findNow (.int .u8) (.int .u8 k) es.toList 0 = some none) (w : World) :
    (Instr.mapUpdate T (.map (some w.heap.size)) (.int .u8 k) v).run P (w.alloc (.map es c)) = .ok () (w.alloc (.map (es.push { key := .int .u8 k, val := v, born := c }) (c + 1))) := by
  have hb : (w.alloc (.map es c)).heap[w.heap.size]? = some (.map es c) := by show (w.heap.push _)[w.heap.size]? = _; simp
  have e : ({ (w.alloc (.map es c)) with heap := (w.alloc (.map es c)).heap.setIfInBounds w.heap.size (.map (es.push { key := .int .u8 k, val := v, born := c }) (c + 1)) } : World) = w.alloc (.map (es.push { key := .int .u8 k, val := v, born := c }) (c + 1)) := by
    show ({ w with heap := (w.heap.push _).setIfInBounds w.heap.size _ } : World) = { w with heap := w.heap.push _ }
    congr 1
    apply Array.ext_getElem?
    intro i
    rw [Array.getElem?_setIfInBounds]
    simp only [Array.getElem?_push, Array.size_push]
    by_cases h : w.heap.size = i
    · subst h; simp
    · simp [h, Ne.symm h]
  rw [← e]
  simp [Instr.mapUpdate, run_underlying hT, MapKept.run_getObj_map hb, run_checkKey hK (show IsKey (.int .u8) (.int .u8 k) from rfl), run_findKey hK hf, MapKept.run_setObj_map _ hb, Result.andThen]
theorem mapb_look {P : Program} (T K E : TypeId) (hT : P.underlying T = some (.map K E)) (hK : P.underlying K = some (.int .u8)) (es : Array MapEntry) (c r i : Nat) (k : Int) (v : Value) (w : World)
    (hb : w.heap[r]? = some (.map es c)) (hf : Instr.findNow (.int .u8) (.int .u8 k) es.toList 0 = some (some (i, v))) :
    (Instr.lookup T (.map (some r)) (.int .u8 k) false).run P w = .ok v w := by
  simp [Instr.lookup, run_underlying hT, MapKept.run_getObj_map hb, run_checkKey hK (show IsKey (.int .u8) (.int .u8 k) from rfl), run_findKey hK hf, Result.andThen]
theorem top_alloc' (w : World) (o : Obj) (n : Nat) (h : n = w.heap.size) : (w.alloc o).heap[n]? = some o := by subst h; show (w.heap.push _)[w.heap.size]? = _; simp
end Go.Proofs.YtoglgcjdjbjlmaaDoor
namespace Go.Proofs.YtoglgcjdjbjlmaaDoor
open Go.RowKit

set_option maxRecDepth 100000 in
set_option maxHeartbeats 1000000 in
theorem holds1_any (x : Int) (p : Int × Int) (q : Nat) (w : World) (h : w.cell? ⟨q, 0, none⟩ = some (.int .i64 x)) :
    Calls Tryd.prog 49 (#[.agg #[.int .i64 p.1, .int .i64 p.2]] ++ #[.pointer (some ⟨q, 0, none⟩)]) w fun e w' => e = .returned (.bool (Rul.rngHas x p)) ∧ Below w.heap.size w w' := by
  obtain ⟨a, b⟩ := p
  dsimp only
  have HR := Lib.hid (show Rul.rngHas x (a, b) = (decide (a ≤ x) && decide (x ≤ b)) from rfl)
  have hq := World.block_lt_of_cell? w _ h
  generalize Rul.rngHas x (a, b) = R at *
  show Calls _ _ #[_, _] _ _
  by_cases h0 : a ≤ x
  · have d0 : decide (a ≤ x) = true := dec_yes h0
    have d0' : decide (x ≥ a) = true := dec_yes h0
    by_cases h1 : x ≤ b
    · have d1 : decide (x ≤ b) = true := dec_yes h1
      obtain rfl : R = true := by rw [HR.out, d0, d1]; rfl
      go_enter Tryd.func49, Tryd.ntmps49
      go_wp2_with fail
      go_ret
      exact ⟨ret_bool (by simp [d0, d1, h0, h1]), blw_alloc _ _⟩
    · have d1 : decide (x ≤ b) = false := dec_no h1
      obtain rfl : R = false := by rw [HR.out, d0, d1]; rfl
      go_enter Tryd.func49, Tryd.ntmps49
      go_wp2_with fail
      go_ret
      exact ⟨ret_bool (by simp [d0, d1, h0, h1]), blw_alloc _ _⟩
  · have d0 : decide (a ≤ x) = false := dec_no h0
    obtain rfl : R = false := by rw [HR.out, d0]; rfl
    have d0' : decide (x ≥ a) = false := dec_no h0
    go_enter Tryd.func49, Tryd.ntmps49
    go_wp2_with fail
    go_ret
    exact ⟨ret_bool (by simp [d0, h0]), blw_alloc _ _⟩
theorem holds1_at (args : Array Value) (w : World) : (callFunc 49 args).run Tryd.prog w = .ok (.enter 49 args) w := enters_of Tryd.func49 (by kernel_rfl) rfl args w

/-- the map's first entries -/
def hm0 (_ : Rul.Op5) : Array MapEntry := #[]
def hm1 (o : Rul.Op5) : Array MapEntry := (hm0 o).push { key := .int .u8 110, val := .int .i64 o.i, born := 0 }
def hm2 (o : Rul.Op5) : Array MapEntry := (hm1 o).push { key := .int .u8 105, val := .int .i64 o.i, born := 1 }
def hm3 (o : Rul.Op5) : Array MapEntry := (hm2 o).push { key := .int .u8 118, val := .int .i64 o.v, born := 2 }
def hm4 (o : Rul.Op5) : Array MapEntry := (hm3 o).push { key := .int .u8 119, val := .int .i64 o.w, born := 3 }
def hm5 (o : Rul.Op5) : Array MapEntry := (hm4 o).push { key := .int .u8 102, val := .int .i64 o.f, born := 4 }
def hm6 (o : Rul.Op5) : Array MapEntry := (hm5 o).push { key := .int .u8 116, val := .int .i64 o.t, born := 5 }
theorem opv_of {c : UInt8} (h : Rul.opOk c = true) (o : Rul.Op5) : ∃ i, Instr.findNow (.int .u8) (.int .u8 (c.toNat : Int)) (hm6 o).toList 0 = some (some (i, .int .i64 (Rul.opv c o))) := by
  rcases Rul.op_cases h with rfl | rfl | rfl | rfl | rfl | rfl
  · exact ⟨0, by kernel_rfl⟩
  · exact ⟨1, by kernel_rfl⟩
  · exact ⟨2, by kernel_rfl⟩
  · exact ⟨3, by kernel_rfl⟩
  · exact ⟨4, by kernel_rfl⟩
  · exact ⟨5, by kernel_rfl⟩

set_option maxRecDepth 100000 in
set_option maxHeartbeats 4000000 in
theorem holds_any (r : Rul.Rl) (o : Rul.Op5) (a : Option Addr) (n c : Nat) (w : World) (hs : SlAt 2 RngC w (.slice a n c) r.rs) (hok : Rul.opOk r.op = true) :
    Calls Tryd.prog 34 #[.agg #[.int .u8 (r.op.toNat : Int), .int .i64 r.mod, .bool r.no, .slice a n c], .agg #[.int .i64 o.i, .int .i64 o.v, .int .i64 o.w, .int .i64 o.f, .int .i64 o.t]] w fun e w' => e = .returned (.bool (Rul.relH r o)) ∧ Below w.heap.size w w' := by
  obtain ⟨op, mod, no, rs⟩ := r
  dsimp only at *
  obtain ⟨wA, hwA⟩ : ∃ wA, (w.alloc (.cells #[.int .u8 (op.toNat : Int), .int .i64 mod, .bool no, .slice a n c] 60)).alloc (.cells #[.int .i64 o.i, .int .i64 o.v, .int .i64 o.w, .int .i64 o.f, .int .i64 o.t] 33) = wA := ⟨_, rfl⟩
  have zA : wA.heap.size = w.heap.size + 2 := by rw [← hwA]; simp
  have BR := Lib.hid ((Boxed.made w #[.int .u8 (op.toNat : Int), .int .i64 mod, .bool no, .slice a n c] 60).alloc (.cells #[.int .i64 o.i, .int .i64 o.v, .int .i64 o.w, .int .i64 o.f, .int .i64 o.t] 33))
  have BO := Lib.hid (Boxed.made (w.alloc (.cells #[.int .u8 (op.toNat : Int), .int .i64 mod, .bool no, .slice a n c] 60)) #[.int .i64 o.i, .int .i64 o.v, .int .i64 o.w, .int .i64 o.f, .int .i64 o.t] 33)
  have WA := Lib.hid ((blw_alloc w (.cells #[.int .u8 (op.toNat : Int), .int .i64 mod, .bool no, .slice a n c] 60)).alloc (by simp) (.cells #[.int .i64 o.i, .int .i64 o.v, .int .i64 o.w, .int .i64 o.f, .int .i64 o.t] 33))
  simp only [World.size_alloc] at BO
  rw [hwA] at BR BO WA
  have hmm : ∀ w, (Instr.makeMap 91 none).run Tryd.prog w = .ok (.map (some w.heap.size)) (w.alloc (.map (hm0 o) 0)) := fun w => @run_makeMap Tryd.prog 91 w
  have I0 := mapb_new (P := Tryd.prog) 91 5 3 Tryd.underlying91 Tryd.underlying5 (hm0 o) 0 110 (.int .i64 o.i) (by kernel_rfl) wA
  change (Instr.mapUpdate 91 (.map (some wA.heap.size)) (.int .u8 110) (.int .i64 o.i)).run Tryd.prog (wA.alloc (.map (hm0 o) 0)) = .ok () (wA.alloc (.map (hm1 o) 1)) at I0
  rw [zA] at I0
  have I1 := mapb_new (P := Tryd.prog) 91 5 3 Tryd.underlying91 Tryd.underlying5 (hm1 o) 1 105 (.int .i64 o.i) (by kernel_rfl) wA
  change (Instr.mapUpdate 91 (.map (some wA.heap.size)) (.int .u8 105) (.int .i64 o.i)).run Tryd.prog (wA.alloc (.map (hm1 o) 1)) = .ok () (wA.alloc (.map (hm2 o) 2)) at I1
  rw [zA] at I1
  have I2 := mapb_new (P := Tryd.prog) 91 5 3 Tryd.underlying91 Tryd.underlying5 (hm2 o) 2 118 (.int .i64 o.v) (by kernel_rfl) wA
  change (Instr.mapUpdate 91 (.map (some wA.heap.size)) (.int .u8 118) (.int .i64 o.v)).run Tryd.prog (wA.alloc (.map (hm2 o) 2)) = .ok () (wA.alloc (.map (hm3 o) 3)) at I2
  rw [zA] at I2
  have I3 := mapb_new (P := Tryd.prog) 91 5 3 Tryd.underlying91 Tryd.underlying5 (hm3 o) 3 119 (.int .i64 o.w) (by kernel_rfl) wA
  change (Instr.mapUpdate 91 (.map (some wA.heap.size)) (.int .u8 119) (.int .i64 o.w)).run Tryd.prog (wA.alloc (.map (hm3 o) 3)) = .ok () (wA.alloc (.map (hm4 o) 4)) at I3
  rw [zA] at I3
  have I4 := mapb_new (P := Tryd.prog) 91 5 3 Tryd.underlying91 Tryd.underlying5 (hm4 o) 4 102 (.int .i64 o.f) (by kernel_rfl) wA
  change (Instr.mapUpdate 91 (.map (some wA.heap.size)) (.int .u8 102) (.int .i64 o.f)).run Tryd.prog (wA.alloc (.map (hm4 o) 4)) = .ok () (wA.alloc (.map (hm5 o) 5)) at I4
  rw [zA] at I4
  have I5 := mapb_new (P := Tryd.prog) 91 5 3 Tryd.underlying91 Tryd.underlying5 (hm5 o) 5 116 (.int .i64 o.t) (by kernel_rfl) wA
  change (Instr.mapUpdate 91 (.map (some wA.heap.size)) (.int .u8 116) (.int .i64 o.t)).run Tryd.prog (wA.alloc (.map (hm5 o) 5)) = .ok () (wA.alloc (.map (hm6 o) 6)) at I5
  rw [zA] at I5
  obtain ⟨ix, hix⟩ := opv_of hok o
  have LK := mapb_look (P := Tryd.prog) 91 5 3 Tryd.underlying91 Tryd.underlying5 (hm6 o) 6 (w.heap.size + 2) ix (op.toNat : Int) (.int .i64 (Rul.opv op o)) (wA.alloc (.map (hm6 o) 6)) (top_alloc' wA _ _ zA.symm) hix
  clear hix
  have HX := Lib.hid (show Rul.opx ⟨op, mod, no, rs⟩ o = if mod = 0 then Rul.opv op o else (Rul.opv op o).tmod mod from rfl)
  have HR := Lib.hid (show Rul.relH ⟨op, mod, no, rs⟩ o = ((rs.any (Rul.rngHas (Rul.opx ⟨op, mod, no, rs⟩ o)) && (!decide (op = 110) || decide (o.t = 0))) != no) from rfl)
  generalize Rul.opx ⟨op, mod, no, rs⟩ o = X at *
  generalize Rul.relH ⟨op, mod, no, rs⟩ o = R at *
  have HA := Lib.hid fun (w' : World) (hb : Below w.heap.size w w') (q : Nat) (hq : w'.cell? ⟨q, 0, none⟩ = some (.int .i64 X)) => has_rng rs (Rul.rngHas X) 49 #[.pointer (some ⟨q, 0, none⟩)] holds1_at (.slice a n c) w' (hs.rngs_below hb) (Lib.hid fun x _ wx hx => holds1_any X x q wx (cell_keep hq hx))
  have ho110 : decide (op = 110) = decide ((op.toNat : Int) = 110) := by
    by_cases h : op = 110
    · subst h; rfl
    · rw [dec_no h, dec_no (fun e => h (by apply UInt8.toNat_inj.1; show op.toNat = 110; omega))]
  rw [ho110] at HR
  clear ho110
  generalize Rul.opv op o = Y at *
  generalize rs.any (Rul.rngHas X) = I at *
  generalize (op.toNat : Int) = opI at *
  clear hs hok
  subst hwA
  by_cases hm : mod = 0
  · subst hm
    obtain rfl : X = Y := by rw [HX.out, if_pos rfl]
    clear HX
    go_enter Tryd.func34, Tryd.ntmps34
    go_wp2_with fail
    refine (HA.out _ ((WA.out.alloc (by simp only [World.size_alloc]; omega) (.map (hm6 o) 6)).alloc (by simp only [World.size_alloc]; omega) (.cells #[.int .i64 X] 3)) _ (by simp [go_sem])).mono ?_
    rintro e w2 ⟨rfl, hb⟩
    have BR2 := Lib.hid (((BR.out.alloc (.map (hm6 o) 6)).alloc (.cells #[.int .i64 X] 3)).below hb)
    have BO2 := Lib.hid (((BO.out.alloc (.map (hm6 o) 6)).alloc (.cells #[.int .i64 X] 3)).below hb)
    have W2 := Lib.hid (blw_trans ((WA.out.alloc (by simp only [World.size_alloc]; omega) (.map (hm6 o) 6)).alloc (by simp only [World.size_alloc]; omega) (.cells #[.int .i64 X] 3)) hb)
    have k0 := BR2.out.cell 0 _ rfl
    have k2 := BR2.out.cell 2 _ rfl
    have k4 := BO2.out.cell 4 _ rfl
    clear hb HA BR BO WA LK hmm I0 I1 I2 I3 I4 I5
    generalize o.t = ot at *
    cases I with
    | false =>
      go_wp2_with fail
      go_ret
      exact ⟨ret_bool (by rw [HR.out]; simp), W2.out⟩
    | true =>
      by_cases h1 : opI = 110
      · have d1 : (opI == 110) = true := beq_yes h1
        by_cases h2 : ot = 0
        · have d2 : (ot == 0) = true := beq_yes h2
          have HF := Lib.hid (show R = (true != no) by rw [HR.out, dec_yes h1, dec_yes h2]; rfl)
          clear HR
          go_wp2_with fail
          go_ret
          exact ⟨ret_bool (by rw [HF.out]; simp), W2.out⟩
        · have d2 : (ot == 0) = false := beq_no h2
          have HF := Lib.hid (show R = (false != no) by rw [HR.out, dec_yes h1, dec_no h2]; rfl)
          clear HR
          go_wp2_with fail
          go_ret
          exact ⟨ret_bool (by rw [HF.out]; simp), W2.out⟩
      · have d1 : (opI == 110) = false := beq_no h1
        have HF := Lib.hid (show R = (true != no) by rw [HR.out, dec_no h1]; simp)
        clear HR
        go_wp2_with fail
        go_ret
        exact ⟨ret_bool (by rw [HF.out]; simp), W2.out⟩
  · have HXE := HX.out
    rw [if_neg hm] at HXE
    have hm0 : (mod == 0) = false := beq_no hm
    clear HX
    go_enter Tryd.func34, Tryd.ntmps34
    go_wp2_with fail
    rw [← HXE]
    clear HXE hm hm0
    refine (HA.out _ ((WA.out.alloc (by simp only [World.size_alloc]; omega) (.map (hm6 o) 6)).alloc (by simp only [World.size_alloc]; omega) (.cells #[.int .i64 X] 3)) _ (by simp [go_sem])).mono ?_
    rintro e w2 ⟨rfl, hb⟩
    have BR2 := Lib.hid (((BR.out.alloc (.map (hm6 o) 6)).alloc (.cells #[.int .i64 X] 3)).below hb)
    have BO2 := Lib.hid (((BO.out.alloc (.map (hm6 o) 6)).alloc (.cells #[.int .i64 X] 3)).below hb)
    have W2 := Lib.hid (blw_trans ((WA.out.alloc (by simp only [World.size_alloc]; omega) (.map (hm6 o) 6)).alloc (by simp only [World.size_alloc]; omega) (.cells #[.int .i64 X] 3)) hb)
    have k0 := BR2.out.cell 0 _ rfl
    have k2 := BR2.out.cell 2 _ rfl
    have k4 := BO2.out.cell 4 _ rfl
    clear hb HA BR BO WA LK hmm I0 I1 I2 I3 I4 I5
    generalize o.t = ot at *
    cases I with
    | false =>
      go_wp2_with fail
      go_ret
      exact ⟨ret_bool (by rw [HR.out]; simp), W2.out⟩
    | true =>
      by_cases h1 : opI = 110
      · have d1 : (opI == 110) = true := beq_yes h1
        by_cases h2 : ot = 0
        · have d2 : (ot == 0) = true := beq_yes h2
          have HF := Lib.hid (show R = (true != no) by rw [HR.out, dec_yes h1, dec_yes h2]; rfl)
          clear HR
          go_wp2_with fail
          go_ret
          exact ⟨ret_bool (by rw [HF.out]; simp), W2.out⟩
        · have d2 : (ot == 0) = false := beq_no h2
          have HF := Lib.hid (show R = (false != no) by rw [HR.out, dec_yes h1, dec_no h2]; rfl)
          clear HR
          go_wp2_with fail
          go_ret
          exact ⟨ret_bool (by rw [HF.out]; simp), W2.out⟩
      · have d1 : (opI == 110) = false := beq_no h1
        have HF := Lib.hid (show R = (true != no) by rw [HR.out, dec_no h1]; simp)
        clear HR
        go_wp2_with fail
        go_ret
        exact ⟨ret_bool (by rw [HF.out]; simp), W2.out⟩
end Go.Proofs.YtoglgcjdjbjlmaaDoor
namespace Go.Proofs.YtoglgcjdjbjlmaaDoor
open Go.RowKit

/-- the operands as a box -/
def opsC (o : Rul.Op5) : Array Value := #[.int .i64 o.i, .int .i64 o.v, .int .i64 o.w, .int .i64 o.f, .int .i64 o.t]

set_option maxRecDepth 100000 in
set_option maxHeartbeats 1000000 in
theorem holds11_any (r : Rul.Rl) (o : Rul.Op5) (q : Nat) (a : Option Addr) (n c : Nat) (w : World) (hs : SlAt 2 RngC w (.slice a n c) r.rs) (hok : Rul.opOk r.op = true) (hq : Boxed w q (opsC o)) :
    Calls Tryd.prog 33 (#[.agg #[.int .u8 (r.op.toNat : Int), .int .i64 r.mod, .bool r.no, .slice a n c]] ++ #[.pointer (some ⟨q, 0, none⟩)]) w fun e w' => e = .returned (.bool (!Rul.relH r o)) ∧ Below w.heap.size w w' := by
  have CH := Lib.hid fun (wx : World) (hb : Below w.heap.size w wx) => holds_any r o a n c wx (hs.rngs_below hb) hok
  obtain ⟨op, mod, no, rs⟩ := r
  dsimp only at *
  generalize Rul.relH ⟨op, mod, no, rs⟩ o = R at *
  generalize (op.toNat : Int) = opI at *
  have k0 := hq.cell 0 _ rfl
  have k1 := hq.cell 1 _ rfl
  have k2 := hq.cell 2 _ rfl
  have k3 := hq.cell 3 _ rfl
  have k4 := hq.cell 4 _ rfl
  have hl := hq.lt
  obtain ⟨i, v, w5, f, t⟩ := o
  dsimp only at *
  clear hs hok hq
  show Calls _ _ #[_, _] _ _
  go_enter Tryd.func33, Tryd.ntmps33
  go_wp2_with fail
  refine (CH.out _ (blw_alloc w (.cells #[.int .u8 opI, .int .i64 mod, .bool no, .slice a n c] 60))).mono ?_
  rintro e w2 ⟨rfl, hb⟩
  have W2 := Lib.hid (blw_trans (blw_alloc w (.cells #[.int .u8 opI, .int .i64 mod, .bool no, .slice a n c] 60)) hb)
  clear hb CH
  go_wp2_with fail
  go_ret
  exact ⟨rfl, W2.out⟩
theorem holds11_at (args : Array Value) (w : World) : (callFunc 33 args).run Tryd.prog w = .ok (.enter 33 args) w := enters_of Tryd.func33 (by kernel_rfl) rfl args w

theorem any_nots {α : Type} {p : α → Bool} {l : List α} : (!(l.any fun x => !p x)) = l.all p := by
  induction l with
  | nil => rfl
  | cons x r ih => rw [List.any_cons, List.all_cons, ← ih, Bool.not_or, Bool.not_not]

set_option maxRecDepth 100000 in
set_option maxHeartbeats 1000000 in
theorem holdsP_any (l : List Rul.Rl) (o : Rul.Op5) (q : Nat) (a : Option Addr) (n c : Nat) (w : World) (hs : SlAt 4 RelC w (.slice a n c) l) (hok : ∀ x ∈ l, Rul.opOk x.op = true) (hq : Boxed w q (opsC o)) :
    Calls Tryd.prog 31 (#[.slice a n c] ++ #[.pointer (some ⟨q, 0, none⟩)]) w fun e w' => e = .returned (.bool (Rul.partH l o)) ∧ Below w.heap.size w w' := by
  have HA := Lib.hid (has_rel l (fun x => !Rul.relH x o) 33 #[.pointer (some ⟨q, 0, none⟩)] holds11_at (.slice a n c) w hs (Lib.hid fun x hx za zn zc wx hb hr => holds11_any x o q za zn zc wx hr (hok x hx) (hq.below hb)))
  have HR := Lib.hid (show (!(l.any fun x => !Rul.relH x o)) = Rul.partH l o from any_nots)
  generalize (l.any fun x => !Rul.relH x o) = I at *
  generalize Rul.partH l o = R at *
  have hl := hq.lt
  clear hs hok hq
  show Calls _ _ #[_, _] _ _
  go_enter Tryd.func31, Tryd.ntmps31
  go_wp2_with fail
  refine HA.out.mono ?_
  rintro e w2 ⟨rfl, hb⟩
  go_wp2_with fail
  go_ret
  exact ⟨ret_bool HR.out, hb⟩
theorem holdsP_at (args : Array Value) (w : World) : (callFunc 31 args).run Tryd.prog w = .ok (.enter 31 args) w := enters_of Tryd.func31 (by kernel_rfl) rfl args w

set_option maxRecDepth 100000 in
set_option maxHeartbeats 1000000 in
theorem rholds_no (r : Rul.Rule) (A : Option Addr) (n c : Nat) (i v w5 f t : Int) (w : World) (hr : SlAt 1 PartC w (.slice A n c) r) (hl : r.length ≤ 1000000000) (hc : Rul.count r ≤ 1000000000) (hrs : ∀ l ∈ r, ∀ x ∈ l, x.rs.length ≤ 4000000001) (hE : Rul.ruleE r ≠ 0) :
    Calls Tryd.prog 13 #[.slice A n c, .agg #[.int .i64 i, .int .i64 v, .int .i64 w5, .int .i64 f, .int .i64 t]] w fun e w' => e = .returned (.tuple #[.bool false, errV (Rul.ruleE r)]) ∧ Below w.heap.size w w' := by
  have CC := Lib.hid fun (wx : World) (hb : Below w.heap.size w wx) => check_any r A n c wx (hr.rule_below hb) hl hc hrs
  have e1 : errR (Rul.ruleE r) = errV (Rul.ruleE r) := if_neg hE
  rw [e1] at CC
  generalize Rul.ruleE r = E at *
  clear e1 hr hrs hE
  have W1 := Lib.hid (blw_alloc w (.cells #[.int .i64 i, .int .i64 v, .int .i64 w5, .int .i64 f, .int .i64 t] 33))
  go_enter Tryd.func13, Tryd.ntmps13
  go_wp2_with fail
  refine (CC.out _ W1.out).mono ?_
  rintro e w2 ⟨rfl, hb⟩
  have W2 := Lib.hid (blw_trans W1.out hb)
  clear hb
  go_wp2_with fail
  go_ret2
  exact ⟨rfl, W2.out⟩

set_option maxRecDepth 100000 in
set_option maxHeartbeats 1000000 in
theorem rholds_yes (r : Rul.Rule) (A : Option Addr) (n c : Nat) (o : Rul.Op5) (w : World) (hr : SlAt 1 PartC w (.slice A n c) r) (hl : r.length ≤ 1000000000) (hc : Rul.count r ≤ 1000000000) (hrs : ∀ l ∈ r, ∀ x ∈ l, x.rs.length ≤ 4000000001) (hE : Rul.ruleE r = 0) :
    Calls Tryd.prog 13 #[.slice A n c, .agg #[.int .i64 o.i, .int .i64 o.v, .int .i64 o.w, .int .i64 o.f, .int .i64 o.t]] w fun e w' => e = .returned (.tuple #[.bool (Rul.ruleH r o), .nilIface]) ∧ Below w.heap.size w w' := by
  have CC := Lib.hid fun (wx : World) (hb : Below w.heap.size w wx) => check_any r A n c wx (hr.rule_below hb) hl hc hrs
  have e1 : errR (Rul.ruleE r) = .nilIface := if_pos hE
  rw [e1] at CC
  have hop : ∀ l ∈ r, ∀ x ∈ l, Rul.opOk x.op = true := fun l hlr x hx => Rul.op_of ((Rul.part_parts ((Rul.shape_parts (Rul.ruleE_zero.1 hE).1).2 l hlr)).2 x hx)
  have HA := Lib.hid fun (wx : World) (hb : Below w.heap.size w wx) (hq : Boxed wx w.heap.size (opsC o)) => has_part r (Rul.partH · o) 31 #[.pointer (some ⟨w.heap.size, 0, none⟩)] holdsP_at (.slice A n c) wx (hr.rule_below hb)
    (Lib.hid fun l hlr za zn zc wy hy hs => holdsP_any l o w.heap.size za zn zc wy hs (hop l hlr) (hq.below hy))
  have HR := Lib.hid (show r.any (Rul.partH · o) = Rul.ruleH r o from rfl)
  generalize Rul.ruleH r o = R at *
  generalize r.any (Rul.partH · o) = I at *
  obtain rfl : I = R := HR.out
  clear e1 hr hrs hE hop HR
  have W1 := Lib.hid (blw_alloc w (.cells #[.int .i64 o.i, .int .i64 o.v, .int .i64 o.w, .int .i64 o.f, .int .i64 o.t] 33))
  have B1 := Lib.hid (Boxed.made w #[.int .i64 o.i, .int .i64 o.v, .int .i64 o.w, .int .i64 o.f, .int .i64 o.t] 33)
  change Hid (Boxed _ _ (opsC o)) at B1
  go_enter Tryd.func13, Tryd.ntmps13
  go_wp2_with fail
  refine (CC.out _ W1.out).mono ?_
  rintro e w2 ⟨rfl, hb⟩
  have W2 := Lib.hid (blw_trans W1.out hb)
  have B2 := Lib.hid (B1.out.below hb)
  clear hb
  go_wp2_with fail
  refine (HA.out _ W2.out B2.out).mono ?_
  rintro e w3 ⟨rfl, hb⟩
  have W3 := Lib.hid (blw_trans W2.out hb)
  clear hb
  go_wp2_with fail
  go_ret2
  exact ⟨rfl, W3.out⟩
end Go.Proofs.YtoglgcjdjbjlmaaDoor
namespace Go.Proofs.YtoglgcjdjbjlmaaDoor
open Go.RowKit

theorem slice_one {P : Program} {T E : TypeId} {m : Nat} (hT : P.underlying T = some (.slice E)) (hC : ∀ w, (sizeOf E).run P w = .ok m w) (b off n cap i : Nat) (hi : i < n) (hn : n ≤ cap) (hcap : cap ≤ maxLen) (w : World) :
    (Instr.slice T (.slice (some ⟨b, off, none⟩) n cap) (some (.int .i64 (i : Int))) (some (.int .i64 ((i : Int) + 1))) none).run P w = .ok (.slice (some ⟨b, off + i * m, none⟩) 1 (cap - i)) w := by
  have h0 : (0 : Int) ≤ (i : Int) := by omega
  have h1 : (i : Int) + 1 ≤ (cap : Int) := by omega
  have h2 : (0 : Int) ≤ (i : Int) + 1 := by omega
  have h3 : (i : Int) ≤ ((i : Int) + 1) := by omega
  have e1 : ((i : Int) + 1).toNat = i + 1 := by omega
  have e2 : ((i : Int)).toNat = i := by omega
  have ne : ¬ cap = i := by omega
  simp [Instr.slice, run_underlying hT, go_sem, hC, Result.andThen, h0, h1, h2, h3, e1, e2, ne]
theorem one_part {w : World} {b off cap i n : Nat} {l : List Rul.Rl} (h : PartC w b (off + i) l) (hi : i < n) (hn : n ≤ cap) (hcap : cap ≤ maxLen) : SlAt 1 PartC w (.slice (some ⟨b, off + i, none⟩) 1 (cap - i)) [l] := by
  refine .inr ⟨b, off + i, cap - i, rfl, by simp, by simp; omega, by omega, fun j x hx => ?_⟩
  cases j with
  | zero => simp at hx; subst hx; rw [Nat.zero_mul, Nat.add_zero]; exact h
  | succ j => simp at hx
theorem one_rel {w : World} {b off cap i n : Nat} {x : Rul.Rl} (h : RelC w b (off + i * 4) x) (hi : i < n) (hn : n ≤ cap) (hcap : cap ≤ maxLen) : SlAt 4 RelC w (.slice (some ⟨b, off + i * 4, none⟩) 1 (cap - i)) [x] := by
  refine .inr ⟨b, off + i * 4, cap - i, rfl, by simp, by simp; omega, by omega, fun j y hy => ?_⟩
  cases j with
  | zero => simp at hy; subst hy; rw [Nat.zero_mul, Nat.add_zero]; exact h
  | succ j => simp at hy
/-- a rule of one relation, just made -/
theorem made_rule {w : World} {a : Option Addr} {n c : Nat} {l : List Rul.Rl} (h : SlAt 4 RelC w (.slice a n c) l) (t : TypeId) : SlAt 1 PartC (w.alloc (.cells #[.slice a n c] t)) (.slice (some ⟨w.heap.size, 0, none⟩) 1 1) [l] := by
  refine .inr ⟨w.heap.size, 0, 1, rfl, by simp, by simp, by decide, fun j x hx => ?_⟩
  cases j with
  | zero =>
    simp at hx
    subst hx
    exact ⟨a, n, c, (Boxed.made w #[.slice a n c] t).cell 0 _ rfl, h.rels_below (blw_alloc _ _)⟩
  | succ j => simp at hx
theorem ok_one {r : Rul.Rule} {l : List Rul.Rl} (h : Rul.ruleE r = 0) (hl : l ∈ r) : Rul.ruleE [l] = 0 := by
  obtain ⟨hs, hc⟩ := Rul.ruleE_zero.1 h
  refine Rul.ruleE_zero.2 ⟨?_, ?_⟩
  · unfold Rul.shapeOk
    have := (Rul.shape_parts hs).2 l hl
    simp [this]
  · have := Rul.count_mem hl
    unfold Rul.count
    simp; omega
theorem ok_rel {r : Rul.Rule} {l : List Rul.Rl} {x : Rul.Rl} (h : Rul.ruleE r = 0) (hl : l ∈ r) (hx : x ∈ l) : Rul.ruleE [[x]] = 0 := by
  obtain ⟨hs, _⟩ := Rul.ruleE_zero.1 h
  have := (Rul.part_parts ((Rul.shape_parts hs).2 l hl)).2 x hx
  exact Rul.ruleE_zero.2 ⟨by simp [Rul.shapeOk, Rul.partOk, this], by simp [Rul.count]⟩
theorem all_take' {α : Type} {L : List α} {p : α → Bool} {k : Nat} {x : α} (h : L[k]? = some x) : (L.take (k + 1)).all p = ((L.take k).all p && p x) := by
  rw [List.take_add_one, h]; simp

set_option maxRecDepth 100000 in
set_option maxHeartbeats 8000000 in
theorem ruleparts_any (r : Rul.Rule) (a : Option Addr) (n c : Nat) (oi ov ow of ot : Int) (w : World) (hT : TR w) (hr : SlAt 1 PartC w (.slice a n c) r) (hl : r.length ≤ 1048576) (hc : Rul.count r ≤ 1048576)
    (hrs : ∀ l ∈ r, ∀ x ∈ l, x.rs.length ≤ 1048576) :
    Calls Tryd.prog 4 #[.slice a n c, .agg #[.int .i64 oi, .int .i64 ov, .int .i64 ow, .int .i64 of, .int .i64 ot]] w fun e w' => e = .returned (.bool true) ∧ Below w.heap.size w w' := by
  have CF := Lib.hid fun wx (hb : Below w.heap.size w wx) => ruled_any wx (hT.m.below hb) (hT.n.below hb) (hT.p.below hb)
  have W0 := Lib.hid (blw_alloc w (.cells #[.int .i64 oi, .int .i64 ov, .int .i64 ow, .int .i64 of, .int .i64 ot] 33))
  have B0 := Lib.hid (Boxed.made w #[.int .i64 oi, .int .i64 ov, .int .i64 ow, .int .i64 of, .int .i64 ot] 33)
  by_cases hE : Rul.ruleE r = 0
  · have CH := Lib.hid fun (wx : World) (hb : Below w.heap.size w wx) => rholds_yes r a n c ⟨oi, ov, ow, of, ot⟩ wx (hr.rule_below hb) (by omega) (by omega) (fun l hl x hx => by have := hrs l hl x hx; omega) hE
    have H1 := Lib.hid fun (l : List Rul.Rl) (hlr : l ∈ r) (A : Option Addr) (nn cc : Nat) (wx : World) (hs : SlAt 1 PartC wx (.slice A nn cc) [l]) => rholds_yes [l] A nn cc ⟨oi, ov, ow, of, ot⟩ wx hs (by simp) (by have := Rul.count_mem hlr; unfold Rul.count; simp; omega) (fun l' hl' x hx => by simp at hl'; subst hl'; have := hrs l' hlr x hx; omega) (ok_one hE hlr)
    have H2 := Lib.hid fun (l : List Rul.Rl) (hlr : l ∈ r) (x : Rul.Rl) (hx : x ∈ l) (A : Option Addr) (nn cc : Nat) (wx : World) (hs : SlAt 1 PartC wx (.slice A nn cc) [[x]]) => rholds_yes [[x]] A nn cc ⟨oi, ov, ow, of, ot⟩ wx hs (by simp) (by simp [Rul.count]) (fun l' hl' y hy => by simp at hl'; subst hl'; simp at hy; subst hy; have := hrs l hlr y hx; omega) (ok_rel hE hlr hx)
    generalize hO : (⟨oi, ov, ow, of, ot⟩ : Rul.Op5) = O at *
    have h1 : ∀ l, Rul.ruleH [l] O = Rul.partH l O := fun l => by simp [Rul.ruleH]
    have h2 : ∀ x, Rul.ruleH [[x]] O = Rul.relH x O := fun x => by simp [Rul.ruleH, Rul.partH]
    simp only [h1] at H1
    simp only [h2] at H2
    clear h1 h2
    rw [← hO] at CH H1 H2
    dsimp only at CH H1 H2
    rw [hO] at CH H1 H2
    have hne : r ≠ [] := (Rul.shape_parts (Rul.ruleE_zero.1 hE).1).1
    rcases hr with ⟨e, _⟩ | ⟨b, off, cap, e1, h0, hcp, hcm, hcell⟩
    · exact absurd e hne
    injection e1 with e1 e2 e3
    subst e1 e2 e3
    have HC := Lib.hid hcell
    have HH := Lib.hid (show Rul.ruleH r O = r.any (Rul.partH · O) from rfl)
    have HLM : ∀ l ∈ r, l.length ≤ 1048576 := fun l hlr => Nat.le_trans (Rul.count_mem hlr) hc
    have HL := Lib.hid HLM
    generalize Rul.ruleH r O = RH at *
    obtain ⟨n, hn⟩ : ∃ n, r.length = n := ⟨_, rfl⟩
    have HN := Lib.hid hn
    rw [hn] at CH hcp hl h0 ⊢
    have hcap := Lib.hid hcm
    clear hcell hn hne hE hO hrs hc HLM hT hcm
    go_enter Tryd.func4, Tryd.ntmps4
    go_wp2_with fail
    refine (CF.out _ W0.out).mono ?_
    rintro e w1 ⟨rfl, hb⟩
    have W1 := Lib.hid (blw_trans W0.out hb)
    have B1 := Lib.hid (B0.out.below hb)
    have k0 := B1.out.cell 0 _ rfl
    have k1 := B1.out.cell 1 _ rfl
    have k2 := B1.out.cell 2 _ rfl
    have k3 := B1.out.cell 3 _ rfl
    have k4 := B1.out.cell 4 _ rfl
    have kl := B1.out.lt
    clear hb CF W0 B0
    go_wp2_with fail
    refine (CH.out _ W1.out).mono ?_
    rintro e v ⟨rfl, hb⟩
    have W2 := Lib.hid (blw_trans W1.out hb)
    have B2 := Lib.hid (B1.out.below hb)
    clear hb CH W1 B1 k0 k1 k2 k3 k4 kl
    go_wp2_with fail
    go_loopw [8, 9] (fun s i wr => ∃ k : Nat, i = .int .i64 k ∧ k ≤ n ∧ s = .bool ((r.take k).any (Rul.partH · O)) ∧ Hid (Below v.heap.size v wr)) (fun _ i _ => n - (RowKit.intOf i).toNat)
    case atStart => exact ⟨0, rfl, Nat.zero_le _, rfl, Lib.hid (Below.refl _ _)⟩
    case round =>
      obtain ⟨k, rfl, hk, rfl, HD⟩ := hrel
      by_cases hlt : k < n
      · obtain ⟨l, hlk⟩ : ∃ l, r[k]? = some l := ⟨r[k]'(by have := HN.out; omega), List.getElem?_eq_getElem (by have := HN.out; omega)⟩
        have hlr := List.mem_of_getElem? hlk
        have HA := Lib.hid (any_take' (p := (Rul.partH · O)) hlk)
        have hp0 := HC.out k l hlk
        rw [Nat.mul_one] at hp0
        have HWR := Lib.hid (blw_trans W2.out HD.out)
        have HP0 := Lib.hid (fun (wx : World) (hb : Below v.heap.size v wx) => hp0.below (blw_trans W2.out hb))
        have HP1 := Lib.hid (fun (wx : World) (hb : Below v.heap.size v wx) => one_part (i := k) (n := n) (hp0.below (blw_trans W2.out hb)) hlt (by omega) hcap.out)
        have C1 := Lib.hid fun (wx : World) (hb : Below v.heap.size v wx) => H1.out l hlr _ _ _ wx (HP1.out wx hb)
        obtain ⟨pa, pn, pc, q0, qs⟩ := hp0
        obtain ⟨A1, cap1, e1, hm1, _⟩ := qs.spread
        injection e1 with e1 e2 e3
        subst e1 e2 e3
        have hlm := HL.out l hlr
        have Q0 := Lib.hid (fun (wx : World) (hb : Below v.heap.size v wx) => cell_keep q0 (blw_trans W2.out hb))
        have QS := Lib.hid (fun (wx : World) (hb : Below v.heap.size v wx) => qs.rels_below (blw_trans W2.out hb))
        have C2 := Lib.hid fun (x : Rul.Rl) (hx : x ∈ l) => H2.out l hlr x hx
        have HPH := Lib.hid (show Rul.partH l O = l.all (Rul.relH · O) from rfl)
        generalize Rul.partH l O = PH1 at *
        obtain ⟨AN1, hAN1⟩ : ∃ AN1, (r.take (k + 1)).any (Rul.partH · O) = AN1 := ⟨_, rfl⟩
        rw [hAN1] at HA
        have HAN1 := Lib.hid hAN1
        clear hAN1
        generalize (r.take k).any (Rul.partH · O) = AN at *
        obtain ⟨m, hm⟩ : ∃ m, l.length = m := ⟨_, rfl⟩
        rw [hm] at Q0 QS hlm
        have HM := Lib.hid hm
        have SL := fun w => slice_one (P := Tryd.prog) (T := 22) Tryd.underlying22 (m := 1) (fun w => Tryd.sizeOf36 w) b off n c k hlt (by omega) hcap.out w
        rw [Nat.mul_one] at SL
        have BO := Lib.hid fun (wx : World) (hb : Below v.heap.size v wx) => B2.out.below hb
        have o0 := (BO.out wr HD.out).cell 0 _ rfl
        have o1 := (BO.out wr HD.out).cell 1 _ rfl
        have o2 := (BO.out wr HD.out).cell 2 _ rfl
        have o3 := (BO.out wr HD.out).cell 3 _ rfl
        have o4 := (BO.out wr HD.out).cell 4 _ rfl
        have ol := (BO.out wr HD.out).lt
        have k0 : (0 : Int) ≤ (k : Int) := by omega
        have k1 : (k : Int) < (n : Int) := by omega
        have ew : IntKind.i64.wrap ((k : Int) + 1) = (k : Int) + 1 := IntWalk.i64_in _ (by omega)
        clear q0 qs hm hlk hm1 HP1
        go_wp2_with fail
        refine wp_region_held_drew (S := fun w' => w'.cell? ⟨w.heap.size, 0, none⟩ = some (.int .i64 oi) ∧ w'.cell? ⟨w.heap.size, 1, none⟩ = some (.int .i64 ov) ∧ w'.cell? ⟨w.heap.size, 2, none⟩ = some (.int .i64 ow) ∧ w'.cell? ⟨w.heap.size, 3, none⟩ = some (.int .i64 of) ∧ w'.cell? ⟨w.heap.size, 4, none⟩ = some (.int .i64 ot) ∧ Hid (Below v.heap.size v w')) (by kernel_rfl) (by exact ⟨by go_keep, by go_keep, by go_keep, by go_keep, by go_keep, Lib.hid (Below.drew HD.out)⟩) (fun hHeld => ?_)
        refine take_run (d := (some 36)) (v := ?v1) 0 rfl rfl (by kernel_rfl) (by kernel_rfl) (by kernel_rfl) (fun _ _ _ h => h) (by rfl) hHeld ?hy1 ?rs1
        case hy1 => (intro w hSw; (try dsimp only at hSw); go_simp) <;> (try with_reducible rfl)
        (try simp only [Act.put, List.setIfInBounds_toArray, List.set_cons_zero, List.set_cons_succ])
        refine take_run (d := (some 37)) (v := ?v2) 1 rfl rfl (by kernel_rfl) (by kernel_rfl) (by kernel_rfl) (fun _ _ _ h => h) (by rfl) hHeld ?hy2 ?rs2
        case hy2 => (intro w hSw; (try dsimp only at hSw); go_simp) <;> (try with_reducible rfl)
        (try simp only [Act.put, List.setIfInBounds_toArray, List.set_cons_zero, List.set_cons_succ])
        refine take_run (d := (some 38)) (v := ?v3) 2 rfl rfl (by kernel_rfl) (by kernel_rfl) (by kernel_rfl) (fun _ _ _ h => h) (by rfl) hHeld ?hy3 ?rs3
        case hy3 => (intro w hSw; (try dsimp only at hSw); go_simp) <;> (try with_reducible rfl)
        (try simp only [Act.put, List.setIfInBounds_toArray, List.set_cons_zero, List.set_cons_succ])
        refine take_run (d := (some 39)) (v := ?v4) 3 rfl rfl (by kernel_rfl) (by kernel_rfl) (by kernel_rfl) (fun _ _ _ h => h) (by rfl) hHeld ?hy4 ?rs4
        case hy4 => (intro w hSw; (try dsimp only at hSw); go_simp) <;> (try with_reducible rfl)
        (try simp only [Act.put, List.setIfInBounds_toArray, List.set_cons_zero, List.set_cons_succ])
        refine take_run (d := (some 40)) (v := ?v5) 4 rfl rfl (by kernel_rfl) (by kernel_rfl) (by kernel_rfl) (fun _ _ _ h => h) (by rfl) hHeld ?hy5 ?rs5
        case hy5 => (intro w hSw; (try dsimp only at hSw); go_simp) <;> (try with_reducible rfl)
        (try simp only [Act.put, List.setIfInBounds_toArray, List.set_cons_zero, List.set_cons_succ])
        refine take_run (d := (some 41)) (v := ?v6) 5 rfl rfl (by kernel_rfl) (by kernel_rfl) (by kernel_rfl) (fun _ _ _ h => h) (by rfl) hHeld ?hy6 ?rs6
        case hy6 => (intro w hSw; (try dsimp only at hSw); go_simp) <;> (try with_reducible rfl)
        (try simp only [Act.put, List.setIfInBounds_toArray, List.set_cons_zero, List.set_cons_succ])
        refine take_call 6 rfl (by kernel_rfl) (by rfl) (fun K hK => ?_)
        go_simp
        refine (C1.out _ (by obtain ⟨_, _, _, _, _, h1⟩ := hHeld; exact h1.out)).mono ?_
        rintro e w' ⟨rfl, hb⟩
        refine hK.out _ _ (by obtain ⟨h0, h1, h2, h3, h4, hw⟩ := hHeld; exact ⟨cell_keep h0 hb, cell_keep h1 hb, cell_keep h2 hb, cell_keep h3 hb, cell_keep h4 hb, Lib.hid (blw_trans hw.out hb)⟩) (fun hHeld => ?_)
        clear hK K
        (try simp only [Act.put, List.setIfInBounds_toArray, List.set_cons_zero, List.set_cons_succ])
        refine take_run (d := (some 35)) (v := ?v8) 7 rfl rfl (by kernel_rfl) (by kernel_rfl) (by kernel_rfl) (fun _ _ _ h => h) (by rfl) hHeld ?hy8 ?rs8
        case hy8 => (intro w hSw; (try dsimp only at hSw); go_simp) <;> (try with_reducible rfl)
        (try simp only [Act.put, List.setIfInBounds_toArray, List.set_cons_zero, List.set_cons_succ])
        refine take_run (d := (some 43)) (v := ?v9) 8 rfl rfl (by kernel_rfl) (by kernel_rfl) (by kernel_rfl) (fun _ _ _ h => h) (by rfl) hHeld ?hy9 ?rs9
        case hy9 => (intro w hSw; (try dsimp only at hSw); go_simp) <;> (try with_reducible rfl)
        (try simp only [Act.put, List.setIfInBounds_toArray, List.set_cons_zero, List.set_cons_succ])
        refine take_run (d := (some 44)) (v := ?v10) 9 rfl rfl (by kernel_rfl) (by kernel_rfl) (by kernel_rfl) (fun _ _ _ h => h) (by rfl) hHeld ?hy10 ?rs10
        case hy10 => (intro w hSw; (try dsimp only at hSw); go_simp) <;> (try with_reducible rfl)
        (try simp only [Act.put, List.setIfInBounds_toArray, List.set_cons_zero, List.set_cons_succ])
        refine take_run (d := (some 10)) (v := ?v11) 10 rfl rfl (by kernel_rfl) (by kernel_rfl) (by kernel_rfl) (fun _ _ _ h => h) (by rfl) hHeld ?hy11 ?rs11
        case hy11 => (intro w hSw; (try dsimp only at hSw); go_simp) <;> (try with_reducible rfl)
        (try simp only [Act.put, List.setIfInBounds_toArray, List.set_cons_zero, List.set_cons_succ])
        refine take_run (d := (some 11)) (v := ?v12) 11 rfl rfl (by kernel_rfl) (by kernel_rfl) (by kernel_rfl) (fun _ _ _ h => h) (by rfl) hHeld ?hy12 ?rs12
        case hy12 => (intro w hSw; (try dsimp only at hSw); go_simp) <;> (try with_reducible rfl)
        (try simp only [Act.put, List.setIfInBounds_toArray, List.set_cons_zero, List.set_cons_succ])
        refine wpAnyH_done (by kernel_rfl) ?_ _
        obtain ⟨z0, z1, z2, z3, z4, zW⟩ := hHeld
        clear C1 SL o0 o1 o2 o3 o4 ol
        clear z0 z1 z2 z3 z4
        cases AN with
        | true =>
          go_wp2_with fail
          go_loopw [12, 13] (fun s i wr => ∃ j : Nat, i = .int .i64 j ∧ j ≤ m ∧ s = .bool ((l.take j).all (Rul.relH · O)) ∧ Hid (Below v.heap.size v wr)) (fun _ i _ => m - (RowKit.intOf i).toNat)
          case atStart => exact ⟨0, rfl, Nat.zero_le _, rfl, zW⟩
          case round =>
            obtain ⟨j, rfl, hj, rfl, HI⟩ := hrel
            have p0 := Q0.out wr HI.out
            by_cases hjm : j < m
            · obtain ⟨y, hy⟩ : ∃ y, l[j]? = some y := ⟨l[j]'(by have := HM.out; omega), List.getElem?_eq_getElem (by have := HM.out; omega)⟩
              have hyl := List.mem_of_getElem? hy
              have HA2 := Lib.hid (all_take' (p := (Rul.relH · O)) hy)
              obtain ⟨b1, of1, rfl, hry⟩ : ∃ b1 o1, pa = some ⟨b1, o1, none⟩ ∧ ∀ wx, Below v.heap.size v wx → RelC wx b1 (o1 + j * 4) y := by
                obtain ⟨A1, cap2, e1, _, hcell2⟩ := (QS.out v (Below.refl _ _)).spread
                injection e1 with e1 _ _
                subst e1
                obtain ⟨b1, o1, e2, h2⟩ := hcell2 j y hy
                exact ⟨b1, o1, e2, fun wx hb => h2.below hb⟩
              have hmc : m ≤ pc ∧ pc ≤ maxLen := by
                rcases QS.out v (Below.refl _ _) with ⟨e, _⟩ | ⟨b2, o2, cp2, e1, _, h1, h2, _⟩
                · rw [e] at hy; simp at hy
                · injection e1 with _ _ e3
                  rw [← e3, HM.out] at h1
                  rw [← e3] at h2
                  exact ⟨h1, h2⟩
              have C3 := Lib.hid fun (wx : World) (hb : Below v.heap.size v wx) => C2.out y hyl _ _ _ _ (made_rule (one_rel (i := j) (n := m) (hry wx hb) hjm hmc.1 hmc.2) 36)
              have SL := fun w => slice_one (P := Tryd.prog) (T := 36) Tryd.underlying36 (m := 4) (fun w => Tryd.sizeOf60 w) b1 of1 m pc j hjm hmc.1 hmc.2 w
              have p0 := Q0.out wr HI.out
              have o0 := (BO.out wr HI.out).cell 0 _ rfl
              have q1 := (BO.out wr HI.out).cell 1 _ rfl
              have o2 := (BO.out wr HI.out).cell 2 _ rfl
              have o3 := (BO.out wr HI.out).cell 3 _ rfl
              have o4 := (BO.out wr HI.out).cell 4 _ rfl
              have ol := (BO.out wr HI.out).lt
              have j0 : (0 : Int) ≤ (j : Int) := by omega
              have j1 : (j : Int) < (m : Int) := by omega
              have ej : IntKind.i64.wrap ((j : Int) + 1) = (j : Int) + 1 := IntWalk.i64_in _ (by omega)
              have HB1 := Lib.hid HI.out
              obtain ⟨L1, hL1⟩ : ∃ L1, (l.take (j + 1)).all (Rul.relH · O) = L1 := ⟨_, rfl⟩
              rw [hL1] at HA2
              have HL1 := Lib.hid hL1
              clear hL1
              generalize (l.take j).all (Rul.relH · O) = L0 at *
              generalize Rul.relH y O = LY at *
              clear hry hy hyl
              go_wp2_with fail
              refine wp_region_held_drew (S := fun w' => w'.cell? ⟨b, off + k, none⟩ = some (.slice (some ⟨b1, of1, none⟩) m pc) ∧ w'.cell? ⟨w.heap.size, 0, none⟩ = some (.int .i64 oi) ∧ w'.cell? ⟨w.heap.size, 1, none⟩ = some (.int .i64 ov) ∧ w'.cell? ⟨w.heap.size, 2, none⟩ = some (.int .i64 ow) ∧ w'.cell? ⟨w.heap.size, 3, none⟩ = some (.int .i64 of) ∧ w'.cell? ⟨w.heap.size, 4, none⟩ = some (.int .i64 ot) ∧ Hid (Below v.heap.size v w')) (by kernel_rfl) (by exact ⟨by go_keep, by go_keep, by go_keep, by go_keep, by go_keep, by go_keep, Lib.hid (Below.drew HB1.out)⟩) (fun hHeld => ?_)
              refine take_run (d := (some 61)) (v := ?v13) 0 rfl rfl (by kernel_rfl) (by kernel_rfl) (by kernel_rfl) (fun _ _ _ h => h) (by rfl) hHeld ?hy13 ?rs13
              case hy13 => (intro w hSw; (try dsimp only at hSw); go_simp) <;> (try with_reducible rfl)
              (try simp only [Act.put, List.setIfInBounds_toArray, List.set_cons_zero, List.set_cons_succ])
              refine take_run (d := (some 62)) (v := ?v14) 1 rfl rfl (by kernel_rfl) (by kernel_rfl) (by kernel_rfl) (fun _ _ _ h => h) (by rfl) hHeld ?hy14 ?rs14
              case hy14 => (intro w hSw; (try dsimp only at hSw); go_simp) <;> (try with_reducible rfl)
              (try simp only [Act.put, List.setIfInBounds_toArray, List.set_cons_zero, List.set_cons_succ])
              refine take_run (d := (some 63)) (v := ?v15) 2 rfl rfl (by kernel_rfl) (by kernel_rfl) (by kernel_rfl) (fun _ _ _ h => h) (by rfl) hHeld ?hy15 ?rs15
              case hy15 => (intro w hSw; (try dsimp only at hSw); go_simp) <;> (try with_reducible rfl)
              (try simp only [Act.put, List.setIfInBounds_toArray, List.set_cons_zero, List.set_cons_succ])
              refine take_run (d := (some 64)) (v := ?v16) 3 rfl rfl (by kernel_rfl) (by kernel_rfl) (by kernel_rfl) (fun _ _ _ h => h) (by rfl) hHeld ?hy16 ?rs16
              case hy16 => (intro w hSw; (try dsimp only at hSw); go_simp) <;> (try with_reducible rfl)
              (try simp only [Act.put, List.setIfInBounds_toArray, List.set_cons_zero, List.set_cons_succ])
              refine take_run (d := (some 65)) (v := ?v17) 4 rfl rfl (by kernel_rfl) (by kernel_rfl) (by kernel_rfl) (fun _ _ _ h => h) (by rfl) hHeld ?hy17 ?rs17
              case hy17 => (intro w hSw; (try dsimp only at hSw); go_simp) <;> (try with_reducible rfl)
              (try simp only [Act.put, List.setIfInBounds_toArray, List.set_cons_zero, List.set_cons_succ])
              refine take_run (d := (some 66)) (v := ?v18) 5 rfl rfl (by kernel_rfl) (by kernel_rfl) (by kernel_rfl) (fun _ _ _ h => h) (by rfl) hHeld ?hy18 ?rs18
              case hy18 => (intro w hSw; (try dsimp only at hSw); go_simp) <;> (try with_reducible rfl)
              (try simp only [Act.put, List.setIfInBounds_toArray, List.set_cons_zero, List.set_cons_succ])
              refine take_run (d := (some 67)) (v := ?v19) 6 rfl rfl (by kernel_rfl) (by kernel_rfl) (by kernel_rfl) (fun _ _ _ h => h) (by rfl) hHeld ?hy19 ?rs19
              case hy19 => (intro w hSw; (try dsimp only at hSw); go_simp) <;> (try with_reducible rfl)
              (try simp only [Act.put, List.setIfInBounds_toArray, List.set_cons_zero, List.set_cons_succ])
              refine take_run (d := (some 68)) (v := ?v20) 7 rfl rfl (by kernel_rfl) (by kernel_rfl) (by kernel_rfl) (fun _ _ _ h => h) (by rfl) hHeld ?hy20 ?rs20
              case hy20 => (intro w hSw; (try dsimp only at hSw); go_simp) <;> (try with_reducible rfl)
              (try simp only [Act.put, List.setIfInBounds_toArray, List.set_cons_zero, List.set_cons_succ])
              refine take_run (d := (some 70)) (v := ?v21) 9 rfl rfl (by kernel_rfl) (by kernel_rfl) (by kernel_rfl) (fun _ _ _ h => h) (by rfl) hHeld ?hy21 ?rs21
              case hy21 => (intro w hSw; (try dsimp only at hSw); go_simp) <;> (try with_reducible rfl)
              (try simp only [Act.put, List.setIfInBounds_toArray, List.set_cons_zero, List.set_cons_succ])
              refine take_call 8 rfl (by kernel_rfl) (by rfl) (fun K hK => ?_)
              go_simp
              have hHeld0 := hHeld
              obtain ⟨h0, h1, h2, h3, h4, h5, hw⟩ := hHeld
              refine hK.out _ _ (by exact ⟨cell_keep h0 (blw_alloc _ _), cell_keep h1 (blw_alloc _ _), cell_keep h2 (blw_alloc _ _), cell_keep h3 (blw_alloc _ _), cell_keep h4 (blw_alloc _ _), cell_keep h5 (blw_alloc _ _), Lib.hid (blw_trans hw.out (blw_alloc _ _))⟩) (fun hHeld => ?_)
              clear hK K h0 h1 h2 h3 h4 h5 hw
              (try simp only [Act.put, List.setIfInBounds_toArray, List.set_cons_zero, List.set_cons_succ])
              refine take_call 10 rfl (by kernel_rfl) (by rfl) (fun K hK => ?_)
              go_simp
              refine (C3.out _ (by obtain ⟨_, _, _, _, _, _, h1⟩ := hHeld0; exact h1.out)).mono ?_
              rintro e w' ⟨rfl, hb⟩
              refine hK.out _ _ (by obtain ⟨h0, h1, h2, h3, h4, h5, hw⟩ := hHeld; exact ⟨cell_keep h0 hb, cell_keep h1 hb, cell_keep h2 hb, cell_keep h3 hb, cell_keep h4 hb, cell_keep h5 hb, Lib.hid (blw_trans hw.out hb)⟩) (fun hHeld => ?_)
              clear hK K
              (try simp only [Act.put, List.setIfInBounds_toArray, List.set_cons_zero, List.set_cons_succ])
              refine take_run (d := (some 60)) (v := ?v24) 11 rfl rfl (by kernel_rfl) (by kernel_rfl) (by kernel_rfl) (fun _ _ _ h => h) (by rfl) hHeld ?hy24 ?rs24
              case hy24 => (intro w hSw; (try dsimp only at hSw); go_simp) <;> (try with_reducible rfl)
              (try simp only [Act.put, List.setIfInBounds_toArray, List.set_cons_zero, List.set_cons_succ])
              refine take_run (d := (some 72)) (v := ?v25) 12 rfl rfl (by kernel_rfl) (by kernel_rfl) (by kernel_rfl) (fun _ _ _ h => h) (by rfl) hHeld ?hy25 ?rs25
              case hy25 => (intro w hSw; (try dsimp only at hSw); go_simp) <;> (try with_reducible rfl)
              (try simp only [Act.put, List.setIfInBounds_toArray, List.set_cons_zero, List.set_cons_succ])
              refine take_run (d := (some 73)) (v := ?v26) 13 rfl rfl (by kernel_rfl) (by kernel_rfl) (by kernel_rfl) (fun _ _ _ h => h) (by rfl) hHeld ?hy26 ?rs26
              case hy26 => (intro w hSw; (try dsimp only at hSw); go_simp) <;> (try with_reducible rfl)
              (try simp only [Act.put, List.setIfInBounds_toArray, List.set_cons_zero, List.set_cons_succ])
              refine take_run (d := (some 14)) (v := ?v27) 14 rfl rfl (by kernel_rfl) (by kernel_rfl) (by kernel_rfl) (fun _ _ _ h => h) (by rfl) hHeld ?hy27 ?rs27
              case hy27 => (intro w hSw; (try dsimp only at hSw); go_simp) <;> (try with_reducible rfl)
              (try simp only [Act.put, List.setIfInBounds_toArray, List.set_cons_zero, List.set_cons_succ])
              refine take_run (d := (some 15)) (v := ?v28) 15 rfl rfl (by kernel_rfl) (by kernel_rfl) (by kernel_rfl) (fun _ _ _ h => h) (by rfl) hHeld ?hy28 ?rs28
              case hy28 => (intro w hSw; (try dsimp only at hSw); go_simp) <;> (try with_reducible rfl)
              (try simp only [Act.put, List.setIfInBounds_toArray, List.set_cons_zero, List.set_cons_succ])
              refine wpAnyH_done (by kernel_rfl) ?_ _
              obtain ⟨z0, z1, z2, z3, z4, z5, zW⟩ := hHeld
              clear C3 SL o0 q1 o2 o3 o4 ol z0 z1 z2 z3 z4 z5 hHeld0
              cases L0 with
              | true =>
                obtain rfl : L1 = LY := by rw [HA2.out]; rfl
                go_wp2_with fail
                go_roundw
                case rel => exact ⟨j + 1, by go_num, by omega, by rw [HL1.out], zW⟩
                case measure => simp [RowKit.intOf]; omega
              | false =>
                obtain rfl : L1 = false := by rw [HA2.out]; rfl
                go_wp2_with fail
                go_roundw
                case rel => exact ⟨j + 1, by go_num, by omega, by rw [HL1.out], zW⟩
                case measure => simp [RowKit.intOf]; omega
            · have e : j = m := by omega
              subst e
              have HF := Lib.hid (show (l.take j).all (Rul.relH · O) = PH1 by rw [HPH.out, List.take_of_length_le (by have := HM.out; omega)])
              rw [HF.out]
              clear HF
              have ePP : (PH1 == PH1) = true := by simp
              go_wp2_with fail
              go_roundw
              case rel => exact ⟨k + 1, by go_num, by omega, by rw [HAN1.out, HA.out]; rfl, HI⟩
              case measure => simp [RowKit.intOf]; omega
        | false =>
          go_wp2_with fail
          go_loopw [12, 13] (fun s i wr => ∃ j : Nat, i = .int .i64 j ∧ j ≤ m ∧ s = .bool ((l.take j).all (Rul.relH · O)) ∧ Hid (Below v.heap.size v wr)) (fun _ i _ => m - (RowKit.intOf i).toNat)
          case atStart => exact ⟨0, rfl, Nat.zero_le _, rfl, zW⟩
          case round =>
            obtain ⟨j, rfl, hj, rfl, HI⟩ := hrel
            have p0 := Q0.out wr HI.out
            by_cases hjm : j < m
            · obtain ⟨y, hy⟩ : ∃ y, l[j]? = some y := ⟨l[j]'(by have := HM.out; omega), List.getElem?_eq_getElem (by have := HM.out; omega)⟩
              have hyl := List.mem_of_getElem? hy
              have HA2 := Lib.hid (all_take' (p := (Rul.relH · O)) hy)
              obtain ⟨b1, of1, rfl, hry⟩ : ∃ b1 o1, pa = some ⟨b1, o1, none⟩ ∧ ∀ wx, Below v.heap.size v wx → RelC wx b1 (o1 + j * 4) y := by
                obtain ⟨A1, cap2, e1, _, hcell2⟩ := (QS.out v (Below.refl _ _)).spread
                injection e1 with e1 _ _
                subst e1
                obtain ⟨b1, o1, e2, h2⟩ := hcell2 j y hy
                exact ⟨b1, o1, e2, fun wx hb => h2.below hb⟩
              have hmc : m ≤ pc ∧ pc ≤ maxLen := by
                rcases QS.out v (Below.refl _ _) with ⟨e, _⟩ | ⟨b2, o2, cp2, e1, _, h1, h2, _⟩
                · rw [e] at hy; simp at hy
                · injection e1 with _ _ e3
                  rw [← e3, HM.out] at h1
                  rw [← e3] at h2
                  exact ⟨h1, h2⟩
              have C3 := Lib.hid fun (wx : World) (hb : Below v.heap.size v wx) => C2.out y hyl _ _ _ _ (made_rule (one_rel (i := j) (n := m) (hry wx hb) hjm hmc.1 hmc.2) 36)
              have SL := fun w => slice_one (P := Tryd.prog) (T := 36) Tryd.underlying36 (m := 4) (fun w => Tryd.sizeOf60 w) b1 of1 m pc j hjm hmc.1 hmc.2 w
              have p0 := Q0.out wr HI.out
              have o0 := (BO.out wr HI.out).cell 0 _ rfl
              have q1 := (BO.out wr HI.out).cell 1 _ rfl
              have o2 := (BO.out wr HI.out).cell 2 _ rfl
              have o3 := (BO.out wr HI.out).cell 3 _ rfl
              have o4 := (BO.out wr HI.out).cell 4 _ rfl
              have ol := (BO.out wr HI.out).lt
              have j0 : (0 : Int) ≤ (j : Int) := by omega
              have j1 : (j : Int) < (m : Int) := by omega
              have ej : IntKind.i64.wrap ((j : Int) + 1) = (j : Int) + 1 := IntWalk.i64_in _ (by omega)
              have HB1 := Lib.hid HI.out
              obtain ⟨L1, hL1⟩ : ∃ L1, (l.take (j + 1)).all (Rul.relH · O) = L1 := ⟨_, rfl⟩
              rw [hL1] at HA2
              have HL1 := Lib.hid hL1
              clear hL1
              generalize (l.take j).all (Rul.relH · O) = L0 at *
              generalize Rul.relH y O = LY at *
              clear hry hy hyl
              go_wp2_with fail
              refine wp_region_held_drew (S := fun w' => w'.cell? ⟨b, off + k, none⟩ = some (.slice (some ⟨b1, of1, none⟩) m pc) ∧ w'.cell? ⟨w.heap.size, 0, none⟩ = some (.int .i64 oi) ∧ w'.cell? ⟨w.heap.size, 1, none⟩ = some (.int .i64 ov) ∧ w'.cell? ⟨w.heap.size, 2, none⟩ = some (.int .i64 ow) ∧ w'.cell? ⟨w.heap.size, 3, none⟩ = some (.int .i64 of) ∧ w'.cell? ⟨w.heap.size, 4, none⟩ = some (.int .i64 ot) ∧ Hid (Below v.heap.size v w')) (by kernel_rfl) (by exact ⟨by go_keep, by go_keep, by go_keep, by go_keep, by go_keep, by go_keep, Lib.hid (Below.drew HB1.out)⟩) (fun hHeld => ?_)
              refine take_run (d := (some 61)) (v := ?v29) 0 rfl rfl (by kernel_rfl) (by kernel_rfl) (by kernel_rfl) (fun _ _ _ h => h) (by rfl) hHeld ?hy29 ?rs29
              case hy29 => (intro w hSw; (try dsimp only at hSw); go_simp) <;> (try with_reducible rfl)
              (try simp only [Act.put, List.setIfInBounds_toArray, List.set_cons_zero, List.set_cons_succ])
              refine take_run (d := (some 62)) (v := ?v30) 1 rfl rfl (by kernel_rfl) (by kernel_rfl) (by kernel_rfl) (fun _ _ _ h => h) (by rfl) hHeld ?hy30 ?rs30
              case hy30 => (intro w hSw; (try dsimp only at hSw); go_simp) <;> (try with_reducible rfl)
              (try simp only [Act.put, List.setIfInBounds_toArray, List.set_cons_zero, List.set_cons_succ])
              refine take_run (d := (some 63)) (v := ?v31) 2 rfl rfl (by kernel_rfl) (by kernel_rfl) (by kernel_rfl) (fun _ _ _ h => h) (by rfl) hHeld ?hy31 ?rs31
              case hy31 => (intro w hSw; (try dsimp only at hSw); go_simp) <;> (try with_reducible rfl)
              (try simp only [Act.put, List.setIfInBounds_toArray, List.set_cons_zero, List.set_cons_succ])
              refine take_run (d := (some 64)) (v := ?v32) 3 rfl rfl (by kernel_rfl) (by kernel_rfl) (by kernel_rfl) (fun _ _ _ h => h) (by rfl) hHeld ?hy32 ?rs32
              case hy32 => (intro w hSw; (try dsimp only at hSw); go_simp) <;> (try with_reducible rfl)
              (try simp only [Act.put, List.setIfInBounds_toArray, List.set_cons_zero, List.set_cons_succ])
              refine take_run (d := (some 65)) (v := ?v33) 4 rfl rfl (by kernel_rfl) (by kernel_rfl) (by kernel_rfl) (fun _ _ _ h => h) (by rfl) hHeld ?hy33 ?rs33
              case hy33 => (intro w hSw; (try dsimp only at hSw); go_simp) <;> (try with_reducible rfl)
              (try simp only [Act.put, List.setIfInBounds_toArray, List.set_cons_zero, List.set_cons_succ])
              refine take_run (d := (some 66)) (v := ?v34) 5 rfl rfl (by kernel_rfl) (by kernel_rfl) (by kernel_rfl) (fun _ _ _ h => h) (by rfl) hHeld ?hy34 ?rs34
              case hy34 => (intro w hSw; (try dsimp only at hSw); go_simp) <;> (try with_reducible rfl)
              (try simp only [Act.put, List.setIfInBounds_toArray, List.set_cons_zero, List.set_cons_succ])
              refine take_run (d := (some 67)) (v := ?v35) 6 rfl rfl (by kernel_rfl) (by kernel_rfl) (by kernel_rfl) (fun _ _ _ h => h) (by rfl) hHeld ?hy35 ?rs35
              case hy35 => (intro w hSw; (try dsimp only at hSw); go_simp) <;> (try with_reducible rfl)
              (try simp only [Act.put, List.setIfInBounds_toArray, List.set_cons_zero, List.set_cons_succ])
              refine take_run (d := (some 68)) (v := ?v36) 7 rfl rfl (by kernel_rfl) (by kernel_rfl) (by kernel_rfl) (fun _ _ _ h => h) (by rfl) hHeld ?hy36 ?rs36
              case hy36 => (intro w hSw; (try dsimp only at hSw); go_simp) <;> (try with_reducible rfl)
              (try simp only [Act.put, List.setIfInBounds_toArray, List.set_cons_zero, List.set_cons_succ])
              refine take_run (d := (some 70)) (v := ?v37) 9 rfl rfl (by kernel_rfl) (by kernel_rfl) (by kernel_rfl) (fun _ _ _ h => h) (by rfl) hHeld ?hy37 ?rs37
              case hy37 => (intro w hSw; (try dsimp only at hSw); go_simp) <;> (try with_reducible rfl)
              (try simp only [Act.put, List.setIfInBounds_toArray, List.set_cons_zero, List.set_cons_succ])
              refine take_call 8 rfl (by kernel_rfl) (by rfl) (fun K hK => ?_)
              go_simp
              have hHeld0 := hHeld
              obtain ⟨h0, h1, h2, h3, h4, h5, hw⟩ := hHeld
              refine hK.out _ _ (by exact ⟨cell_keep h0 (blw_alloc _ _), cell_keep h1 (blw_alloc _ _), cell_keep h2 (blw_alloc _ _), cell_keep h3 (blw_alloc _ _), cell_keep h4 (blw_alloc _ _), cell_keep h5 (blw_alloc _ _), Lib.hid (blw_trans hw.out (blw_alloc _ _))⟩) (fun hHeld => ?_)
              clear hK K h0 h1 h2 h3 h4 h5 hw
              (try simp only [Act.put, List.setIfInBounds_toArray, List.set_cons_zero, List.set_cons_succ])
              refine take_call 10 rfl (by kernel_rfl) (by rfl) (fun K hK => ?_)
              go_simp
              refine (C3.out _ (by obtain ⟨_, _, _, _, _, _, h1⟩ := hHeld0; exact h1.out)).mono ?_
              rintro e w' ⟨rfl, hb⟩
              refine hK.out _ _ (by obtain ⟨h0, h1, h2, h3, h4, h5, hw⟩ := hHeld; exact ⟨cell_keep h0 hb, cell_keep h1 hb, cell_keep h2 hb, cell_keep h3 hb, cell_keep h4 hb, cell_keep h5 hb, Lib.hid (blw_trans hw.out hb)⟩) (fun hHeld => ?_)
              clear hK K
              (try simp only [Act.put, List.setIfInBounds_toArray, List.set_cons_zero, List.set_cons_succ])
              refine take_run (d := (some 60)) (v := ?v40) 11 rfl rfl (by kernel_rfl) (by kernel_rfl) (by kernel_rfl) (fun _ _ _ h => h) (by rfl) hHeld ?hy40 ?rs40
              case hy40 => (intro w hSw; (try dsimp only at hSw); go_simp) <;> (try with_reducible rfl)
              (try simp only [Act.put, List.setIfInBounds_toArray, List.set_cons_zero, List.set_cons_succ])
              refine take_run (d := (some 72)) (v := ?v41) 12 rfl rfl (by kernel_rfl) (by kernel_rfl) (by kernel_rfl) (fun _ _ _ h => h) (by rfl) hHeld ?hy41 ?rs41
              case hy41 => (intro w hSw; (try dsimp only at hSw); go_simp) <;> (try with_reducible rfl)
              (try simp only [Act.put, List.setIfInBounds_toArray, List.set_cons_zero, List.set_cons_succ])
              refine take_run (d := (some 73)) (v := ?v42) 13 rfl rfl (by kernel_rfl) (by kernel_rfl) (by kernel_rfl) (fun _ _ _ h => h) (by rfl) hHeld ?hy42 ?rs42
              case hy42 => (intro w hSw; (try dsimp only at hSw); go_simp) <;> (try with_reducible rfl)
              (try simp only [Act.put, List.setIfInBounds_toArray, List.set_cons_zero, List.set_cons_succ])
              refine take_run (d := (some 14)) (v := ?v43) 14 rfl rfl (by kernel_rfl) (by kernel_rfl) (by kernel_rfl) (fun _ _ _ h => h) (by rfl) hHeld ?hy43 ?rs43
              case hy43 => (intro w hSw; (try dsimp only at hSw); go_simp) <;> (try with_reducible rfl)
              (try simp only [Act.put, List.setIfInBounds_toArray, List.set_cons_zero, List.set_cons_succ])
              refine take_run (d := (some 15)) (v := ?v44) 15 rfl rfl (by kernel_rfl) (by kernel_rfl) (by kernel_rfl) (fun _ _ _ h => h) (by rfl) hHeld ?hy44 ?rs44
              case hy44 => (intro w hSw; (try dsimp only at hSw); go_simp) <;> (try with_reducible rfl)
              (try simp only [Act.put, List.setIfInBounds_toArray, List.set_cons_zero, List.set_cons_succ])
              refine wpAnyH_done (by kernel_rfl) ?_ _
              obtain ⟨z0, z1, z2, z3, z4, z5, zW⟩ := hHeld
              clear C3 SL o0 q1 o2 o3 o4 ol z0 z1 z2 z3 z4 z5 hHeld0
              cases L0 with
              | true =>
                obtain rfl : L1 = LY := by rw [HA2.out]; rfl
                go_wp2_with fail
                go_roundw
                case rel => exact ⟨j + 1, by go_num, by omega, by rw [HL1.out], zW⟩
                case measure => simp [RowKit.intOf]; omega
              | false =>
                obtain rfl : L1 = false := by rw [HA2.out]; rfl
                go_wp2_with fail
                go_roundw
                case rel => exact ⟨j + 1, by go_num, by omega, by rw [HL1.out], zW⟩
                case measure => simp [RowKit.intOf]; omega
            · have e : j = m := by omega
              subst e
              have HF := Lib.hid (show (l.take j).all (Rul.relH · O) = PH1 by rw [HPH.out, List.take_of_length_le (by have := HM.out; omega)])
              rw [HF.out]
              clear HF
              have ePP : (PH1 == PH1) = true := by simp
              go_wp2_with fail
              go_roundw
              case rel => exact ⟨k + 1, by go_num, by omega, by rw [HAN1.out, HA.out]; rfl, HI⟩
              case measure => simp [RowKit.intOf]; omega
      · have e : k = n := by omega
        subst e
        have HF := Lib.hid (show (r.take k).any (Rul.partH · O) = RH by rw [HH.out, List.take_of_length_le (by have := HN.out; omega)])
        rw [HF.out]
        clear HF
        go_wp2_with fail
        go_ret
        exact ⟨ret_bool (by simp), blw_trans W2.out HD.out⟩
  · have CH := Lib.hid fun (wx : World) (hb : Below w.heap.size w wx) => rholds_no r a n c oi ov ow of ot wx (hr.rule_below hb) (by omega) (by omega) (fun l hl x hx => by have := hrs l hl x hx; omega) hE
    generalize Rul.ruleE r = E at *
    clear hr hl hc hrs hE hT
    go_enter Tryd.func4, Tryd.ntmps4
    go_wp2_with fail
    refine (CF.out _ W0.out).mono ?_
    rintro e w1 ⟨rfl, hb⟩
    have W1 := Lib.hid (blw_trans W0.out hb)
    have B1 := Lib.hid (B0.out.below hb)
    have k0 := B1.out.cell 0 _ rfl
    have k1 := B1.out.cell 1 _ rfl
    have k2 := B1.out.cell 2 _ rfl
    have k3 := B1.out.cell 3 _ rfl
    have k4 := B1.out.cell 4 _ rfl
    have kl := B1.out.lt
    clear hb CF W0 B0
    go_wp2_with fail
    refine (CH.out _ W1.out).mono ?_
    rintro e w2 ⟨rfl, hb⟩
    have W2 := Lib.hid (blw_trans W1.out hb)
    clear hb CH W1
    go_wp2_with fail
    go_ret
    exact ⟨rfl, W2.out⟩
end Go.Proofs.YtoglgcjdjbjlmaaDoor
namespace Go.Proofs.YtoglgcjdjbjlmaaDoor.lawRuleParts
open Go.ChangeShapes Go.WideShapes Go.ChangeAt Go.RowKit Go.Joins

theorem own : ownKnob Tryd.prog.godebug = none := by kernel_rfl
theorem laidOut : laidOutB Tryd.prog = true := by kernel_rfl
theorem cellsRel : Tryd.prog.cellsOf 60 = 4 := by kernel_rfl
theorem cellsOps : Tryd.prog.cellsOf 33 = 5 := by kernel_rfl

set_option maxRecDepth 100000 in
theorem contract (H : Type) (enc : TypeId × Value → H) (W : World) (base : Nat) (args : Array Value) (ds gs : List (DataW H)) (before : List MemPlace)
    (hval : ∀ (j : Nat) t v, Tryd.f4.params[j]? = some t → args[j]? = some v → Value.okWide Tryd.prog W .any base t v)
    (hW : DataW.Whole enc Tryd.prog Tryd.f4.params.toList Rows.rulePartsSpec.vars false W args.toList ds gs before) (hk : Rows.uptoSmall H (ds ++ gs) = true) (hL : laidMetH Tryd.prog Rows.rulePartsUptoRow.laid W) (hS : W.ShapedOpen Tryd.prog) :
    Calls Tryd.prog 4 args W fun e W' => ∃ v, e = .returned v ∧ Rows.rulePartsSpec.post enc Tryd.prog Tryd.f4 false true false false W args v W' := by
  have hpost : ∀ W', Below W.heap.size W W' → Rows.rulePartsSpec.post enc Tryd.prog Tryd.f4 false true false false W args (.bool true) W' := fun W' hb =>
    law_post (tb := 4) laidOut rfl Tryd.underlying4 rfl (by kernel_rfl) (fun ds h => by match ds, h with | [x0, x1], _ => rfl) hW hb
  obtain ⟨p, q, hA0, hV, _, hfz, hnd⟩ := hW
  have hA : DataW.TrodAll enc Tryd.prog W 0 (fun _ => true) true Tryd.f4.params.toList args.toList ds p := hA0
  obtain ⟨rfl, rfl⟩ := trodVars_none hV
  rw [Tryd.params4] at hA hval
  obtain ⟨v0, vs0, d0, ds0, p0, q0, hargs, rfl, hp0, h0, r0⟩ := trodAll_cons hA
  obtain ⟨v1, vs1, d1, ds1, p1, q1, rfl, rfl, hp1, h1, r1⟩ := trodAll_cons r0
  obtain ⟨rfl, rfl, hp⟩ := trodAll_nil r1
  obtain rfl : args = #[v0, v1] := by cases args; simp_all
  obtain ⟨r_a, r_n, r_c, rfl⟩ := okWide_slice Tryd.underlying22 (hval 0 22 v0 rfl rfl)
  obtain ⟨r_f, r_h⟩ := h0
  obtain ⟨r, r_at, r_len, r_cnt, r_mass, r_rs⟩ := rule_open Tryd.underlying22 (by kernel_rfl) Tryd.underlying36 Tryd.underlying60 cellsRel Tryd.underlying5 Tryd.underlying3 Tryd.underlying4 Tryd.underlying58 Tryd.underlying84 (by kernel_rfl) Tryd.underlying3 (by kernel_rfl) (by kernel_rfl) r_h
  obtain ⟨c1_0, c1_1, c1_2, c1_3, c1_4, y1_0, y1_1, y1_2, y1_3, y1_4, m1, rfl, rfl, rfl, hy1_0, hy1_1, hy1_2, hy1_3, hy1_4⟩ := open_agg5 Tryd.underlying33 (by kernel_rfl) cellsOps (hval 1 33 v1 rfl rfl) h1
  obtain ⟨o_i, e1_0, _, w_o_i⟩ := DataW.trod_int Tryd.underlying3 hy1_0
  obtain ⟨o_v, e1_1, _, w_o_v⟩ := DataW.trod_int Tryd.underlying3 hy1_1
  obtain ⟨o_w, e1_2, _, w_o_w⟩ := DataW.trod_int Tryd.underlying3 hy1_2
  obtain ⟨o_f, e1_3, _, w_o_f⟩ := DataW.trod_int Tryd.underlying3 hy1_3
  obtain ⟨o_t, e1_4, _, w_o_t⟩ := DataW.trod_int Tryd.underlying3 hy1_4
  simp at e1_0 e1_1 e1_2 e1_3 e1_4
  subst e1_0 e1_1 e1_2 e1_3 e1_4
  have b_o_i := bounds_i64 w_o_i
  have b_o_v := bounds_i64 w_o_v
  have b_o_w := bounds_i64 w_o_w
  have b_o_f := bounds_i64 w_o_f
  have b_o_t := bounds_i64 w_o_t
  clear hA0 hfz hnd hval
  have hm : MaxW W := Go.Proofs.cell_of_shapedOpen_int (zero := #[.int .i64 0]) (t := 3) hS (of_decide_eq_true (by kernel_rfl)) (by kernel_rfl) rfl (by kernel_rfl) (by kernel_rfl) Tryd.underlying3
  have hT : TR W := ⟨powW_of hL (by kernel_rfl), numW_of hL (by kernel_rfl) (by kernel_rfl), hm⟩
  have hq := bulk_small hk
  simp only [List.append_nil, Rows.uptoBulkAll, Rows.uptoBulk, Array.length_toList] at hq
  refine Calls.mono (?_ : Calls Tryd.prog 4 #[.slice r_a r_n r_c, .agg #[.int .i64 o_i, .int .i64 o_v, .int .i64 o_w, .int .i64 o_f, .int .i64 o_t]] W fun e w' => e = .returned (.bool true) ∧ Below W.heap.size W w') fun e W' ⟨he, hb⟩ => ⟨_, he, hpost W' hb⟩
  exact ruleparts_any r r_a r_n r_c o_i o_v o_w o_f o_t W hT r_at (by omega) (by omega) (fun l hl x hx => by have := r_rs l hl x hx; omega)

theorem start_met (os : Os) : laidMetH Tryd.prog Rows.rulePartsUptoRow.laid ((World.laidAll Tryd.prog os Rows.rulePartsUptoRow.laid).forCall (fun _ _ => 0) ⟨#[], #[.slice none 0 0, .agg #[.int .i64 0, .int .i64 0, .int .i64 0, .int .i64 0, .int .i64 0]], []⟩).memory :=
  by rw [MakeChecks.laidMetH_plain _ _ _ (by kernel_rfl)]; exact laidMet_laidAll _ (by kernel_rfl) (by kernel_rfl)
theorem start_reads (os : Os) {H : Type} (enc : TypeId × Value → H) : ∃ places, DataW.whole enc Tryd.prog ((World.laidAll Tryd.prog os Rows.rulePartsUptoRow.laid).forCall (fun _ _ => 0) ⟨#[], #[.slice none 0 0, .agg #[.int .i64 0, .int .i64 0, .int .i64 0, .int .i64 0, .int .i64 0]], []⟩).memory Tryd.f4.params.toList Rows.rulePartsSpec.vars false (#[.slice none 0 0, .agg #[.int .i64 0, .int .i64 0, .int .i64 0, .int .i64 0, .int .i64 0]] : Array Value).toList 8 = some ([.nil, .agg [.lit (.int .i64 0), .lit (.int .i64 0), .lit (.int .i64 0), .lit (.int .i64 0), .lit (.int .i64 0)]], [], places) :=
  ⟨[], by kernel_rfl⟩

set_option maxRecDepth 100000 in
theorem lifted (os : Os) (started : os.Started) (H : Type) (enc : TypeId × Value → H) (F : Stop.Interp) :
    ReturnsInHanded {} Tryd.checked os 4 .any ((Rows.OpenSpec.upto Rows.rulePartsSpec).preRow enc Tryd.prog Tryd.f4 Rows.rulePartsUptoRow.domain false Rows.rulePartsUptoRow.laid) (((Rows.OpenSpec.upto Rows.rulePartsSpec).at F).post enc Tryd.prog Tryd.f4 false true false false) := by
  obtain ⟨places, hx⟩ := start_reads os enc
  refine returnsInHanded_of_row (C := Tryd.checked) (s := Rows.OpenSpec.upto Rows.rulePartsSpec) own started (by kernel_rfl) Tryd.func4
    (witness_row_atRef (enc := enc) (C := Tryd.checked) false (World.laidAll Tryd.prog os Rows.rulePartsUptoRow.laid) #[.slice none 0 0, .agg #[.int .i64 0, .int .i64 0, .int .i64 0, .int .i64 0, .int .i64 0]] (World.laidAll_os _ _ _) (by kernel_rfl) (by kernel_rfl) (by kernel_rfl)
      (OpenSpec.preRow_of_cond 8 hx (by kernel_rfl) (fun k hk => by cases hk; kernel_rfl) (by kernel_rfl) (start_met os))) ?_
  intro W base args ds gs before hval hW _ hcond _ hL hS _
  exact contract H enc W base args ds gs before hval hW (hcond _ rfl) hL hS

theorem said : Rows.RulePartsUptoSaid :=
  OpenClaim.holds_of_cond 4 Tryd.f4 rfl rfl rfl rfl rfl rfl rfl ⟨rfl, rfl, rfl, rfl, rfl⟩ rfl rfl rfl rfl rfl (by kernel_rfl) Tryd.func4 (by kernel_rfl)
    (of_decide_eq_true (by kernel_rfl)) (by unfold Func.isWrapper; first | (rw [if_pos (by decide +kernel)]; kernel_rfl) | (rw [if_neg (by decide +kernel)]; exact ⟨rfl, rfl⟩))
    (fun os started H enc _ F => by rw [OpenClaim.pre_eq_preRow]; exact lifted os started H enc F)

theorem plain (f : FuncId) (fn : Func) (hf : Tryd.pinned.checked.prog.funcNamed "linguister/linguisterlaw1.RuleParts" = some f) (hfn : Tryd.pinned.checked.prog.funcs[f]? = some fn) :
    true = Tryd.pinned.checked.prog.looks [] ∧ ∀ (j : Nat) t, fn.params[j]? = some t → Tryd.pinned.checked.prog.wantsStandIn t = false := by
  obtain rfl : f = 4 := Option.some.inj ((show Tryd.prog.funcNamed "linguister/linguisterlaw1.RuleParts" = some 4 by kernel_rfl).symm.trans hf) |>.symm
  obtain rfl : fn = Tryd.f4 := (Option.some.inj (Tryd.func4.symm.trans hfn)).symm
  refine ⟨by kernel_rfl, fun j t ht => ?_⟩
  rw [Tryd.params4] at ht
  have hm : t ∈ [22, 33] := by simpa using Array.mem_of_getElem? ht
  have hall : ([22, 33].all fun u => !Tryd.prog.wantsStandIn u) = true := by kernel_rfl
  exact (show Tryd.prog.wantsStandIn t = false by simpa using List.all_eq_true.1 hall t hm)

theorem proved : Rows.RulePartsUptoCardSaid :=
  Claim7.holds_tied_plain_at .later [] _ _ _ _ said (fun _ h => by cases h) (by kernel_rfl) (fun _ h => by cases h) rulePartsUpto_row_tie rfl ⟨rfl, rfl⟩ (by kernel_rfl) rfl plain (by kernel_rfl)
#print axioms proved
end Go.Proofs.YtoglgcjdjbjlmaaDoor.lawRuleParts
