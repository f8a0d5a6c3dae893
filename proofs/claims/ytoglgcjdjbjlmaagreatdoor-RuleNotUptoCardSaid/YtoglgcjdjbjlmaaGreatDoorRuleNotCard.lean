/- The law RuleNot, proved where what it reads is of bulk at most 1048576: the call returns true of every input, and turns nothing that was there. Conditions: the row's own (the listed variables hold what the program's text lays; the card ties them). -/
import Derived.Test.YtoglgcjdjbjlmaaGreatDoorBox
import Derived.Stop.Joined
import Derived.Lib.SmallJoins
import Derived.OpenShut
import Derived.Test.YtoglgcjdjbjlmaaGreatDoorRparse
import Derived.WalkKit
import Derived.MapKept
import Derived.Test.YtoglgcjdjbjlmaaGreatDoorRulQ
import Derived.Test.YtoglgcjdjbjlmaaGreatDoorRulFind
import Derived.Test.YtoglgcjdjbjlmaaGreatDoorBoxS
import Derived.Lib.Hide
import Derived.Test.YtoglgcjdjbjlmaaGreatDoorRchk
import Derived.Test.YtoglgcjdjbjlmaaGreatDoorRparA
import Derived.Maps.AppendAt
import Derived.Test.YtoglgcjdjbjlmaaGreatDoorAs
import Derived.Deep.DeepCutAuto
import Derived.Deep.CutRange
import Derived.Test.YtoglgcjdjbjlmaaGreatDoorRows
import Derived.Test.YtoglgcjdjbjlmaaGreatDoorRulAt
import Derived.Deep.Slices
import Derived.Deep.Fields
import Derived.ChangeSame
import Derived.Test.YtoglgcjdjbjlmaaGreatDoorItoa
import Derived.LaidSub
import Derived.MakeChecks
import Derived.Lay
import Derived.LaidMore
import Derived.Test.YtoglgcjdjbjlmaaGreatDoorCards
import Derived.Test.YtoglgcjdjbjlmaaGreatDoorTie
import Derived.Deep.DeepHandedRow
import Derived.Deep.DeepWitnessRowRef
import Derived.Test.YtoglgcjdjbjlmaaGreatDoorFrame
import Derived.Test.YtoglgcjdjbjlmaaGreatDoorHan
namespace Go.Proofs.YtoglgcjdjbjlmaaGreatDoor
open Go.ChangeShapes Go.WideShapes Go.RowKit Go.Joins Go.Deep

section
variable {H : Type} {enc : TypeId × Value → H} {P : Program} {w : World} {base : Nat} {spare : Nat → Bool} {held : Bool}
theorem open_agg5 {r : Reach} {b0 : Nat} {t : TypeId} {f0 f1 f2 f3 f4 : Field} {v : Value} {d : DataW H} {p : List MemPlace} (hs : P.underlying t = some (.struct #[f0, f1, f2, f3, f4])) (hone : oneCellFields P #[f0, f1, f2, f3, f4] = true) (hC : P.cellsOf t = 5)
    (hv : Value.okWide P w r b0 t v) (h : DataW.Trod enc P w base spare held t v d p) :
    ∃ (v0 v1 v2 v3 v4 : Value) (y0 y1 y2 y3 y4 : DataW H × List MemPlace) (n : Nat), v = .agg #[v0, v1, v2, v3, v4] ∧ d = .agg [y0.1, y1.1, y2.1, y3.1, y4.1] ∧ p = y0.2 ++ (y1.2 ++ (y2.2 ++ (y3.2 ++ y4.2))) ∧
      DataW.trod enc P w base spare held n f0.type [v0] = some y0 ∧ DataW.trod enc P w base spare held n f1.type [v1] = some y1 ∧ DataW.trod enc P w base spare held n f2.type [v2] = some y2 ∧ DataW.trod enc P w base spare held n f3.type [v3] = some y3 ∧ DataW.trod enc P w base spare held n f4.type [v4] = some y4 := by
  obtain ⟨cs, rfl, hsz⟩ := okWide_struct hs hv
  obtain ⟨c0, c1, c2, c3, c4, rfl⟩ : ∃ c0 c1 c2 c3 c4, cs = #[c0, c1, c2, c3, c4] := by
    obtain ⟨l⟩ := cs
    match l, hsz.trans hC with
    | [c0, c1, c2, c3, c4], _ => exact ⟨c0, c1, c2, c3, c4, rfl⟩
  obtain ⟨fuel, hf⟩ := h
  obtain ⟨xs, n, _, hx, _, hlen, hg⟩ := DataW.trod_struct hs hf
  obtain ⟨y0, y1, y2, y3, y4, rfl⟩ : ∃ y0 y1 y2 y3 y4, xs = [y0, y1, y2, y3, y4] := by
    match xs, hlen with
    | [y0, y1, y2, y3, y4], _ => exact ⟨y0, y1, y2, y3, y4, rfl⟩
  obtain ⟨o0, k0⟩ := hone_of hone 0 f0 rfl
  obtain ⟨o1, k1⟩ := hone_of hone 1 f1 rfl
  obtain ⟨o2, k2⟩ := hone_of hone 2 f2 rfl
  obtain ⟨o3, k3⟩ := hone_of hone 3 f3 rfl
  obtain ⟨o4, k4⟩ := hone_of hone 4 f4 rfl
  have h0 := hg 0 f0 rfl
  have h1 := hg 1 f1 rfl
  have h2 := hg 2 f2 rfl
  have h3 := hg 3 f3 rfl
  have h4 := hg 4 f4 rfl
  simp only [Prod.mk.injEq] at hx
  exact ⟨c0, c1, c2, c3, c4, y0, y1, y2, y3, y4, n, rfl, by simpa using hx.1, by simpa using hx.2, by simpa [Value.cells, o0, k0] using h0, by simpa [Value.cells, o1, k1] using h1, by simpa [Value.cells, o2, k2] using h2, by simpa [Value.cells, o3, k3] using h3, by simpa [Value.cells, o4, k4] using h4⟩
end
end Go.Proofs.YtoglgcjdjbjlmaaGreatDoor
namespace Go.Proofs.YtoglgcjdjbjlmaaGreatDoor
open Go.ChangeShapes Go.WideShapes Go.RowKit Go.Joins Go.Deep

section
variable {H : Type} {enc : TypeId × Value → H} {P : Program} {w : World} {base : Nat} {spare : Nat → Bool} {held : Bool}
theorem open_rng {r : Reach} {b0 : Nat} {t e : TypeId} {v : Value} {d : DataW H} {p : List MemPlace} (ht : P.underlying t = some (.array 2 e)) (he : P.underlying e = some (.int .i64)) (hc : P.cellsOf e = 1) (hC : P.cellsOf t = 2)
    (hv : Value.okWide P w r b0 t v) (h : DataW.Trod enc P w base spare held t v d p) : ∃ m0 m1, v = .agg #[.int .i64 m0, .int .i64 m1] := by
  obtain ⟨cs, rfl, hsz⟩ : ∃ cs : Array Value, v = .agg cs ∧ cs.size = P.cellsOf t := by
    simp only [Value.okWide, ht] at hv
    obtain ⟨cs, h1, h2, _⟩ := hv
    exact ⟨cs, h1, h2⟩
  obtain ⟨c0, c1, rfl⟩ := array2 (hsz.trans hC)
  obtain ⟨fuel, hf⟩ := h
  obtain ⟨xs, m, _, hy, _, hxl, hx⟩ := DataW.trod_array ht hf
  have x0 := hx 0 (by omega)
  have x1 := hx 1 (by omega)
  rw [hc] at x0 x1
  rw [List.getElem?_eq_getElem (by omega)] at x0 x1
  obtain ⟨v0, e0, _⟩ := DataW.trod_int he x0
  obtain ⟨v1, e1, _⟩ := DataW.trod_int he x1
  exact ⟨v0, v1, by simp [Value.cells] at e0 e1; rw [e0, e1]⟩
end
end Go.Proofs.YtoglgcjdjbjlmaaGreatDoor
namespace Go.Proofs.YtoglgcjdjbjlmaaGreatDoor
open Go.RowKit

/-- what the rules' functions want of the start -/
structure TR (w : World) : Prop where
  p : PowW w
  n : NumW w
  m : MaxW w
theorem TR.below {w w' : World} (h : TR w) (hb : Below w.heap.size w w') : TR w' := ⟨h.p.below hb, h.n.below hb, h.m.below hb⟩

set_option maxRecDepth 100000 in
set_option maxHeartbeats 1000000 in
theorem ruled_any (w : World) (hM : MaxW w) (hN : NumW w) (hp : PowW w) : Calls Tryz.prog 6 #[] w fun e w' => e = .returned (.bool true) ∧ Below w.heap.size w w' := by
  have CP := Lib.hid (rparse_any Rul.firstS w hM hN hp (by decide))
  have e1 : Rul.firstS = [105, 32, 61, 32, 49, 32, 97, 110, 100, 32, 118, 32, 61, 32, 48] := rfl
  have HF := Lib.hid Rul.first_parse
  rw [e1] at CP HF
  clear hM hN hp e1
  go_enter Tryz.func6, Tryz.ntmps6
  go_wp2_with fail
  refine CP.out.mono ?_
  rintro e w2 ⟨v, f, rfl, hP, hb⟩
  rcases hP with ⟨_, rfl, a, n, c, rfl, hs⟩ | ⟨h, _⟩
  · rw [HF.out.2] at hs
    rcases hs with ⟨e, _⟩ | ⟨b, off, cap, e1, _, _, _, hc⟩
    · cases e
    injection e1 with e1 e2 e3
    subst e1 e2 e3
    obtain ⟨pa, pn, pc, p0, ps⟩ := hc 0 _ rfl
    rw [Nat.zero_mul, Nat.add_zero] at p0
    obtain ⟨A1, cap1, e1, _⟩ := ps.spread
    injection e1 with e1 e2 e3
    subst e1 e2 e3
    have W2 := Lib.hid hb
    clear hb hc ps CP
    simp only [Rul.firstR, List.length_cons, List.length_nil, Nat.reduceAdd] at *
    go_wp2_with fail
    go_ret
    exact ⟨rfl, W2.out⟩
  · rw [HF.out.1] at h; cases h
end Go.Proofs.YtoglgcjdjbjlmaaGreatDoor
namespace Go.Proofs.YtoglgcjdjbjlmaaGreatDoor
open Go.RowKit Go.MapKept

theorem mapb_new {P : Program} (T K E : TypeId) (hT : P.underlying T = some (.map K E)) (hK : P.underlying K = some (.int .u8)) (es : Array MapEntry) (c : Nat) (k : Int) (v : Value)
    (hf : Instr.findNow (.int .u8) (.int .u8 k) es.toList 0 = some none) (w : World) :
    (Instr.mapUpdate T (.map (some w.heap.size)) (.int .u8 k) v).run P (w.alloc (.map es c)) = .ok () (w.alloc (.map (es.push { key := .int .u8 k, val := v, born := c }) (c + 1))) := by
  have hb : (w.alloc (.map es c)).heap[w.heap.size]? = some (.map es c) := by show (w.heap.push _)[w.heap.size]? = _; simp
  have e : ({ (w.alloc (.map es c)) with heap := (w.alloc (.map es c)).heap.setIfInBounds w.heap.size (.map (es.push { key := .int .u8 k, val := v, born := c }) (c + 1)) } : World) = w.alloc (.map (es.push { key := .int .u8 k, val := v, born := c }) (c + 1)) := by
    show ({ w with heap := (w.heap.push _).setIfInBounds w.heap.size _ } : World) = { w with heap := w.heap.push _ }
    congr 1
    apply Array.ext_getElem?
    intro i
    rw [Array.getElem?_setIfInBounds]
    simp only [Array.getElem?_push, Array.size_push]
    by_cases h : w.heap.size = i
    · subst h; simp
    · simp [h, Ne.symm h]
  rw [← e]
  simp [Instr.mapUpdate, run_underlying hT, MapKept.run_getObj_map hb, run_checkKey hK (show IsKey (.int .u8) (.int .u8 k) from rfl), run_findKey hK hf, MapKept.run_setObj_map _ hb, Result.andThen]
theorem mapb_look {P : Program} (T K E : TypeId) (hT : P.underlying T = some (.map K E)) (hK : P.underlying K = some (.int .u8)) (es : Array MapEntry) (c r i : Nat) (k : Int) (v : Value) (w : World)
    (hb : w.heap[r]? = some (.map es c)) (hf : Instr.findNow (.int .u8) (.int .u8 k) es.toList 0 = some (some (i, v))) :
    (Instr.lookup T (.map (some r)) (.int .u8 k) false).run P w = .ok v w := by
  simp [Instr.lookup, run_underlying hT, MapKept.run_getObj_map hb, run_checkKey hK (show IsKey (.int .u8) (.int .u8 k) from rfl), run_findKey hK hf, Result.andThen]
theorem top_alloc' (w : World) (o : Obj) (n : Nat) (h : n = w.heap.size) : (w.alloc o).heap[n]? = some o := by subst h; show (w.heap.push _)[w.heap.size]? = _; simp
end Go.Proofs.YtoglgcjdjbjlmaaGreatDoor
namespace Go.Proofs.YtoglgcjdjbjlmaaGreatDoor
open Go.RowKit

set_option maxRecDepth 100000 in
set_option maxHeartbeats 1000000 in
theorem holds1_any (x : Int) (p : Int × Int) (q : Nat) (w : World) (h : w.cell? ⟨q, 0, none⟩ = some (.int .i64 x)) :
    Calls Tryz.prog 61 (#[.agg #[.int .i64 p.1, .int .i64 p.2]] ++ #[.pointer (some ⟨q, 0, none⟩)]) w fun e w' => e = .returned (.bool (Rul.rngHas x p)) ∧ Below w.heap.size w w' := by
  obtain ⟨a, b⟩ := p
  dsimp only
  have HR := Lib.hid (show Rul.rngHas x (a, b) = (decide (a ≤ x) && decide (x ≤ b)) from rfl)
  have hq := World.block_lt_of_cell? w _ h
  generalize Rul.rngHas x (a, b) = R at *
  show Calls _ _ #[_, _] _ _
  by_cases h0 : a ≤ x
  · have d0 : decide (a ≤ x) = true := dec_yes h0
    have d0' : decide (x ≥ a) = true := dec_yes h0
    by_cases h1 : x ≤ b
    · have d1 : decide (x ≤ b) = true := dec_yes h1
      obtain rfl : R = true := by rw [HR.out, d0, d1]; rfl
      go_enter Tryz.func61, Tryz.ntmps61
      go_wp2_with fail
      go_ret
      exact ⟨ret_bool (by simp), blw_alloc _ _⟩
    · have d1 : decide (x ≤ b) = false := dec_no h1
      obtain rfl : R = false := by rw [HR.out, d0, d1]; rfl
      go_enter Tryz.func61, Tryz.ntmps61
      go_wp2_with fail
      go_ret
      exact ⟨ret_bool (by simp), blw_alloc _ _⟩
  · have d0 : decide (a ≤ x) = false := dec_no h0
    obtain rfl : R = false := by rw [HR.out, d0]; rfl
    have d0' : decide (x ≥ a) = false := dec_no h0
    go_enter Tryz.func61, Tryz.ntmps61
    go_wp2_with fail
    go_ret
    exact ⟨ret_bool (by simp), blw_alloc _ _⟩
theorem holds1_at (args : Array Value) (w : World) : (callFunc 61 args).run Tryz.prog w = .ok (.enter 61 args) w := enters_of Tryz.func61 (by kernel_rfl) rfl args w

/-- the map's first entries -/
def hm0 (_ : Rul.Op5) : Array MapEntry := #[]
def hm1 (o : Rul.Op5) : Array MapEntry := (hm0 o).push { key := .int .u8 110, val := .int .i64 o.i, born := 0 }
def hm2 (o : Rul.Op5) : Array MapEntry := (hm1 o).push { key := .int .u8 105, val := .int .i64 o.i, born := 1 }
def hm3 (o : Rul.Op5) : Array MapEntry := (hm2 o).push { key := .int .u8 118, val := .int .i64 o.v, born := 2 }
def hm4 (o : Rul.Op5) : Array MapEntry := (hm3 o).push { key := .int .u8 119, val := .int .i64 o.w, born := 3 }
def hm5 (o : Rul.Op5) : Array MapEntry := (hm4 o).push { key := .int .u8 102, val := .int .i64 o.f, born := 4 }
def hm6 (o : Rul.Op5) : Array MapEntry := (hm5 o).push { key := .int .u8 116, val := .int .i64 o.t, born := 5 }
theorem opv_of {c : UInt8} (h : Rul.opOk c = true) (o : Rul.Op5) : ∃ i, Instr.findNow (.int .u8) (.int .u8 (c.toNat : Int)) (hm6 o).toList 0 = some (some (i, .int .i64 (Rul.opv c o))) := by
  rcases Rul.op_cases h with rfl | rfl | rfl | rfl | rfl | rfl
  · exact ⟨0, by kernel_rfl⟩
  · exact ⟨1, by kernel_rfl⟩
  · exact ⟨2, by kernel_rfl⟩
  · exact ⟨3, by kernel_rfl⟩
  · exact ⟨4, by kernel_rfl⟩
  · exact ⟨5, by kernel_rfl⟩

set_option maxRecDepth 100000 in
set_option maxHeartbeats 4000000 in
theorem holds_any (r : Rul.Rl) (o : Rul.Op5) (a : Option Addr) (n c : Nat) (w : World) (hs : SlAt 2 RngC w (.slice a n c) r.rs) (hok : Rul.opOk r.op = true) :
    Calls Tryz.prog 40 #[.agg #[.int .u8 (r.op.toNat : Int), .int .i64 r.mod, .bool r.no, .slice a n c], .agg #[.int .i64 o.i, .int .i64 o.v, .int .i64 o.w, .int .i64 o.f, .int .i64 o.t]] w fun e w' => e = .returned (.bool (Rul.relH r o)) ∧ Below w.heap.size w w' := by
  obtain ⟨op, mod, no, rs⟩ := r
  dsimp only at *
  obtain ⟨wA, hwA⟩ : ∃ wA, (w.alloc (.cells #[.int .u8 (op.toNat : Int), .int .i64 mod, .bool no, .slice a n c] 45)).alloc (.cells #[.int .i64 o.i, .int .i64 o.v, .int .i64 o.w, .int .i64 o.f, .int .i64 o.t] 24) = wA := ⟨_, rfl⟩
  have zA : wA.heap.size = w.heap.size + 2 := by rw [← hwA]; simp
  have BR := Lib.hid ((Boxed.made w #[.int .u8 (op.toNat : Int), .int .i64 mod, .bool no, .slice a n c] 45).alloc (.cells #[.int .i64 o.i, .int .i64 o.v, .int .i64 o.w, .int .i64 o.f, .int .i64 o.t] 24))
  have BO := Lib.hid (Boxed.made (w.alloc (.cells #[.int .u8 (op.toNat : Int), .int .i64 mod, .bool no, .slice a n c] 45)) #[.int .i64 o.i, .int .i64 o.v, .int .i64 o.w, .int .i64 o.f, .int .i64 o.t] 24)
  have WA := Lib.hid ((blw_alloc w (.cells #[.int .u8 (op.toNat : Int), .int .i64 mod, .bool no, .slice a n c] 45)).alloc (by simp) (.cells #[.int .i64 o.i, .int .i64 o.v, .int .i64 o.w, .int .i64 o.f, .int .i64 o.t] 24))
  simp only [World.size_alloc] at BO
  rw [hwA] at BR BO WA
  have hmm : ∀ w, (Instr.makeMap 99 none).run Tryz.prog w = .ok (.map (some w.heap.size)) (w.alloc (.map (hm0 o) 0)) := fun w => @run_makeMap Tryz.prog 99 w
  have I0 := mapb_new (P := Tryz.prog) 99 5 3 Tryz.underlying99 Tryz.underlying5 (hm0 o) 0 110 (.int .i64 o.i) (by kernel_rfl) wA
  change (Instr.mapUpdate 99 (.map (some wA.heap.size)) (.int .u8 110) (.int .i64 o.i)).run Tryz.prog (wA.alloc (.map (hm0 o) 0)) = .ok () (wA.alloc (.map (hm1 o) 1)) at I0
  rw [zA] at I0
  have I1 := mapb_new (P := Tryz.prog) 99 5 3 Tryz.underlying99 Tryz.underlying5 (hm1 o) 1 105 (.int .i64 o.i) (by kernel_rfl) wA
  change (Instr.mapUpdate 99 (.map (some wA.heap.size)) (.int .u8 105) (.int .i64 o.i)).run Tryz.prog (wA.alloc (.map (hm1 o) 1)) = .ok () (wA.alloc (.map (hm2 o) 2)) at I1
  rw [zA] at I1
  have I2 := mapb_new (P := Tryz.prog) 99 5 3 Tryz.underlying99 Tryz.underlying5 (hm2 o) 2 118 (.int .i64 o.v) (by kernel_rfl) wA
  change (Instr.mapUpdate 99 (.map (some wA.heap.size)) (.int .u8 118) (.int .i64 o.v)).run Tryz.prog (wA.alloc (.map (hm2 o) 2)) = .ok () (wA.alloc (.map (hm3 o) 3)) at I2
  rw [zA] at I2
  have I3 := mapb_new (P := Tryz.prog) 99 5 3 Tryz.underlying99 Tryz.underlying5 (hm3 o) 3 119 (.int .i64 o.w) (by kernel_rfl) wA
  change (Instr.mapUpdate 99 (.map (some wA.heap.size)) (.int .u8 119) (.int .i64 o.w)).run Tryz.prog (wA.alloc (.map (hm3 o) 3)) = .ok () (wA.alloc (.map (hm4 o) 4)) at I3
  rw [zA] at I3
  have I4 := mapb_new (P := Tryz.prog) 99 5 3 Tryz.underlying99 Tryz.underlying5 (hm4 o) 4 102 (.int .i64 o.f) (by kernel_rfl) wA
  change (Instr.mapUpdate 99 (.map (some wA.heap.size)) (.int .u8 102) (.int .i64 o.f)).run Tryz.prog (wA.alloc (.map (hm4 o) 4)) = .ok () (wA.alloc (.map (hm5 o) 5)) at I4
  rw [zA] at I4
  have I5 := mapb_new (P := Tryz.prog) 99 5 3 Tryz.underlying99 Tryz.underlying5 (hm5 o) 5 116 (.int .i64 o.t) (by kernel_rfl) wA
  change (Instr.mapUpdate 99 (.map (some wA.heap.size)) (.int .u8 116) (.int .i64 o.t)).run Tryz.prog (wA.alloc (.map (hm5 o) 5)) = .ok () (wA.alloc (.map (hm6 o) 6)) at I5
  rw [zA] at I5
  obtain ⟨ix, hix⟩ := opv_of hok o
  have LK := mapb_look (P := Tryz.prog) 99 5 3 Tryz.underlying99 Tryz.underlying5 (hm6 o) 6 (w.heap.size + 2) ix (op.toNat : Int) (.int .i64 (Rul.opv op o)) (wA.alloc (.map (hm6 o) 6)) (top_alloc' wA _ _ zA.symm) hix
  clear hix
  have HX := Lib.hid (show Rul.opx ⟨op, mod, no, rs⟩ o = if mod = 0 then Rul.opv op o else (Rul.opv op o).tmod mod from rfl)
  have HR := Lib.hid (show Rul.relH ⟨op, mod, no, rs⟩ o = ((rs.any (Rul.rngHas (Rul.opx ⟨op, mod, no, rs⟩ o)) && (!decide (op = 110) || decide (o.t = 0))) != no) from rfl)
  generalize Rul.opx ⟨op, mod, no, rs⟩ o = X at *
  generalize Rul.relH ⟨op, mod, no, rs⟩ o = R at *
  have HA := Lib.hid fun (w' : World) (hb : Below w.heap.size w w') (q : Nat) (hq : w'.cell? ⟨q, 0, none⟩ = some (.int .i64 X)) => has_rng rs (Rul.rngHas X) 61 #[.pointer (some ⟨q, 0, none⟩)] holds1_at (.slice a n c) w' (hs.rngs_below hb) (Lib.hid fun x _ wx hx => holds1_any X x q wx (cell_keep hq hx))
  have ho110 : decide (op = 110) = decide ((op.toNat : Int) = 110) := by
    by_cases h : op = 110
    · subst h; rfl
    · rw [dec_no h, dec_no (fun e => h (by apply UInt8.toNat_inj.1; show op.toNat = 110; omega))]
  rw [ho110] at HR
  clear ho110
  generalize Rul.opv op o = Y at *
  generalize rs.any (Rul.rngHas X) = I at *
  generalize (op.toNat : Int) = opI at *
  clear hs hok
  subst hwA
  by_cases hm : mod = 0
  · subst hm
    obtain rfl : X = Y := by rw [HX.out, if_pos rfl]
    clear HX
    go_enter Tryz.func40, Tryz.ntmps40
    go_wp2_with fail
    refine (HA.out _ ((WA.out.alloc (by simp only [World.size_alloc]; omega) (.map (hm6 o) 6)).alloc (by simp only [World.size_alloc]; omega) (.cells #[.int .i64 X] 3)) _ (by simp [go_sem])).mono ?_
    rintro e w2 ⟨rfl, hb⟩
    have BR2 := Lib.hid (((BR.out.alloc (.map (hm6 o) 6)).alloc (.cells #[.int .i64 X] 3)).below hb)
    have BO2 := Lib.hid (((BO.out.alloc (.map (hm6 o) 6)).alloc (.cells #[.int .i64 X] 3)).below hb)
    have W2 := Lib.hid (blw_trans ((WA.out.alloc (by simp only [World.size_alloc]; omega) (.map (hm6 o) 6)).alloc (by simp only [World.size_alloc]; omega) (.cells #[.int .i64 X] 3)) hb)
    have k0 := BR2.out.cell 0 _ rfl
    have k2 := BR2.out.cell 2 _ rfl
    have k4 := BO2.out.cell 4 _ rfl
    clear hb HA BR BO WA LK hmm I0 I1 I2 I3 I4 I5
    generalize o.t = ot at *
    cases I with
    | false =>
      go_wp2_with fail
      go_ret
      exact ⟨ret_bool (by rw [HR.out]; simp), W2.out⟩
    | true =>
      by_cases h1 : opI = 110
      · have d1 : (opI == 110) = true := beq_yes h1
        by_cases h2 : ot = 0
        · have d2 : (ot == 0) = true := beq_yes h2
          have HF := Lib.hid (show R = (true != no) by rw [HR.out, dec_yes h1, dec_yes h2]; rfl)
          clear HR
          go_wp2_with fail
          go_ret
          exact ⟨ret_bool (by rw [HF.out]; simp), W2.out⟩
        · have d2 : (ot == 0) = false := beq_no h2
          have HF := Lib.hid (show R = (false != no) by rw [HR.out, dec_yes h1, dec_no h2]; rfl)
          clear HR
          go_wp2_with fail
          go_ret
          exact ⟨ret_bool (by rw [HF.out]; simp), W2.out⟩
      · have d1 : (opI == 110) = false := beq_no h1
        have HF := Lib.hid (show R = (true != no) by rw [HR.out, dec_no h1]; simp)
        clear HR
        go_wp2_with fail
        go_ret
        exact ⟨ret_bool (by rw [HF.out]; simp), W2.out⟩
  · have HXE := HX.out
    rw [if_neg hm] at HXE
    have hm0 : (mod == 0) = false := beq_no hm
    clear HX
    go_enter Tryz.func40, Tryz.ntmps40
    go_wp2_with fail
    rw [← HXE]
    clear HXE hm hm0
    refine (HA.out _ ((WA.out.alloc (by simp only [World.size_alloc]; omega) (.map (hm6 o) 6)).alloc (by simp only [World.size_alloc]; omega) (.cells #[.int .i64 X] 3)) _ (by simp [go_sem])).mono ?_
    rintro e w2 ⟨rfl, hb⟩
    have BR2 := Lib.hid (((BR.out.alloc (.map (hm6 o) 6)).alloc (.cells #[.int .i64 X] 3)).below hb)
    have BO2 := Lib.hid (((BO.out.alloc (.map (hm6 o) 6)).alloc (.cells #[.int .i64 X] 3)).below hb)
    have W2 := Lib.hid (blw_trans ((WA.out.alloc (by simp only [World.size_alloc]; omega) (.map (hm6 o) 6)).alloc (by simp only [World.size_alloc]; omega) (.cells #[.int .i64 X] 3)) hb)
    have k0 := BR2.out.cell 0 _ rfl
    have k2 := BR2.out.cell 2 _ rfl
    have k4 := BO2.out.cell 4 _ rfl
    clear hb HA BR BO WA LK hmm I0 I1 I2 I3 I4 I5
    generalize o.t = ot at *
    cases I with
    | false =>
      go_wp2_with fail
      go_ret
      exact ⟨ret_bool (by rw [HR.out]; simp), W2.out⟩
    | true =>
      by_cases h1 : opI = 110
      · have d1 : (opI == 110) = true := beq_yes h1
        by_cases h2 : ot = 0
        · have d2 : (ot == 0) = true := beq_yes h2
          have HF := Lib.hid (show R = (true != no) by rw [HR.out, dec_yes h1, dec_yes h2]; rfl)
          clear HR
          go_wp2_with fail
          go_ret
          exact ⟨ret_bool (by rw [HF.out]; simp), W2.out⟩
        · have d2 : (ot == 0) = false := beq_no h2
          have HF := Lib.hid (show R = (false != no) by rw [HR.out, dec_yes h1, dec_no h2]; rfl)
          clear HR
          go_wp2_with fail
          go_ret
          exact ⟨ret_bool (by rw [HF.out]; simp), W2.out⟩
      · have d1 : (opI == 110) = false := beq_no h1
        have HF := Lib.hid (show R = (true != no) by rw [HR.out, dec_no h1]; simp)
        clear HR
        go_wp2_with fail
        go_ret
        exact ⟨ret_bool (by rw [HF.out]; simp), W2.out⟩
end Go.Proofs.YtoglgcjdjbjlmaaGreatDoor
namespace Go.Proofs.YtoglgcjdjbjlmaaGreatDoor
open Go.RowKit

/-- the operands as a box -/
def opsC (o : Rul.Op5) : Array Value := #[.int .i64 o.i, .int .i64 o.v, .int .i64 o.w, .int .i64 o.f, .int .i64 o.t]

set_option maxRecDepth 100000 in
set_option maxHeartbeats 1000000 in
theorem holds11_any (r : Rul.Rl) (o : Rul.Op5) (q : Nat) (a : Option Addr) (n c : Nat) (w : World) (hs : SlAt 2 RngC w (.slice a n c) r.rs) (hok : Rul.opOk r.op = true) (hq : Boxed w q (opsC o)) :
    Calls Tryz.prog 39 (#[.agg #[.int .u8 (r.op.toNat : Int), .int .i64 r.mod, .bool r.no, .slice a n c]] ++ #[.pointer (some ⟨q, 0, none⟩)]) w fun e w' => e = .returned (.bool (!Rul.relH r o)) ∧ Below w.heap.size w w' := by
  have CH := Lib.hid fun (wx : World) (hb : Below w.heap.size w wx) => holds_any r o a n c wx (hs.rngs_below hb) hok
  obtain ⟨op, mod, no, rs⟩ := r
  dsimp only at *
  generalize Rul.relH ⟨op, mod, no, rs⟩ o = R at *
  generalize (op.toNat : Int) = opI at *
  have k0 := hq.cell 0 _ rfl
  have k1 := hq.cell 1 _ rfl
  have k2 := hq.cell 2 _ rfl
  have k3 := hq.cell 3 _ rfl
  have k4 := hq.cell 4 _ rfl
  have hl := hq.lt
  obtain ⟨i, v, w5, f, t⟩ := o
  dsimp only at *
  clear hs hok hq
  show Calls _ _ #[_, _] _ _
  go_enter Tryz.func39, Tryz.ntmps39
  go_wp2_with fail
  refine (CH.out _ (blw_alloc w (.cells #[.int .u8 opI, .int .i64 mod, .bool no, .slice a n c] 45))).mono ?_
  rintro e w2 ⟨rfl, hb⟩
  have W2 := Lib.hid (blw_trans (blw_alloc w (.cells #[.int .u8 opI, .int .i64 mod, .bool no, .slice a n c] 45)) hb)
  clear hb CH
  go_wp2_with fail
  go_ret
  exact ⟨rfl, W2.out⟩
theorem holds11_at (args : Array Value) (w : World) : (callFunc 39 args).run Tryz.prog w = .ok (.enter 39 args) w := enters_of Tryz.func39 (by kernel_rfl) rfl args w

theorem any_nots {α : Type} {p : α → Bool} {l : List α} : (!(l.any fun x => !p x)) = l.all p := by
  induction l with
  | nil => rfl
  | cons x r ih => rw [List.any_cons, List.all_cons, ← ih, Bool.not_or, Bool.not_not]

set_option maxRecDepth 100000 in
set_option maxHeartbeats 1000000 in
theorem holdsP_any (l : List Rul.Rl) (o : Rul.Op5) (q : Nat) (a : Option Addr) (n c : Nat) (w : World) (hs : SlAt 4 RelC w (.slice a n c) l) (hok : ∀ x ∈ l, Rul.opOk x.op = true) (hq : Boxed w q (opsC o)) :
    Calls Tryz.prog 37 (#[.slice a n c] ++ #[.pointer (some ⟨q, 0, none⟩)]) w fun e w' => e = .returned (.bool (Rul.partH l o)) ∧ Below w.heap.size w w' := by
  have HA := Lib.hid (has_rel l (fun x => !Rul.relH x o) 39 #[.pointer (some ⟨q, 0, none⟩)] holds11_at (.slice a n c) w hs (Lib.hid fun x hx za zn zc wx hb hr => holds11_any x o q za zn zc wx hr (hok x hx) (hq.below hb)))
  have HR := Lib.hid (show (!(l.any fun x => !Rul.relH x o)) = Rul.partH l o from any_nots)
  generalize (l.any fun x => !Rul.relH x o) = I at *
  generalize Rul.partH l o = R at *
  have hl := hq.lt
  clear hs hok hq
  show Calls _ _ #[_, _] _ _
  go_enter Tryz.func37, Tryz.ntmps37
  go_wp2_with fail
  refine HA.out.mono ?_
  rintro e w2 ⟨rfl, hb⟩
  go_wp2_with fail
  go_ret
  exact ⟨ret_bool HR.out, hb⟩
theorem holdsP_at (args : Array Value) (w : World) : (callFunc 37 args).run Tryz.prog w = .ok (.enter 37 args) w := enters_of Tryz.func37 (by kernel_rfl) rfl args w

set_option maxRecDepth 100000 in
set_option maxHeartbeats 1000000 in
theorem rholds_no (r : Rul.Rule) (A : Option Addr) (n c : Nat) (i v w5 f t : Int) (w : World) (hr : SlAt 1 PartC w (.slice A n c) r) (hl : r.length ≤ 1000000000) (hc : Rul.count r ≤ 1000000000) (hrs : ∀ l ∈ r, ∀ x ∈ l, x.rs.length ≤ 4000000001) (hE : Rul.ruleE r ≠ 0) :
    Calls Tryz.prog 14 #[.slice A n c, .agg #[.int .i64 i, .int .i64 v, .int .i64 w5, .int .i64 f, .int .i64 t]] w fun e w' => e = .returned (.tuple #[.bool false, errV (Rul.ruleE r)]) ∧ Below w.heap.size w w' := by
  have CC := Lib.hid fun (wx : World) (hb : Below w.heap.size w wx) => check_any r A n c wx (hr.rule_below hb) hl hc hrs
  have e1 : errR (Rul.ruleE r) = errV (Rul.ruleE r) := if_neg hE
  rw [e1] at CC
  generalize Rul.ruleE r = E at *
  clear e1 hr hrs hE
  have W1 := Lib.hid (blw_alloc w (.cells #[.int .i64 i, .int .i64 v, .int .i64 w5, .int .i64 f, .int .i64 t] 24))
  go_enter Tryz.func14, Tryz.ntmps14
  go_wp2_with fail
  refine (CC.out _ W1.out).mono ?_
  rintro e w2 ⟨rfl, hb⟩
  have W2 := Lib.hid (blw_trans W1.out hb)
  clear hb
  go_wp2_with fail
  go_ret2
  exact ⟨rfl, W2.out⟩

set_option maxRecDepth 100000 in
set_option maxHeartbeats 1000000 in
theorem rholds_yes (r : Rul.Rule) (A : Option Addr) (n c : Nat) (o : Rul.Op5) (w : World) (hr : SlAt 1 PartC w (.slice A n c) r) (hl : r.length ≤ 1000000000) (hc : Rul.count r ≤ 1000000000) (hrs : ∀ l ∈ r, ∀ x ∈ l, x.rs.length ≤ 4000000001) (hE : Rul.ruleE r = 0) :
    Calls Tryz.prog 14 #[.slice A n c, .agg #[.int .i64 o.i, .int .i64 o.v, .int .i64 o.w, .int .i64 o.f, .int .i64 o.t]] w fun e w' => e = .returned (.tuple #[.bool (Rul.ruleH r o), .nilIface]) ∧ Below w.heap.size w w' := by
  have CC := Lib.hid fun (wx : World) (hb : Below w.heap.size w wx) => check_any r A n c wx (hr.rule_below hb) hl hc hrs
  have e1 : errR (Rul.ruleE r) = .nilIface := if_pos hE
  rw [e1] at CC
  have hop : ∀ l ∈ r, ∀ x ∈ l, Rul.opOk x.op = true := fun l hlr x hx => Rul.op_of ((Rul.part_parts ((Rul.shape_parts (Rul.ruleE_zero.1 hE).1).2 l hlr)).2 x hx)
  have HA := Lib.hid fun (wx : World) (hb : Below w.heap.size w wx) (hq : Boxed wx w.heap.size (opsC o)) => has_part r (Rul.partH · o) 37 #[.pointer (some ⟨w.heap.size, 0, none⟩)] holdsP_at (.slice A n c) wx (hr.rule_below hb)
    (Lib.hid fun l hlr za zn zc wy hy hs => holdsP_any l o w.heap.size za zn zc wy hs (hop l hlr) (hq.below hy))
  have HR := Lib.hid (show r.any (Rul.partH · o) = Rul.ruleH r o from rfl)
  generalize Rul.ruleH r o = R at *
  generalize r.any (Rul.partH · o) = I at *
  obtain rfl : I = R := HR.out
  clear e1 hr hrs hE hop HR
  have W1 := Lib.hid (blw_alloc w (.cells #[.int .i64 o.i, .int .i64 o.v, .int .i64 o.w, .int .i64 o.f, .int .i64 o.t] 24))
  have B1 := Lib.hid (Boxed.made w #[.int .i64 o.i, .int .i64 o.v, .int .i64 o.w, .int .i64 o.f, .int .i64 o.t] 24)
  change Hid (Boxed _ _ (opsC o)) at B1
  go_enter Tryz.func14, Tryz.ntmps14
  go_wp2_with fail
  refine (CC.out _ W1.out).mono ?_
  rintro e w2 ⟨rfl, hb⟩
  have W2 := Lib.hid (blw_trans W1.out hb)
  have B2 := Lib.hid (B1.out.below hb)
  clear hb
  go_wp2_with fail
  refine (HA.out _ W2.out B2.out).mono ?_
  rintro e w3 ⟨rfl, hb⟩
  have W3 := Lib.hid (blw_trans W2.out hb)
  clear hb
  go_wp2_with fail
  go_ret2
  exact ⟨rfl, W3.out⟩
end Go.Proofs.YtoglgcjdjbjlmaaGreatDoor
namespace Go.Proofs.YtoglgcjdjbjlmaaGreatDoor
open Go.RowKit

/-- a rule of one relation, just made -/
theorem made_rule {w : World} {a : Option Addr} {n c : Nat} {l : List Rul.Rl} (h : SlAt 4 RelC w (.slice a n c) l) (t : TypeId) : SlAt 1 PartC (w.alloc (.cells #[.slice a n c] t)) (.slice (some ⟨w.heap.size, 0, none⟩) 1 1) [l] := by
  refine .inr ⟨w.heap.size, 0, 1, rfl, by simp, by simp, by decide, fun j x hx => ?_⟩
  cases j with
  | zero =>
    simp at hx
    subst hx
    exact ⟨a, n, c, (Boxed.made w #[.slice a n c] t).cell 0 _ rfl, h.rels_below (blw_alloc _ _)⟩
  | succ j => simp at hx
theorem ok_one {r : Rul.Rule} {l : List Rul.Rl} (h : Rul.ruleE r = 0) (hl : l ∈ r) : Rul.ruleE [l] = 0 := by
  obtain ⟨hs, hc⟩ := Rul.ruleE_zero.1 h
  refine Rul.ruleE_zero.2 ⟨?_, ?_⟩
  · unfold Rul.shapeOk
    have := (Rul.shape_parts hs).2 l hl
    simp [this]
  · have := Rul.count_mem hl
    unfold Rul.count
    simp; omega
theorem ok_rel {r : Rul.Rule} {l : List Rul.Rl} {x : Rul.Rl} (h : Rul.ruleE r = 0) (hl : l ∈ r) (hx : x ∈ l) : Rul.ruleE [[x]] = 0 := by
  obtain ⟨hs, _⟩ := Rul.ruleE_zero.1 h
  have := (Rul.part_parts ((Rul.shape_parts hs).2 l hl)).2 x hx
  exact Rul.ruleE_zero.2 ⟨by simp [Rul.shapeOk, Rul.partOk, this], by simp [Rul.count]⟩
/-- a relation that was just made -/
theorem made_rel {w : World} {x : Rul.Rl} {a : Option Addr} {n c : Nat} (h : SlAt 2 RngC w (.slice a n c) x.rs) (t : TypeId) : SlAt 4 RelC (w.alloc (.cells #[.int .u8 (x.op.toNat : Int), .int .i64 x.mod, .bool x.no, .slice a n c] t)) (.slice (some ⟨w.heap.size, 0, none⟩) 1 1) [x] := by
  have B := Boxed.made w #[.int .u8 (x.op.toNat : Int), .int .i64 x.mod, .bool x.no, .slice a n c] t
  refine .inr ⟨w.heap.size, 0, 1, rfl, by simp, by simp, by decide, fun j y hy => ?_⟩
  cases j with
  | zero =>
    simp at hy
    subst hy
    exact ⟨a, n, c, B.cell 0 _ rfl, B.cell 1 _ rfl, B.cell 2 _ rfl, B.cell 3 _ rfl, h.rngs_below (blw_alloc _ _)⟩
  | succ j => simp at hy
end Go.Proofs.YtoglgcjdjbjlmaaGreatDoor
namespace Rul
theorem relOk_not (r : Rl) : relOk ⟨r.op, r.mod, !r.no, r.rs⟩ = relOk r := rfl
theorem relH_not (r : Rl) (o : Op5) : relH ⟨r.op, r.mod, !r.no, r.rs⟩ o = !relH r o := by
  show ((r.rs.any (rngHas (opx r o)) && (!decide (r.op = 110) || decide (o.t = 0))) != !r.no) = !((r.rs.any (rngHas (opx r o)) && (!decide (r.op = 110) || decide (o.t = 0))) != r.no)
  cases (r.rs.any (rngHas (opx r o)) && (!decide (r.op = 110) || decide (o.t = 0))) <;> cases r.no <;> rfl
theorem ruleE_one (r : Rl) : ruleE [[r]] = if relOk r = true then 0 else 3 := by
  have e : shapeOk [[r]] = relOk r := by simp [shapeOk, partOk]
  unfold ruleE
  rw [e]
  split <;> simp [count]
theorem ruleH_one (r : Rl) (o : Op5) : ruleH [[r]] o = relH r o := by simp [ruleH, partH]
/-- with one range more a relation holds no less; turned no more -/
theorem relH_more (r : Rl) (p : Int × Int) (o : Op5) : (r.no = false → relH r o = true → relH ⟨r.op, r.mod, r.no, r.rs ++ [p]⟩ o = true) ∧ (r.no = true → relH ⟨r.op, r.mod, r.no, r.rs ++ [p]⟩ o = true → relH r o = true) := by
  have e1 : relH r o = ((r.rs.any (rngHas (opx r o)) && (!decide (r.op = 110) || decide (o.t = 0))) != r.no) := rfl
  have e2 : relH ⟨r.op, r.mod, r.no, r.rs ++ [p]⟩ o = (((r.rs ++ [p]).any (rngHas (opx r o)) && (!decide (r.op = 110) || decide (o.t = 0))) != r.no) := rfl
  rw [e1, e2, List.any_append]
  generalize r.rs.any (rngHas (opx r o)) = A
  generalize [p].any (rngHas (opx r o)) = B
  generalize (!decide (r.op = 110) || decide (o.t = 0)) = C
  cases A <;> cases B <;> cases C <;> cases r.no <;> simp
end Rul
namespace Go.Proofs.YtoglgcjdjbjlmaaGreatDoor
open Go.RowKit

/-- the cells of ranges -/
def fl (l : List (Int × Int)) : List Value := l.flatMap fun p => [.int .i64 p.1, .int .i64 p.2]
theorem fl_len (l : List (Int × Int)) : (fl l).length = l.length * 2 := by
  induction l with
  | nil => rfl
  | cons a l ih => show (fl l).length + 1 + 1 = _; rw [ih, List.length_cons]; omega
theorem fl_at : ∀ {l : List (Int × Int)} {j : Nat} {u : Value}, (fl l)[j]? = some u → ∃ (k : Nat) (x : Int × Int), l[k]? = some x ∧ ((j = k * 2 ∧ u = .int .i64 x.1) ∨ (j = k * 2 + 1 ∧ u = .int .i64 x.2)) := by
  intro l
  induction l with
  | nil => intro j u h; simp [fl] at h
  | cons a l ih =>
    intro j u h
    match j, h with
    | 0, h => exact ⟨0, a, rfl, .inl ⟨rfl, by simpa [fl] using h.symm⟩⟩
    | 1, h => exact ⟨0, a, rfl, .inr ⟨rfl, by simpa [fl] using h.symm⟩⟩
    | j + 2, h =>
      obtain ⟨k, x, hk, hj⟩ := ih (j := j) (u := u) (by simpa [fl] using h)
      refine ⟨k + 1, x, by simpa using hk, ?_⟩
      rcases hj with ⟨rfl, e⟩ | ⟨rfl, e⟩
      · exact .inl ⟨by omega, e⟩
      · exact .inr ⟨by omega, e⟩
theorem fl_get : ∀ {l : List (Int × Int)} {j : Nat} {x : Int × Int}, l[j]? = some x → (fl l)[j * 2]? = some (.int .i64 x.1) ∧ (fl l)[j * 2 + 1]? = some (.int .i64 x.2) := by
  intro l
  induction l with
  | nil => intro j x h; simp at h
  | cons a l ih =>
    intro j x h
    cases j with
    | zero => simp at h; subst h; exact ⟨rfl, rfl⟩
    | succ j =>
      have h' := ih (j := j) (x := x) (by simpa using h)
      have e : (j + 1) * 2 = j * 2 + 1 + 1 := by omega
      rw [e]
      exact h'
theorem fl_add (l : List (Int × Int)) (p : Int × Int) : fl (l ++ [p]) = fl l ++ [.int .i64 p.1, .int .i64 p.2] := by
  unfold fl; rw [List.flatMap_append]; rfl
theorem fl_one {l : List (Int × Int)} : ∀ u ∈ fl l, u.oneCell' = true := by
  intro u hu
  obtain ⟨p, _, hp⟩ := List.mem_flatMap.1 hu
  simp at hp
  rcases hp with rfl | rfl <;> rfl
/-- the cells of ranges that lie at an address -/
theorem fl_cells {w : World} {b off : Nat} {l : List (Int × Int)} (h : ∀ (j : Nat) x, l[j]? = some x → RngC w b (off + j * 2) x) : ∀ j u, (fl l)[j]? = some u → w.cell? ((⟨b, off, none⟩ : Addr).add j) = some u := by
  intro j u hu
  obtain ⟨k, x, hk, hj⟩ := fl_at hu
  have hc := h k x hk
  have ha : ∀ j, (⟨b, off, none⟩ : Addr).add j = ⟨b, off + j, none⟩ := fun j => by unfold Addr.add; split <;> simp_all
  rw [ha]
  rcases hj with ⟨rfl, rfl⟩ | ⟨rfl, rfl⟩
  · exact hc.1
  · exact hc.2
/-- a row of ranges, as it lies -/
theorem row_lies {w : World} {B n : Nat} {v : Value} {l : List (Int × Int)} (h : w.ownsRow B 46 2 v n (fl l)) (hn : n = l.length) (h0 : 0 < n) : SlAt 2 RngC w v l := by
  subst hn
  rcases h.2 with ⟨_, hn⟩ | ⟨g, cap, cur, e, hB, hg, hc, hm, _⟩
  · omega
  · refine .inr ⟨g, 0, cap, e, h0, hc, hm, fun j x hx => ?_⟩
    obtain ⟨e0, e1⟩ := fl_get hx
    subst e
    have hj : j < l.length := (List.getElem?_eq_some_iff.1 hx).1
    have c0 := h.cellAt (g := g) (j * 2) (by omega)
    have c1 := h.cellAt (g := g) (j * 2 + 1) (by omega)
    rw [e0] at c0
    rw [e1] at c1
    rw [Nat.zero_add]
    exact ⟨c0, c1⟩
/-- take_call at one of three -/
theorem take_three {P : Program} {l : List Oper} {Q : Exit → Act → World → Prop} {md : Region.Mode} {S : World → Prop} {oi oj ok : Oper} {fuel : Nat} {listed : Array Bool} {a : Act} {w : World} (i j k : Nat) (hi : l[i]? = some oi) (hj : l[j]? = some oj) (hk : l[k]? = some ok) (hr : Region.ready md l.toArray listed = [i, j, k])
    (hwi : Region.wanted oi (yielded l.toArray a.tmps) = true) (hwj : Region.wanted oj (yielded l.toArray a.tmps) = true) (hwk : Region.wanted ok (yielded l.toArray a.tmps) = true)
    (h1 : ∀ K' : Act → World → Prop, Shut (∀ a w, S w → (S w → wpAnyH P md l.toArray Q S fuel (listed.setIfInBounds i true) a w) → K' a w) → Oper.wp P oi a w K' Q)
    (h2 : ∀ K' : Act → World → Prop, Shut (∀ a w, S w → (S w → wpAnyH P md l.toArray Q S fuel (listed.setIfInBounds j true) a w) → K' a w) → Oper.wp P oj a w K' Q)
    (h3 : ∀ K' : Act → World → Prop, Shut (∀ a w, S w → (S w → wpAnyH P md l.toArray Q S fuel (listed.setIfInBounds k true) a w) → K' a w) → Oper.wp P ok a w K' Q) : wpAnyH P md l.toArray Q S (fuel + 1) listed a w :=
  wpAnyH_ready hr (by simp) (AllReadyH.cons (by simpa using hi) (fun K' hK => by rw [if_pos hwi]; exact h1 K' hK) (AllReadyH.cons (by simpa using hj) (fun K' hK => by rw [if_pos hwj]; exact h2 K' hK) (AllReadyH.cons (by simpa using hk) (fun K' hK => by rw [if_pos hwk]; exact h3 K' hK) AllReadyH.nil)))
/-- a rule of one relation that was just made: does it hold? -/
theorem hold_yes (y : Rul.Rl) (o : Rul.Op5) (a : Option Addr) (n c : Nat) (U : World) (h : SlAt 2 RngC U (.slice a n c) y.rs) (hl : y.rs.length ≤ 4000000001) (hok : Rul.relOk y = true) :
    Calls Tryz.prog 14 #[.slice (some ⟨U.heap.size + 1, 0, none⟩) 1 1, .agg #[.int .i64 o.i, .int .i64 o.v, .int .i64 o.w, .int .i64 o.f, .int .i64 o.t]] ((U.alloc (.cells #[.int .u8 (y.op.toNat : Int), .int .i64 y.mod, .bool y.no, .slice a n c] 45)).alloc (.cells #[.slice (some ⟨U.heap.size, 0, none⟩) 1 1] 47)) fun e w' => e = .returned (.tuple #[.bool (Rul.relH y o), .nilIface]) ∧ Below U.heap.size U w' := by
  have h1 := made_rule (made_rel h 45) 47
  rw [World.size_alloc] at h1
  have hE : Rul.ruleE [[y]] = 0 := by rw [Rul.ruleE_one, if_pos hok]
  refine (rholds_yes [[y]] _ _ _ o _ h1 (by simp) (by simp [Rul.count]) (fun l hl' x hx => by simp at hl'; subst hl'; simp at hx; subst hx; exact hl) hE).mono ?_
  rintro e w' ⟨rfl, hb⟩
  rw [Rul.ruleH_one]
  exact ⟨rfl, blw_trans (blw_trans (blw_alloc _ _) (blw_alloc _ _)) hb⟩
theorem hold_no (y : Rul.Rl) (o : Rul.Op5) (a : Option Addr) (n c : Nat) (U : World) (h : SlAt 2 RngC U (.slice a n c) y.rs) (hl : y.rs.length ≤ 4000000001) (hok : Rul.relOk y = false) :
    Calls Tryz.prog 14 #[.slice (some ⟨U.heap.size + 1, 0, none⟩) 1 1, .agg #[.int .i64 o.i, .int .i64 o.v, .int .i64 o.w, .int .i64 o.f, .int .i64 o.t]] ((U.alloc (.cells #[.int .u8 (y.op.toNat : Int), .int .i64 y.mod, .bool y.no, .slice a n c] 45)).alloc (.cells #[.slice (some ⟨U.heap.size, 0, none⟩) 1 1] 47)) fun e w' => e = .returned (.tuple #[.bool false, errV 3]) ∧ Below U.heap.size U w' := by
  have h1 := made_rule (made_rel h 45) 47
  rw [World.size_alloc] at h1
  have hE : Rul.ruleE [[y]] = 3 := by rw [Rul.ruleE_one, if_neg (by rw [hok]; decide)]
  refine (rholds_no [[y]] _ _ _ o.i o.v o.w o.f o.t _ h1 (by simp) (by simp [Rul.count]) (fun l hl' x hx => by simp at hl'; subst hl'; simp at hx; subst hx; exact hl) (by rw [hE]; decide)).mono ?_
  rintro e w' ⟨rfl, hb⟩
  rw [hE]
  exact ⟨rfl, blw_trans (blw_trans (blw_alloc _ _) (blw_alloc _ _)) hb⟩
end Go.Proofs.YtoglgcjdjbjlmaaGreatDoor
namespace Go.Proofs.YtoglgcjdjbjlmaaGreatDoor
open Go.RowKit

set_option maxRecDepth 100000 in
set_option maxHeartbeats 1000000 in
theorem told2_same {v v2 : Value} {n : Int} (h : ErrNo v n) (h2 : ErrNo v2 n) (w : World) (hg : HanW w) : Calls Tryz.prog 16 #[v, v2] w fun e w' => e = .returned (.bool true) ∧ Below w.heap.size w w' := by
  have C1 := Lib.hid fun w hg => told_any h w hg
  have C2 := Lib.hid fun w hg => told_any h2 w hg
  clear h h2
  go_enter Tryz.func16, Tryz.ntmps16
  go_wp2_with fail
  refine (C1.out _ hg).mono ?_
  rintro e w1 ⟨rfl, hb⟩
  have W1 := Lib.hid hb
  have H1 := Lib.hid (hg.below hb)
  clear hb C1 hg
  go_wp2_with fail
  refine (C2.out _ H1.out).mono ?_
  rintro e w2 ⟨rfl, hb⟩
  have W2 := Lib.hid (blw_trans W1.out hb)
  clear hb C2
  go_wp2_with fail
  go_ret
  exact ⟨ret_bool (by simp), W2.out⟩
end Go.Proofs.YtoglgcjdjbjlmaaGreatDoor
namespace Go.Proofs.YtoglgcjdjbjlmaaGreatDoor
open Go.RowKit Go.Shelf

theorem bel_pure (w : World) (p k : Nat) : True := trivial

set_option maxRecDepth 100000 in
set_option maxHeartbeats 8000000 in
theorem rulenot_any (x : Rul.Rl) (a : Option Addr) (n c : Nat) (o : Rul.Op5) (m0 m1 : Int) (w : World) (hT : TR w) (hH : HanW w) (hs : SlAt 2 RngC w (.slice a n c) x.rs) (hl : x.rs.length ≤ 1048576) :
    Calls Tryz.prog 4 #[.agg #[.int .u8 (x.op.toNat : Int), .int .i64 x.mod, .bool x.no, .slice a n c], .agg #[.int .i64 o.i, .int .i64 o.v, .int .i64 o.w, .int .i64 o.f, .int .i64 o.t], .agg #[.int .i64 m0, .int .i64 m1]] w fun e w' => e = .returned (.bool true) ∧ Below w.heap.size w w' := by
  have CF := Lib.hid fun wx (hb : Below w.heap.size w wx) => ruled_any wx (hT.m.below hb) (hT.n.below hb) (hT.p.below hb)
  have CTd := Lib.hid fun wx (hb : Below w.heap.size w wx) (v : Value) (k : Int) (h1 : ErrNo v k) => told2_same h1 h1 wx (hH.below hb)
  have HS := Lib.hid fun wx (hb : Below w.heap.size w wx) => hs.rngs_below hb
  have W0 := Lib.hid (((blw_alloc w (.cells #[.int .u8 (x.op.toNat : Int), .int .i64 x.mod, .bool x.no, .slice a n c] 45)).alloc (by simp) (.cells #[.int .i64 o.i, .int .i64 o.v, .int .i64 o.w, .int .i64 o.f, .int .i64 o.t] 24)).alloc (by simp; omega) (.cells #[.int .i64 m0, .int .i64 m1] 46))
  have BX := Lib.hid (((Boxed.made w #[.int .u8 (x.op.toNat : Int), .int .i64 x.mod, .bool x.no, .slice a n c] 45).alloc (.cells #[.int .i64 o.i, .int .i64 o.v, .int .i64 o.w, .int .i64 o.f, .int .i64 o.t] 24)).alloc (.cells #[.int .i64 m0, .int .i64 m1] 46))
  have BO := Lib.hid ((Boxed.made (w.alloc (.cells #[.int .u8 (x.op.toNat : Int), .int .i64 x.mod, .bool x.no, .slice a n c] 45)) #[.int .i64 o.i, .int .i64 o.v, .int .i64 o.w, .int .i64 o.f, .int .i64 o.t] 24).alloc (.cells #[.int .i64 m0, .int .i64 m1] 46))
  have BM := Lib.hid (Boxed.made ((w.alloc (.cells #[.int .u8 (x.op.toNat : Int), .int .i64 x.mod, .bool x.no, .slice a n c] 45)).alloc (.cells #[.int .i64 o.i, .int .i64 o.v, .int .i64 o.w, .int .i64 o.f, .int .i64 o.t] 24)) #[.int .i64 m0, .int .i64 m1] 46)
  simp only [World.size_alloc] at BO BM
  clear hT hH hs
  go_enter Tryz.func4, Tryz.ntmps4
  go_wp2_with fail
  refine (CF.out _ W0.out).mono ?_
  rintro e w1 ⟨rfl, hb⟩
  have W1 := Lib.hid (blw_trans W0.out hb)
  have X1 := Lib.hid (BX.out.below hb)
  have O1 := Lib.hid (BO.out.below hb)
  have M1 := Lib.hid (BM.out.below hb)
  clear hb CF W0 BX BO BM
  obtain ⟨op, mod, no, rs⟩ := x
  dsimp only at *
  have x0 := X1.out.cell 0 _ rfl
  have x1 := X1.out.cell 1 _ rfl
  have x2 := X1.out.cell 2 _ rfl
  have x3 := X1.out.cell 3 _ rfl
  have xl := X1.out.lt
  have z1 := W1.out.size
  have YC : ∃ w8, w1.alloc (.cells #[.int .u8 (op.toNat : Int), .int .i64 mod, .bool (!no), .slice a n c] 45) = w8 := ⟨_, rfl⟩
  obtain ⟨w8, hw8⟩ := YC
  have W8 := Lib.hid (show Below w.heap.size w w8 by rw [← hw8]; exact W1.out.alloc z1 _)
  have X8 := Lib.hid (show Boxed w8 w.heap.size _ by rw [← hw8]; exact X1.out.alloc _)
  have O8 := Lib.hid (show Boxed w8 (w.heap.size + 1) _ by rw [← hw8]; exact O1.out.alloc _)
  have M8 := Lib.hid (show Boxed w8 (w.heap.size + 1 + 1) _ by rw [← hw8]; exact M1.out.alloc _)
  have Y8 := Lib.hid (show Boxed w8 w1.heap.size _ by rw [← hw8]; exact Boxed.made w1 #[.int .u8 (op.toNat : Int), .int .i64 mod, .bool (!no), .slice a n c] 45)
  have o0 := O8.out.cell 0 _ rfl
  have o1 := O8.out.cell 1 _ rfl
  have o2 := O8.out.cell 2 _ rfl
  have o3 := O8.out.cell 3 _ rfl
  have o4 := O8.out.cell 4 _ rfl
  have ol := O8.out.lt
  have q0 := X8.out.cell 0 _ rfl
  have q1 := X8.out.cell 1 _ rfl
  have q2 := X8.out.cell 2 _ rfl
  have q3 := X8.out.cell 3 _ rfl
  have ql := X8.out.lt
  by_cases hok : Rul.relOk ⟨op, mod, no, rs⟩ = true
  · have CA := hold_yes ⟨op, mod, no, rs⟩ o a n c w8 (HS.out w8 W8.out) (by dsimp only; omega) hok
    generalize hHx : Rul.relH ⟨op, mod, no, rs⟩ o = H at *
    go_wp2_with fail
    refine CA.mono ?_
    rintro e w2 ⟨rfl, hb⟩
    have W2 := Lib.hid (blw_trans W8.out hb)
    have X2 := Lib.hid (X8.out.below hb)
    have Y2 := Lib.hid (Y8.out.below hb)
    have O2 := Lib.hid (O8.out.below hb)
    have M2 := Lib.hid (M8.out.below hb)
    clear hb W8 X8 Y8 O8 M8 hw8 x0 x1 x2 x3 xl o0 o1 o2 o3 o4 ol q0 q1 q2 q3 ql
    have CB := hold_yes ⟨op, mod, !no, rs⟩ o a n c w2 (HS.out w2 W2.out) (by dsimp only; omega) hok
    rw [show Rul.relH ⟨op, mod, !no, rs⟩ o = !H from by rw [← hHx]; exact Rul.relH_not ⟨op, mod, no, rs⟩ o] at CB
    have y0 := Y2.out.cell 0 _ rfl
    have y1 := Y2.out.cell 1 _ rfl
    have y2 := Y2.out.cell 2 _ rfl
    have y3 := Y2.out.cell 3 _ rfl
    have yl := Y2.out.lt
    have o0 := O2.out.cell 0 _ rfl
    have o1 := O2.out.cell 1 _ rfl
    have o2 := O2.out.cell 2 _ rfl
    have o3 := O2.out.cell 3 _ rfl
    have o4 := O2.out.cell 4 _ rfl
    have ol := O2.out.lt
    have ql := X2.out.lt
    go_wp2_with fail
    refine CB.mono ?_
    rintro e w3 ⟨rfl, hb⟩
    have W3 := Lib.hid (blw_trans W2.out hb)
    have X3 := Lib.hid (X2.out.below hb)
    have O3 := Lib.hid (O2.out.below hb)
    have M3 := Lib.hid (M2.out.below hb)
    clear hb W2 X2 Y2 O2 M2 CB y0 y1 y2 y3 yl o0 o1 o2 o3 o4 ol ql
    go_wp2_with fail
    refine (CTd.out _ W3.out _ 0 ErrNo.nil).mono ?_
    rintro e u ⟨rfl, hb⟩
    have W4 := Lib.hid (blw_trans W3.out hb)
    have X4 := Lib.hid (X3.out.below hb)
    have O4 := Lib.hid (O3.out.below hb)
    have M4 := Lib.hid (M3.out.below hb)
    clear hb W3 X3 O3 M3 CTd
    go_wp2_with fail
    have hne : rs ≠ [] := (Rul.relOk_parts hok).2.2.2.1
    rcases HS.out u W4.out with ⟨e, _⟩ | ⟨b, off, cap, e1, h0, h1, h2, h3⟩
    · exact absurd e hne
    injection e1 with e1 e2 e3
    subst e1 e2 e3
    have HRS := Lib.hid fun (wx : World) (hb : Below u.heap.size u wx) (j : Nat) (y : Int × Int) (hy : rs[j]? = some y) => (h3 j y hy).below hb
    have HOK := Lib.hid hok
    obtain ⟨n, hn⟩ : ∃ n, rs.length = n := ⟨_, rfl⟩
    have HNL := Lib.hid hn
    rw [hn] at X4 h0 h1 hl ⊢
    unfold maxLen at h2
    have SK : ∀ w', Below u.heap.size u w' → (w'.cell? ⟨w.heap.size, 0, none⟩ = some (.int .u8 (op.toNat : Int)) ∧ w'.cell? ⟨w.heap.size, 1, none⟩ = some (.int .i64 mod) ∧ w'.cell? ⟨w.heap.size, 2, none⟩ = some (.bool no) ∧ w'.cell? ⟨w.heap.size, 3, none⟩ = some (.slice (some ⟨b, off, none⟩) n c) ∧ w'.cell? ⟨w.heap.size + 1 + 1, 0, none⟩ = some (.int .i64 m0) ∧ w'.cell? ⟨w.heap.size + 1 + 1, 1, none⟩ = some (.int .i64 m1) ∧ Hid (Below u.heap.size u w')) := fun w' hb => ⟨(X4.out.below hb).cell 0 _ rfl, (X4.out.below hb).cell 1 _ rfl, (X4.out.below hb).cell 2 _ rfl, (X4.out.below hb).cell 3 _ rfl, (M4.out.below hb).cell 0 _ rfl, (M4.out.below hb).cell 1 _ rfl, Lib.hid hb⟩
    clear h3 hn HS hne hok
    go_cut [14] from 61 to 113 (fun pz wx => ∃ q g3 c3, pz = .pointer (some ⟨q, 0, none⟩) ∧ Hid (Boxed wx q #[.int .u8 (op.toNat : Int), .int .i64 mod, .bool no, .slice (some ⟨g3, 0, none⟩) (n + 1) c3]) ∧ Hid (SlAt 2 RngC wx (.slice (some ⟨g3, 0, none⟩) (n + 1) c3) (rs ++ [(m0, m1)])) ∧ Hid (Below u.heap.size u wx))
    case first =>
      obtain ⟨iR, hiR, hR0, hR1, hR2⟩ := info_parts infoRng
      refine wp_region_held_drew (S := fun w' => w'.cell? ⟨w.heap.size, 0, none⟩ = some (.int .u8 (op.toNat : Int)) ∧ w'.cell? ⟨w.heap.size, 1, none⟩ = some (.int .i64 mod) ∧ w'.cell? ⟨w.heap.size, 2, none⟩ = some (.bool no) ∧ w'.cell? ⟨w.heap.size, 3, none⟩ = some (.slice (some ⟨b, off, none⟩) n c) ∧ w'.cell? ⟨w.heap.size + 1 + 1, 0, none⟩ = some (.int .i64 m0) ∧ w'.cell? ⟨w.heap.size + 1 + 1, 1, none⟩ = some (.int .i64 m1) ∧ Hid (Below u.heap.size u w')) (by kernel_rfl) (SK _ (Below.drew (Below.refl _ _))) (fun hHeld => ?_)
      have HB := Lib.hid (Below.drew (Below.refl u.heap.size u))
      generalize World.drew u = u0 at *
      refine take_run (d := some 61) (v := ?v25) 0 rfl rfl (by kernel_rfl) (by kernel_rfl) (by kernel_rfl) (fun _ _ _ h => h) (by rfl) hHeld ?hy25 ?rs25
      case hy25 => (intro w hSw; (try dsimp only at hSw); go_simp) <;> (try with_reducible rfl)
      (try simp only [Act.put, List.setIfInBounds_toArray, List.set_cons_zero, List.set_cons_succ])
      refine take_run (d := some 62) (v := ?v26) 1 rfl rfl (by kernel_rfl) (by kernel_rfl) (by kernel_rfl) (fun _ _ _ h => h) (by rfl) hHeld ?hy26 ?rs26
      case hy26 => (intro w hSw; (try dsimp only at hSw); go_simp) <;> (try with_reducible rfl)
      (try simp only [Act.put, List.setIfInBounds_toArray, List.set_cons_zero, List.set_cons_succ])
      refine take_run (d := some 63) (v := ?v27) 2 rfl rfl (by kernel_rfl) (by kernel_rfl) (by kernel_rfl) (fun _ _ _ h => h) (by rfl) hHeld ?hy27 ?rs27
      case hy27 => (intro w hSw; (try dsimp only at hSw); go_simp) <;> (try with_reducible rfl)
      (try simp only [Act.put, List.setIfInBounds_toArray, List.set_cons_zero, List.set_cons_succ])
      refine take_run (d := some 64) (v := ?v28) 3 rfl rfl (by kernel_rfl) (by kernel_rfl) (by kernel_rfl) (fun _ _ _ h => h) (by rfl) hHeld ?hy28 ?rs28
      case hy28 => (intro w hSw; (try dsimp only at hSw); go_simp) <;> (try with_reducible rfl)
      (try simp only [Act.put, List.setIfInBounds_toArray, List.set_cons_zero, List.set_cons_succ])
      refine take_run (d := some 65) (v := ?v29) 4 rfl rfl (by kernel_rfl) (by kernel_rfl) (by kernel_rfl) (fun _ _ _ h => h) (by rfl) hHeld ?hy29 ?rs29
      case hy29 => (intro w hSw; (try dsimp only at hSw); go_simp) <;> (try with_reducible rfl)
      (try simp only [Act.put, List.setIfInBounds_toArray, List.set_cons_zero, List.set_cons_succ])
      refine take_run (d := some 66) (v := ?v30) 5 rfl rfl (by kernel_rfl) (by kernel_rfl) (by kernel_rfl) (fun _ _ _ h => h) (by rfl) hHeld ?hy30 ?rs30
      case hy30 => (intro w hSw; (try dsimp only at hSw); go_simp) <;> (try with_reducible rfl)
      (try simp only [Act.put, List.setIfInBounds_toArray, List.set_cons_zero, List.set_cons_succ])
      refine take_run (d := some 68) (v := ?v31) 7 rfl rfl (by kernel_rfl) (by kernel_rfl) (by kernel_rfl) (fun _ _ _ h => h) (by rfl) hHeld ?hy31 ?rs31
      case hy31 => (intro w hSw; (try dsimp only at hSw); go_simp) <;> (try with_reducible rfl)
      (try simp only [Act.put, List.setIfInBounds_toArray, List.set_cons_zero, List.set_cons_succ])
      refine take_run (d := some 69) (v := ?v32) 8 rfl rfl (by kernel_rfl) (by kernel_rfl) (by kernel_rfl) (fun _ _ _ h => h) (by rfl) hHeld ?hy32 ?rs32
      case hy32 => (intro w hSw; (try dsimp only at hSw); go_simp) <;> (try with_reducible rfl)
      (try simp only [Act.put, List.setIfInBounds_toArray, List.set_cons_zero, List.set_cons_succ])
      refine take_run (d := some 71) (v := ?v33) 10 rfl rfl (by kernel_rfl) (by kernel_rfl) (by kernel_rfl) (fun _ _ _ h => h) (by rfl) hHeld ?hy33 ?rs33
      case hy33 => (intro w hSw; (try dsimp only at hSw); go_simp) <;> (try with_reducible rfl)
      (try simp only [Act.put, List.setIfInBounds_toArray, List.set_cons_zero, List.set_cons_succ])
      refine take_three 6 11 14 rfl rfl rfl (by kernel_rfl) (by rfl) (by rfl) (by rfl) (fun K hK => ?_) (fun K hK => ?_) (fun K hK => ?_)
      · go_simp
        have HQ6 : u.heap.size ≤ u0.heap.size := HB.out.size
        have HBn := Lib.hid (HB.out.alloc HB.out.size (.cells #[] 46))
        refine hK.out _ _ (SK _ HBn.out) (fun hHeld => ?_)
        clear hK K
        (try simp only [Act.put, List.setIfInBounds_toArray, List.set_cons_zero, List.set_cons_succ])
        have R := Lib.hid (World.ownsRow_made (e := 46) (size := 2) u0 #[] 0 (base := u.heap.size) HB.out.size (by decide) rfl)
        replace HB := HBn
        clear HBn
        generalize hq6 : u0.heap.size = q6 at *
        generalize World.alloc u0 (.cells #[] 46) = u1 at *
        clear hq6
        refine take_three 9 11 14 rfl rfl rfl (by kernel_rfl) (by rfl) (by rfl) (by rfl) (fun K hK => ?_) (fun K hK => ?_) (fun K hK => ?_)
        · refine wp_append_own_at _ _ _ 43 rfl u.heap.size 46 iR _ 2 16 Tryz.underlying43 hiR hR0 hR1 hR2 rfl (by decide) (.slice (some ⟨q6, 0, none⟩) 0 0) 0 [] (by simp [go_sem]) R.out ⟨b, off, none⟩ n c (fl rs) (by simp [go_sem]) (by rw [fl_len]; have := HNL.out; omega) (fl_cells (HRS.out _ HB.out)) fl_one (by unfold maxLen; omega) (by omega) HB.out.size ?_
          intro v2 un hown hg hat
          have HBn := Lib.hid (HB.out.grown hg HB.out.size (fun k hk => by have hq : u.heap.size ≤ q6 := (R.out.lt q6 rfl).1; have hk : some q6 = some k := hk; injection hk with hk; omega))
          refine hK.out _ _ (SK _ HBn.out) (fun hHeld => ?_)
          clear hK K
          (try simp only [Act.put, List.setIfInBounds_toArray, List.set_cons_zero, List.set_cons_succ])
          simp only [Nat.zero_add, List.nil_append] at hown
          have R2 := Lib.hid hown
          replace HB := HBn
          clear HBn hown hg hat R
          obtain ⟨g2, c2, rfl⟩ := row_some R2.out (by omega)
          skip
          generalize un = u2 at *
          refine take_two 11 14 rfl rfl (by kernel_rfl) (by rfl) (by rfl) (fun K hK => ?_) (fun K hK => ?_)
          · go_simp
            have HQ11 : u.heap.size ≤ u2.heap.size := HB.out.size
            have HBn := Lib.hid (HB.out.alloc HB.out.size (.cells #[.int .i64 m0, .int .i64 m1] 46))
            refine hK.out _ _ (SK _ HBn.out) (fun hHeld => ?_)
            clear hK K
            (try simp only [Act.put, List.setIfInBounds_toArray, List.set_cons_zero, List.set_cons_succ])
            have hr2 := fun k hk => (R2.out.lt k hk).2
            replace R2 := Lib.hid (R2.out.alloc (.cells #[.int .i64 m0, .int .i64 m1] 46))
            have X := Lib.hid (Boxed.made u2 #[.int .i64 m0, .int .i64 m1] 46)
            have neR2_11 : ∀ k, (Value.slice (some ⟨g2, 0, none⟩) n c2).ownBlock = some k → k ≠ u2.heap.size := fun k hk => by have := hr2 k hk; omega
            replace HB := HBn
            clear HBn
            generalize hq11 : u2.heap.size = q11 at *
            generalize World.alloc u2 (.cells #[.int .i64 m0, .int .i64 m1] 46) = u3 at *
            clear hq11
            refine take_two 12 14 rfl rfl (by kernel_rfl) (by rfl) (by rfl) (fun K hK => ?_) (fun K hK => ?_)
            · refine wp_append_own_at _ _ _ 43 rfl u.heap.size 46 iR _ 2 16 Tryz.underlying43 hiR hR0 hR1 hR2 rfl (by decide) (.slice (some ⟨g2, 0, none⟩) n c2) n (fl rs) (by simp [go_sem]) R2.out ⟨q11, 0, none⟩ 1 1 [.int .i64 m0, .int .i64 m1] (by simp [go_sem]) rfl (boxed_add X.out) (fun x hx => by simp at hx; rcases hx with rfl | rfl <;> rfl) (by unfold maxLen; omega) (by omega) HB.out.size ?_
              intro v3 un hown hg hat
              have HBn := Lib.hid (HB.out.grown hg HB.out.size (fun k hk => (R2.out.lt k hk).1))
              refine hK.out _ _ (SK _ HBn.out) (fun hHeld => ?_)
              clear hK K
              (try simp only [Act.put, List.setIfInBounds_toArray, List.set_cons_zero, List.set_cons_succ])
              rw [show fl rs ++ [.int .i64 m0, .int .i64 m1] = fl (rs ++ [(m0, m1)]) from (fl_add rs (m0, m1)).symm] at hown
              have R3 := Lib.hid hown
              replace HB := HBn
              clear HBn hown hg hat R2 X
              obtain ⟨g3, c3, rfl⟩ := row_some R3.out (by omega)
              generalize un = u4 at *
              refine take_run (d := some 74) (v := ?v34) 13 rfl rfl (by kernel_rfl) (by kernel_rfl) (by kernel_rfl) (fun _ _ _ h => h) (by rfl) hHeld ?hy34 ?rs34
              case hy34 => (intro w hSw; (try dsimp only at hSw); go_simp) <;> (try with_reducible rfl)
              (try simp only [Act.put, List.setIfInBounds_toArray, List.set_cons_zero, List.set_cons_succ])
              refine take_call 14 rfl (by kernel_rfl) (by rfl) (fun K hK => ?_)
              go_simp
              have HQ14 : u.heap.size ≤ u4.heap.size := HB.out.size
              have HBn := Lib.hid (HB.out.alloc HB.out.size (.cells #[.int .u8 0, .int .i64 0, .bool false, .slice none 0 0] 45))
              refine hK.out _ _ (SK _ HBn.out) (fun hHeld => ?_)
              clear hK K
              (try simp only [Act.put, List.setIfInBounds_toArray, List.set_cons_zero, List.set_cons_succ])
              have hr3 := fun k hk => (R3.out.lt k hk).2
              replace R3 := Lib.hid (R3.out.alloc (.cells #[.int .u8 0, .int .i64 0, .bool false, .slice none 0 0] 45))
              have Y := Lib.hid (Boxed.made u4 #[.int .u8 0, .int .i64 0, .bool false, .slice none 0 0] 45)
              have neR3_14 : ∀ k, (Value.slice (some ⟨g3, 0, none⟩) (n + 1) c3).ownBlock = some k → k ≠ u4.heap.size := fun k hk => by have := hr3 k hk; omega
              replace HB := HBn
              clear HBn
              generalize hq14 : u4.heap.size = q14 at *
              generalize World.alloc u4 (.cells #[.int .u8 0, .int .i64 0, .bool false, .slice none 0 0] 45) = u6 at *
              clear hq14
              refine take_call 15 rfl (by kernel_rfl) (by rfl) (fun K hK => ?_)
              have y0 := Y.out.cell 0 _ rfl
              have y1 := Y.out.cell 1 _ rfl
              have y2 := Y.out.cell 2 _ rfl
              have y3 := Y.out.cell 3 _ rfl
              have f0 := Y.out.free 0 (by show 0 < 4; omega)
              have f1 := Y.out.free 1 (by show 1 < 4; omega)
              have f2 := Y.out.free 2 (by show 2 < 4; omega)
              have f3 := Y.out.free 3 (by show 3 < 4; omega)
              have yl := Y.out.lt
              have hq := HQ14
              go_simp
              clear y0 y1 y2 y3 f0 f1 f2 f3
              have HBn := Lib.hid ((((HB.out.setCell (p := ⟨q14, 0, none⟩) hq (.int .u8 (op.toNat : Int))).setCell (p := ⟨q14, 1, none⟩) hq (.int .i64 mod)).setCell (p := ⟨q14, 2, none⟩) hq (.bool no)).setCell (p := ⟨q14, 3, none⟩) hq (.slice (some ⟨g3, 0, none⟩) (n + 1) c3))
              refine hK.out _ _ (SK _ HBn.out) (fun hHeld => ?_)
              clear hK K
              (try simp only [Act.put, List.setIfInBounds_toArray, List.set_cons_zero, List.set_cons_succ])
              replace Y := Lib.hid ((((Y.out.set 0 (.int .u8 (op.toNat : Int)) (by show 0 < 4; omega)).set 1 (.int .i64 mod) (by show 1 < 4; omega)).set 2 (.bool no) (by show 2 < 4; omega)).set 3 (.slice (some ⟨g3, 0, none⟩) (n + 1) c3) (by show 3 < 4; omega))
              have hne := neR3_14 g3 rfl
              have hk : (Value.slice (some ⟨g3, 0, none⟩) (n + 1) c3).ownBlock = none ∨ (Value.slice (some ⟨g3, 0, none⟩) (n + 1) c3).ownBlock ≠ some q14 := .inr (fun e => hne (by injection e))
              have K := Lib.hid ((((R3.out.kept (grown_store _ q14 0 (.int .u8 (op.toNat : Int))) hk).kept (grown_store _ q14 1 (.int .i64 mod)) hk).kept (grown_store _ q14 2 (.bool no)) hk).kept (grown_store _ q14 3 (.slice (some ⟨g3, 0, none⟩) (n + 1) c3)) hk)
              refine wpAnyH_done (by kernel_rfl) ?_ _
              go_wp2_with fail
              go_meet
              exact ⟨_, _, _, rfl, Y, Lib.hid (row_lies K.out (by rw [List.length_append, HNL.out]; rfl) (by omega)), HBn⟩
            · go_simp
              have HQ14 : u.heap.size ≤ u3.heap.size := HB.out.size
              have HBn := Lib.hid (HB.out.alloc HB.out.size (.cells #[.int .u8 0, .int .i64 0, .bool false, .slice none 0 0] 45))
              refine hK.out _ _ (SK _ HBn.out) (fun hHeld => ?_)
              clear hK K
              (try simp only [Act.put, List.setIfInBounds_toArray, List.set_cons_zero, List.set_cons_succ])
              have hl11 := X.out.lt
              have hr2 := fun k hk => (R2.out.lt k hk).2
              replace R2 := Lib.hid (R2.out.alloc (.cells #[.int .u8 0, .int .i64 0, .bool false, .slice none 0 0] 45))
              replace X := Lib.hid (X.out.alloc (.cells #[.int .u8 0, .int .i64 0, .bool false, .slice none 0 0] 45))
              have Y := Lib.hid (Boxed.made u3 #[.int .u8 0, .int .i64 0, .bool false, .slice none 0 0] 45)
              have neR2_14 : ∀ k, (Value.slice (some ⟨g2, 0, none⟩) n c2).ownBlock = some k → k ≠ u3.heap.size := fun k hk => by have := hr2 k hk; omega
              replace HB := HBn
              clear HBn
              generalize hq14 : u3.heap.size = q14 at *
              generalize World.alloc u3 (.cells #[.int .u8 0, .int .i64 0, .bool false, .slice none 0 0] 45) = u4 at *
              clear hq14
              refine take_call 12 rfl (by kernel_rfl) (by rfl) (fun K hK => ?_)
              refine wp_append_own_at _ _ _ 43 rfl u.heap.size 46 iR _ 2 16 Tryz.underlying43 hiR hR0 hR1 hR2 rfl (by decide) (.slice (some ⟨g2, 0, none⟩) n c2) n (fl rs) (by simp [go_sem]) R2.out ⟨q11, 0, none⟩ 1 1 [.int .i64 m0, .int .i64 m1] (by simp [go_sem]) rfl (boxed_add X.out) (fun x hx => by simp at hx; rcases hx with rfl | rfl <;> rfl) (by unfold maxLen; omega) (by omega) HB.out.size ?_
              intro v3 un hown hg hat
              have HBn := Lib.hid (HB.out.grown hg HB.out.size (fun k hk => (R2.out.lt k hk).1))
              refine hK.out _ _ (SK _ HBn.out) (fun hHeld => ?_)
              clear hK K
              (try simp only [Act.put, List.setIfInBounds_toArray, List.set_cons_zero, List.set_cons_succ])
              rw [show fl rs ++ [.int .i64 m0, .int .i64 m1] = fl (rs ++ [(m0, m1)]) from (fl_add rs (m0, m1)).symm] at hown
              have R3 := Lib.hid hown
              have hl14 := Y.out.lt
              replace Y := Lib.hid (boxed_grown Y.out hg (fun e => by injection e with e; exact neR2_14 g2 rfl e.symm))
              have neR3_14 : ∀ k, v3.ownBlock = some k → k ≠ q14 := fun k hk => by
                rcases hat with e | e <;> rw [e] at hk
                · exact neR2_14 k hk
                · injection hk with hk
                  omega
              replace HB := HBn
              clear HBn hown hg hat R2 X
              obtain ⟨g3, c3, rfl⟩ := row_some R3.out (by omega)
              generalize un = u5 at *
              refine take_run (d := some 74) (v := ?v35) 13 rfl rfl (by kernel_rfl) (by kernel_rfl) (by kernel_rfl) (fun _ _ _ h => h) (by rfl) hHeld ?hy35 ?rs35
              case hy35 => (intro w hSw; (try dsimp only at hSw); go_simp) <;> (try with_reducible rfl)
              (try simp only [Act.put, List.setIfInBounds_toArray, List.set_cons_zero, List.set_cons_succ])
              refine take_call 15 rfl (by kernel_rfl) (by rfl) (fun K hK => ?_)
              have y0 := Y.out.cell 0 _ rfl
              have y1 := Y.out.cell 1 _ rfl
              have y2 := Y.out.cell 2 _ rfl
              have y3 := Y.out.cell 3 _ rfl
              have f0 := Y.out.free 0 (by show 0 < 4; omega)
              have f1 := Y.out.free 1 (by show 1 < 4; omega)
              have f2 := Y.out.free 2 (by show 2 < 4; omega)
              have f3 := Y.out.free 3 (by show 3 < 4; omega)
              have yl := Y.out.lt
              have hq := HQ14
              go_simp
              clear y0 y1 y2 y3 f0 f1 f2 f3
              have HBn := Lib.hid ((((HB.out.setCell (p := ⟨q14, 0, none⟩) hq (.int .u8 (op.toNat : Int))).setCell (p := ⟨q14, 1, none⟩) hq (.int .i64 mod)).setCell (p := ⟨q14, 2, none⟩) hq (.bool no)).setCell (p := ⟨q14, 3, none⟩) hq (.slice (some ⟨g3, 0, none⟩) (n + 1) c3))
              refine hK.out _ _ (SK _ HBn.out) (fun hHeld => ?_)
              clear hK K
              (try simp only [Act.put, List.setIfInBounds_toArray, List.set_cons_zero, List.set_cons_succ])
              replace Y := Lib.hid ((((Y.out.set 0 (.int .u8 (op.toNat : Int)) (by show 0 < 4; omega)).set 1 (.int .i64 mod) (by show 1 < 4; omega)).set 2 (.bool no) (by show 2 < 4; omega)).set 3 (.slice (some ⟨g3, 0, none⟩) (n + 1) c3) (by show 3 < 4; omega))
              have hne := neR3_14 g3 rfl
              have hk : (Value.slice (some ⟨g3, 0, none⟩) (n + 1) c3).ownBlock = none ∨ (Value.slice (some ⟨g3, 0, none⟩) (n + 1) c3).ownBlock ≠ some q14 := .inr (fun e => hne (by injection e))
              have K := Lib.hid ((((R3.out.kept (grown_store _ q14 0 (.int .u8 (op.toNat : Int))) hk).kept (grown_store _ q14 1 (.int .i64 mod)) hk).kept (grown_store _ q14 2 (.bool no)) hk).kept (grown_store _ q14 3 (.slice (some ⟨g3, 0, none⟩) (n + 1) c3)) hk)
              refine wpAnyH_done (by kernel_rfl) ?_ _
              go_wp2_with fail
              go_meet
              exact ⟨_, _, _, rfl, Y, Lib.hid (row_lies K.out (by rw [List.length_append, HNL.out]; rfl) (by omega)), HBn⟩
          · go_simp
            have HQ14 : u.heap.size ≤ u2.heap.size := HB.out.size
            have HBn := Lib.hid (HB.out.alloc HB.out.size (.cells #[.int .u8 0, .int .i64 0, .bool false, .slice none 0 0] 45))
            refine hK.out _ _ (SK _ HBn.out) (fun hHeld => ?_)
            clear hK K
            (try simp only [Act.put, List.setIfInBounds_toArray, List.set_cons_zero, List.set_cons_succ])
            have hr2 := fun k hk => (R2.out.lt k hk).2
            replace R2 := Lib.hid (R2.out.alloc (.cells #[.int .u8 0, .int .i64 0, .bool false, .slice none 0 0] 45))
            have Y := Lib.hid (Boxed.made u2 #[.int .u8 0, .int .i64 0, .bool false, .slice none 0 0] 45)
            have neR2_14 : ∀ k, (Value.slice (some ⟨g2, 0, none⟩) n c2).ownBlock = some k → k ≠ u2.heap.size := fun k hk => by have := hr2 k hk; omega
            replace HB := HBn
            clear HBn
            generalize hq14 : u2.heap.size = q14 at *
            generalize World.alloc u2 (.cells #[.int .u8 0, .int .i64 0, .bool false, .slice none 0 0] 45) = u3 at *
            clear hq14
            refine take_call 11 rfl (by kernel_rfl) (by rfl) (fun K hK => ?_)
            go_simp
            have HQ11 : u.heap.size ≤ u3.heap.size := HB.out.size
            have HBn := Lib.hid (HB.out.alloc HB.out.size (.cells #[.int .i64 m0, .int .i64 m1] 46))
            refine hK.out _ _ (SK _ HBn.out) (fun hHeld => ?_)
            clear hK K
            (try simp only [Act.put, List.setIfInBounds_toArray, List.set_cons_zero, List.set_cons_succ])
            have hl14 := Y.out.lt
            have hr2 := fun k hk => (R2.out.lt k hk).2
            replace R2 := Lib.hid (R2.out.alloc (.cells #[.int .i64 m0, .int .i64 m1] 46))
            replace Y := Lib.hid (Y.out.alloc (.cells #[.int .i64 m0, .int .i64 m1] 46))
            have X := Lib.hid (Boxed.made u3 #[.int .i64 m0, .int .i64 m1] 46)
            have neR2_11 : ∀ k, (Value.slice (some ⟨g2, 0, none⟩) n c2).ownBlock = some k → k ≠ u3.heap.size := fun k hk => by have := hr2 k hk; omega
            replace HB := HBn
            clear HBn
            generalize hq11 : u3.heap.size = q11 at *
            generalize World.alloc u3 (.cells #[.int .i64 m0, .int .i64 m1] 46) = u4 at *
            clear hq11
            refine take_call 12 rfl (by kernel_rfl) (by rfl) (fun K hK => ?_)
            refine wp_append_own_at _ _ _ 43 rfl u.heap.size 46 iR _ 2 16 Tryz.underlying43 hiR hR0 hR1 hR2 rfl (by decide) (.slice (some ⟨g2, 0, none⟩) n c2) n (fl rs) (by simp [go_sem]) R2.out ⟨q11, 0, none⟩ 1 1 [.int .i64 m0, .int .i64 m1] (by simp [go_sem]) rfl (boxed_add X.out) (fun x hx => by simp at hx; rcases hx with rfl | rfl <;> rfl) (by unfold maxLen; omega) (by omega) HB.out.size ?_
            intro v3 un hown hg hat
            have HBn := Lib.hid (HB.out.grown hg HB.out.size (fun k hk => (R2.out.lt k hk).1))
            refine hK.out _ _ (SK _ HBn.out) (fun hHeld => ?_)
            clear hK K
            (try simp only [Act.put, List.setIfInBounds_toArray, List.set_cons_zero, List.set_cons_succ])
            rw [show fl rs ++ [.int .i64 m0, .int .i64 m1] = fl (rs ++ [(m0, m1)]) from (fl_add rs (m0, m1)).symm] at hown
            have R3 := Lib.hid hown
            have hl14 := Y.out.lt
            replace Y := Lib.hid (boxed_grown Y.out hg (fun e => by injection e with e; exact neR2_14 g2 rfl e.symm))
            have neR3_14 : ∀ k, v3.ownBlock = some k → k ≠ q14 := fun k hk => by
              rcases hat with e | e <;> rw [e] at hk
              · exact neR2_14 k hk
              · injection hk with hk
                omega
            replace HB := HBn
            clear HBn hown hg hat R2 X
            obtain ⟨g3, c3, rfl⟩ := row_some R3.out (by omega)
            generalize un = u5 at *
            refine take_run (d := some 74) (v := ?v36) 13 rfl rfl (by kernel_rfl) (by kernel_rfl) (by kernel_rfl) (fun _ _ _ h => h) (by rfl) hHeld ?hy36 ?rs36
            case hy36 => (intro w hSw; (try dsimp only at hSw); go_simp) <;> (try with_reducible rfl)
            (try simp only [Act.put, List.setIfInBounds_toArray, List.set_cons_zero, List.set_cons_succ])
            refine take_call 15 rfl (by kernel_rfl) (by rfl) (fun K hK => ?_)
            have y0 := Y.out.cell 0 _ rfl
            have y1 := Y.out.cell 1 _ rfl
            have y2 := Y.out.cell 2 _ rfl
            have y3 := Y.out.cell 3 _ rfl
            have f0 := Y.out.free 0 (by show 0 < 4; omega)
            have f1 := Y.out.free 1 (by show 1 < 4; omega)
            have f2 := Y.out.free 2 (by show 2 < 4; omega)
            have f3 := Y.out.free 3 (by show 3 < 4; omega)
            have yl := Y.out.lt
            have hq := HQ14
            go_simp
            clear y0 y1 y2 y3 f0 f1 f2 f3
            have HBn := Lib.hid ((((HB.out.setCell (p := ⟨q14, 0, none⟩) hq (.int .u8 (op.toNat : Int))).setCell (p := ⟨q14, 1, none⟩) hq (.int .i64 mod)).setCell (p := ⟨q14, 2, none⟩) hq (.bool no)).setCell (p := ⟨q14, 3, none⟩) hq (.slice (some ⟨g3, 0, none⟩) (n + 1) c3))
            refine hK.out _ _ (SK _ HBn.out) (fun hHeld => ?_)
            clear hK K
            (try simp only [Act.put, List.setIfInBounds_toArray, List.set_cons_zero, List.set_cons_succ])
            replace Y := Lib.hid ((((Y.out.set 0 (.int .u8 (op.toNat : Int)) (by show 0 < 4; omega)).set 1 (.int .i64 mod) (by show 1 < 4; omega)).set 2 (.bool no) (by show 2 < 4; omega)).set 3 (.slice (some ⟨g3, 0, none⟩) (n + 1) c3) (by show 3 < 4; omega))
            have hne := neR3_14 g3 rfl
            have hk : (Value.slice (some ⟨g3, 0, none⟩) (n + 1) c3).ownBlock = none ∨ (Value.slice (some ⟨g3, 0, none⟩) (n + 1) c3).ownBlock ≠ some q14 := .inr (fun e => hne (by injection e))
            have K := Lib.hid ((((R3.out.kept (grown_store _ q14 0 (.int .u8 (op.toNat : Int))) hk).kept (grown_store _ q14 1 (.int .i64 mod)) hk).kept (grown_store _ q14 2 (.bool no)) hk).kept (grown_store _ q14 3 (.slice (some ⟨g3, 0, none⟩) (n + 1) c3)) hk)
            refine wpAnyH_done (by kernel_rfl) ?_ _
            go_wp2_with fail
            go_meet
            exact ⟨_, _, _, rfl, Y, Lib.hid (row_lies K.out (by rw [List.length_append, HNL.out]; rfl) (by omega)), HBn⟩
        · go_simp
          have HQ11 : u.heap.size ≤ u1.heap.size := HB.out.size
          have HBn := Lib.hid (HB.out.alloc HB.out.size (.cells #[.int .i64 m0, .int .i64 m1] 46))
          refine hK.out _ _ (SK _ HBn.out) (fun hHeld => ?_)
          clear hK K
          (try simp only [Act.put, List.setIfInBounds_toArray, List.set_cons_zero, List.set_cons_succ])
          have hR : q6 < u1.heap.size := (R.out.lt q6 rfl).2
          replace R := Lib.hid (R.out.alloc (.cells #[.int .i64 m0, .int .i64 m1] 46))
          have X := Lib.hid (Boxed.made u1 #[.int .i64 m0, .int .i64 m1] 46)
          have ne11_6 : u1.heap.size ≠ q6 := by have := hR; omega
          replace HB := HBn
          clear HBn
          generalize hq11 : u1.heap.size = q11 at *
          generalize World.alloc u1 (.cells #[.int .i64 m0, .int .i64 m1] 46) = u2 at *
          clear hq11
          refine take_two 9 14 rfl rfl (by kernel_rfl) (by rfl) (by rfl) (fun K hK => ?_) (fun K hK => ?_)
          · refine wp_append_own_at _ _ _ 43 rfl u.heap.size 46 iR _ 2 16 Tryz.underlying43 hiR hR0 hR1 hR2 rfl (by decide) (.slice (some ⟨q6, 0, none⟩) 0 0) 0 [] (by simp [go_sem]) R.out ⟨b, off, none⟩ n c (fl rs) (by simp [go_sem]) (by rw [fl_len]; have := HNL.out; omega) (fl_cells (HRS.out _ HB.out)) fl_one (by unfold maxLen; omega) (by omega) HB.out.size ?_
            intro v2 un hown hg hat
            have HBn := Lib.hid (HB.out.grown hg HB.out.size (fun k hk => by have hq : u.heap.size ≤ q6 := (R.out.lt q6 rfl).1; have hk : some q6 = some k := hk; injection hk with hk; omega))
            refine hK.out _ _ (SK _ HBn.out) (fun hHeld => ?_)
            clear hK K
            (try simp only [Act.put, List.setIfInBounds_toArray, List.set_cons_zero, List.set_cons_succ])
            simp only [Nat.zero_add, List.nil_append] at hown
            have R2 := Lib.hid hown
            have hl11 := X.out.lt
            replace X := Lib.hid (boxed_grown X.out hg (fun e => by injection e with e; exact ne11_6 e))
            have neR2_11 : ∀ k, v2.ownBlock = some k → k ≠ q11 := fun k hk => by
              rcases hat with e | e <;> rw [e] at hk
              · have hk : some q6 = some k := hk
                injection hk with hk
                omega
              · injection hk with hk
                omega
            replace HB := HBn
            clear HBn hown hg hat R
            obtain ⟨g2, c2, rfl⟩ := row_some R2.out (by omega)
            skip
            generalize un = u3 at *
            refine take_two 12 14 rfl rfl (by kernel_rfl) (by rfl) (by rfl) (fun K hK => ?_) (fun K hK => ?_)
            · refine wp_append_own_at _ _ _ 43 rfl u.heap.size 46 iR _ 2 16 Tryz.underlying43 hiR hR0 hR1 hR2 rfl (by decide) (.slice (some ⟨g2, 0, none⟩) n c2) n (fl rs) (by simp [go_sem]) R2.out ⟨q11, 0, none⟩ 1 1 [.int .i64 m0, .int .i64 m1] (by simp [go_sem]) rfl (boxed_add X.out) (fun x hx => by simp at hx; rcases hx with rfl | rfl <;> rfl) (by unfold maxLen; omega) (by omega) HB.out.size ?_
              intro v3 un hown hg hat
              have HBn := Lib.hid (HB.out.grown hg HB.out.size (fun k hk => (R2.out.lt k hk).1))
              refine hK.out _ _ (SK _ HBn.out) (fun hHeld => ?_)
              clear hK K
              (try simp only [Act.put, List.setIfInBounds_toArray, List.set_cons_zero, List.set_cons_succ])
              rw [show fl rs ++ [.int .i64 m0, .int .i64 m1] = fl (rs ++ [(m0, m1)]) from (fl_add rs (m0, m1)).symm] at hown
              have R3 := Lib.hid hown
              replace HB := HBn
              clear HBn hown hg hat R2 X
              obtain ⟨g3, c3, rfl⟩ := row_some R3.out (by omega)
              generalize un = u4 at *
              refine take_run (d := some 74) (v := ?v37) 13 rfl rfl (by kernel_rfl) (by kernel_rfl) (by kernel_rfl) (fun _ _ _ h => h) (by rfl) hHeld ?hy37 ?rs37
              case hy37 => (intro w hSw; (try dsimp only at hSw); go_simp) <;> (try with_reducible rfl)
              (try simp only [Act.put, List.setIfInBounds_toArray, List.set_cons_zero, List.set_cons_succ])
              refine take_call 14 rfl (by kernel_rfl) (by rfl) (fun K hK => ?_)
              go_simp
              have HQ14 : u.heap.size ≤ u4.heap.size := HB.out.size
              have HBn := Lib.hid (HB.out.alloc HB.out.size (.cells #[.int .u8 0, .int .i64 0, .bool false, .slice none 0 0] 45))
              refine hK.out _ _ (SK _ HBn.out) (fun hHeld => ?_)
              clear hK K
              (try simp only [Act.put, List.setIfInBounds_toArray, List.set_cons_zero, List.set_cons_succ])
              have hr3 := fun k hk => (R3.out.lt k hk).2
              replace R3 := Lib.hid (R3.out.alloc (.cells #[.int .u8 0, .int .i64 0, .bool false, .slice none 0 0] 45))
              have Y := Lib.hid (Boxed.made u4 #[.int .u8 0, .int .i64 0, .bool false, .slice none 0 0] 45)
              have neR3_14 : ∀ k, (Value.slice (some ⟨g3, 0, none⟩) (n + 1) c3).ownBlock = some k → k ≠ u4.heap.size := fun k hk => by have := hr3 k hk; omega
              replace HB := HBn
              clear HBn
              generalize hq14 : u4.heap.size = q14 at *
              generalize World.alloc u4 (.cells #[.int .u8 0, .int .i64 0, .bool false, .slice none 0 0] 45) = u6 at *
              clear hq14
              refine take_call 15 rfl (by kernel_rfl) (by rfl) (fun K hK => ?_)
              have y0 := Y.out.cell 0 _ rfl
              have y1 := Y.out.cell 1 _ rfl
              have y2 := Y.out.cell 2 _ rfl
              have y3 := Y.out.cell 3 _ rfl
              have f0 := Y.out.free 0 (by show 0 < 4; omega)
              have f1 := Y.out.free 1 (by show 1 < 4; omega)
              have f2 := Y.out.free 2 (by show 2 < 4; omega)
              have f3 := Y.out.free 3 (by show 3 < 4; omega)
              have yl := Y.out.lt
              have hq := HQ14
              go_simp
              clear y0 y1 y2 y3 f0 f1 f2 f3
              have HBn := Lib.hid ((((HB.out.setCell (p := ⟨q14, 0, none⟩) hq (.int .u8 (op.toNat : Int))).setCell (p := ⟨q14, 1, none⟩) hq (.int .i64 mod)).setCell (p := ⟨q14, 2, none⟩) hq (.bool no)).setCell (p := ⟨q14, 3, none⟩) hq (.slice (some ⟨g3, 0, none⟩) (n + 1) c3))
              refine hK.out _ _ (SK _ HBn.out) (fun hHeld => ?_)
              clear hK K
              (try simp only [Act.put, List.setIfInBounds_toArray, List.set_cons_zero, List.set_cons_succ])
              replace Y := Lib.hid ((((Y.out.set 0 (.int .u8 (op.toNat : Int)) (by show 0 < 4; omega)).set 1 (.int .i64 mod) (by show 1 < 4; omega)).set 2 (.bool no) (by show 2 < 4; omega)).set 3 (.slice (some ⟨g3, 0, none⟩) (n + 1) c3) (by show 3 < 4; omega))
              have hne := neR3_14 g3 rfl
              have hk : (Value.slice (some ⟨g3, 0, none⟩) (n + 1) c3).ownBlock = none ∨ (Value.slice (some ⟨g3, 0, none⟩) (n + 1) c3).ownBlock ≠ some q14 := .inr (fun e => hne (by injection e))
              have K := Lib.hid ((((R3.out.kept (grown_store _ q14 0 (.int .u8 (op.toNat : Int))) hk).kept (grown_store _ q14 1 (.int .i64 mod)) hk).kept (grown_store _ q14 2 (.bool no)) hk).kept (grown_store _ q14 3 (.slice (some ⟨g3, 0, none⟩) (n + 1) c3)) hk)
              refine wpAnyH_done (by kernel_rfl) ?_ _
              go_wp2_with fail
              go_meet
              exact ⟨_, _, _, rfl, Y, Lib.hid (row_lies K.out (by rw [List.length_append, HNL.out]; rfl) (by omega)), HBn⟩
            · go_simp
              have HQ14 : u.heap.size ≤ u3.heap.size := HB.out.size
              have HBn := Lib.hid (HB.out.alloc HB.out.size (.cells #[.int .u8 0, .int .i64 0, .bool false, .slice none 0 0] 45))
              refine hK.out _ _ (SK _ HBn.out) (fun hHeld => ?_)
              clear hK K
              (try simp only [Act.put, List.setIfInBounds_toArray, List.set_cons_zero, List.set_cons_succ])
              have hl11 := X.out.lt
              have hr2 := fun k hk => (R2.out.lt k hk).2
              replace R2 := Lib.hid (R2.out.alloc (.cells #[.int .u8 0, .int .i64 0, .bool false, .slice none 0 0] 45))
              replace X := Lib.hid (X.out.alloc (.cells #[.int .u8 0, .int .i64 0, .bool false, .slice none 0 0] 45))
              have Y := Lib.hid (Boxed.made u3 #[.int .u8 0, .int .i64 0, .bool false, .slice none 0 0] 45)
              have neR2_14 : ∀ k, (Value.slice (some ⟨g2, 0, none⟩) n c2).ownBlock = some k → k ≠ u3.heap.size := fun k hk => by have := hr2 k hk; omega
              replace HB := HBn
              clear HBn
              generalize hq14 : u3.heap.size = q14 at *
              generalize World.alloc u3 (.cells #[.int .u8 0, .int .i64 0, .bool false, .slice none 0 0] 45) = u4 at *
              clear hq14
              refine take_call 12 rfl (by kernel_rfl) (by rfl) (fun K hK => ?_)
              refine wp_append_own_at _ _ _ 43 rfl u.heap.size 46 iR _ 2 16 Tryz.underlying43 hiR hR0 hR1 hR2 rfl (by decide) (.slice (some ⟨g2, 0, none⟩) n c2) n (fl rs) (by simp [go_sem]) R2.out ⟨q11, 0, none⟩ 1 1 [.int .i64 m0, .int .i64 m1] (by simp [go_sem]) rfl (boxed_add X.out) (fun x hx => by simp at hx; rcases hx with rfl | rfl <;> rfl) (by unfold maxLen; omega) (by omega) HB.out.size ?_
              intro v3 un hown hg hat
              have HBn := Lib.hid (HB.out.grown hg HB.out.size (fun k hk => (R2.out.lt k hk).1))
              refine hK.out _ _ (SK _ HBn.out) (fun hHeld => ?_)
              clear hK K
              (try simp only [Act.put, List.setIfInBounds_toArray, List.set_cons_zero, List.set_cons_succ])
              rw [show fl rs ++ [.int .i64 m0, .int .i64 m1] = fl (rs ++ [(m0, m1)]) from (fl_add rs (m0, m1)).symm] at hown
              have R3 := Lib.hid hown
              have hl14 := Y.out.lt
              replace Y := Lib.hid (boxed_grown Y.out hg (fun e => by injection e with e; exact neR2_14 g2 rfl e.symm))
              have neR3_14 : ∀ k, v3.ownBlock = some k → k ≠ q14 := fun k hk => by
                rcases hat with e | e <;> rw [e] at hk
                · exact neR2_14 k hk
                · injection hk with hk
                  omega
              replace HB := HBn
              clear HBn hown hg hat R2 X
              obtain ⟨g3, c3, rfl⟩ := row_some R3.out (by omega)
              generalize un = u5 at *
              refine take_run (d := some 74) (v := ?v38) 13 rfl rfl (by kernel_rfl) (by kernel_rfl) (by kernel_rfl) (fun _ _ _ h => h) (by rfl) hHeld ?hy38 ?rs38
              case hy38 => (intro w hSw; (try dsimp only at hSw); go_simp) <;> (try with_reducible rfl)
              (try simp only [Act.put, List.setIfInBounds_toArray, List.set_cons_zero, List.set_cons_succ])
              refine take_call 15 rfl (by kernel_rfl) (by rfl) (fun K hK => ?_)
              have y0 := Y.out.cell 0 _ rfl
              have y1 := Y.out.cell 1 _ rfl
              have y2 := Y.out.cell 2 _ rfl
              have y3 := Y.out.cell 3 _ rfl
              have f0 := Y.out.free 0 (by show 0 < 4; omega)
              have f1 := Y.out.free 1 (by show 1 < 4; omega)
              have f2 := Y.out.free 2 (by show 2 < 4; omega)
              have f3 := Y.out.free 3 (by show 3 < 4; omega)
              have yl := Y.out.lt
              have hq := HQ14
              go_simp
              clear y0 y1 y2 y3 f0 f1 f2 f3
              have HBn := Lib.hid ((((HB.out.setCell (p := ⟨q14, 0, none⟩) hq (.int .u8 (op.toNat : Int))).setCell (p := ⟨q14, 1, none⟩) hq (.int .i64 mod)).setCell (p := ⟨q14, 2, none⟩) hq (.bool no)).setCell (p := ⟨q14, 3, none⟩) hq (.slice (some ⟨g3, 0, none⟩) (n + 1) c3))
              refine hK.out _ _ (SK _ HBn.out) (fun hHeld => ?_)
              clear hK K
              (try simp only [Act.put, List.setIfInBounds_toArray, List.set_cons_zero, List.set_cons_succ])
              replace Y := Lib.hid ((((Y.out.set 0 (.int .u8 (op.toNat : Int)) (by show 0 < 4; omega)).set 1 (.int .i64 mod) (by show 1 < 4; omega)).set 2 (.bool no) (by show 2 < 4; omega)).set 3 (.slice (some ⟨g3, 0, none⟩) (n + 1) c3) (by show 3 < 4; omega))
              have hne := neR3_14 g3 rfl
              have hk : (Value.slice (some ⟨g3, 0, none⟩) (n + 1) c3).ownBlock = none ∨ (Value.slice (some ⟨g3, 0, none⟩) (n + 1) c3).ownBlock ≠ some q14 := .inr (fun e => hne (by injection e))
              have K := Lib.hid ((((R3.out.kept (grown_store _ q14 0 (.int .u8 (op.toNat : Int))) hk).kept (grown_store _ q14 1 (.int .i64 mod)) hk).kept (grown_store _ q14 2 (.bool no)) hk).kept (grown_store _ q14 3 (.slice (some ⟨g3, 0, none⟩) (n + 1) c3)) hk)
              refine wpAnyH_done (by kernel_rfl) ?_ _
              go_wp2_with fail
              go_meet
              exact ⟨_, _, _, rfl, Y, Lib.hid (row_lies K.out (by rw [List.length_append, HNL.out]; rfl) (by omega)), HBn⟩
          · go_simp
            have HQ14 : u.heap.size ≤ u2.heap.size := HB.out.size
            have HBn := Lib.hid (HB.out.alloc HB.out.size (.cells #[.int .u8 0, .int .i64 0, .bool false, .slice none 0 0] 45))
            refine hK.out _ _ (SK _ HBn.out) (fun hHeld => ?_)
            clear hK K
            (try simp only [Act.put, List.setIfInBounds_toArray, List.set_cons_zero, List.set_cons_succ])
            have hR : q6 < u2.heap.size := (R.out.lt q6 rfl).2
            have hl11 := X.out.lt
            replace R := Lib.hid (R.out.alloc (.cells #[.int .u8 0, .int .i64 0, .bool false, .slice none 0 0] 45))
            replace X := Lib.hid (X.out.alloc (.cells #[.int .u8 0, .int .i64 0, .bool false, .slice none 0 0] 45))
            have Y := Lib.hid (Boxed.made u2 #[.int .u8 0, .int .i64 0, .bool false, .slice none 0 0] 45)
            have ne14_6 : u2.heap.size ≠ q6 := by have := hR; omega
            replace HB := HBn
            clear HBn
            generalize hq14 : u2.heap.size = q14 at *
            generalize World.alloc u2 (.cells #[.int .u8 0, .int .i64 0, .bool false, .slice none 0 0] 45) = u3 at *
            clear hq14
            refine take_call 9 rfl (by kernel_rfl) (by rfl) (fun K hK => ?_)
            refine wp_append_own_at _ _ _ 43 rfl u.heap.size 46 iR _ 2 16 Tryz.underlying43 hiR hR0 hR1 hR2 rfl (by decide) (.slice (some ⟨q6, 0, none⟩) 0 0) 0 [] (by simp [go_sem]) R.out ⟨b, off, none⟩ n c (fl rs) (by simp [go_sem]) (by rw [fl_len]; have := HNL.out; omega) (fl_cells (HRS.out _ HB.out)) fl_one (by unfold maxLen; omega) (by omega) HB.out.size ?_
            intro v2 un hown hg hat
            have HBn := Lib.hid (HB.out.grown hg HB.out.size (fun k hk => by have hq : u.heap.size ≤ q6 := (R.out.lt q6 rfl).1; have hk : some q6 = some k := hk; injection hk with hk; omega))
            refine hK.out _ _ (SK _ HBn.out) (fun hHeld => ?_)
            clear hK K
            (try simp only [Act.put, List.setIfInBounds_toArray, List.set_cons_zero, List.set_cons_succ])
            simp only [Nat.zero_add, List.nil_append] at hown
            have R2 := Lib.hid hown
            have hl11 := X.out.lt
            replace X := Lib.hid (boxed_grown X.out hg (fun e => by injection e with e; exact ne11_6 e))
            have neR2_11 : ∀ k, v2.ownBlock = some k → k ≠ q11 := fun k hk => by
              rcases hat with e | e <;> rw [e] at hk
              · have hk : some q6 = some k := hk
                injection hk with hk
                omega
              · injection hk with hk
                omega
            have hl14 := Y.out.lt
            replace Y := Lib.hid (boxed_grown Y.out hg (fun e => by injection e with e; exact ne14_6 e))
            have neR2_14 : ∀ k, v2.ownBlock = some k → k ≠ q14 := fun k hk => by
              rcases hat with e | e <;> rw [e] at hk
              · have hk : some q6 = some k := hk
                injection hk with hk
                omega
              · injection hk with hk
                omega
            replace HB := HBn
            clear HBn hown hg hat R
            obtain ⟨g2, c2, rfl⟩ := row_some R2.out (by omega)
            skip
            generalize un = u4 at *
            refine take_call 12 rfl (by kernel_rfl) (by rfl) (fun K hK => ?_)
            refine wp_append_own_at _ _ _ 43 rfl u.heap.size 46 iR _ 2 16 Tryz.underlying43 hiR hR0 hR1 hR2 rfl (by decide) (.slice (some ⟨g2, 0, none⟩) n c2) n (fl rs) (by simp [go_sem]) R2.out ⟨q11, 0, none⟩ 1 1 [.int .i64 m0, .int .i64 m1] (by simp [go_sem]) rfl (boxed_add X.out) (fun x hx => by simp at hx; rcases hx with rfl | rfl <;> rfl) (by unfold maxLen; omega) (by omega) HB.out.size ?_
            intro v3 un hown hg hat
            have HBn := Lib.hid (HB.out.grown hg HB.out.size (fun k hk => (R2.out.lt k hk).1))
            refine hK.out _ _ (SK _ HBn.out) (fun hHeld => ?_)
            clear hK K
            (try simp only [Act.put, List.setIfInBounds_toArray, List.set_cons_zero, List.set_cons_succ])
            rw [show fl rs ++ [.int .i64 m0, .int .i64 m1] = fl (rs ++ [(m0, m1)]) from (fl_add rs (m0, m1)).symm] at hown
            have R3 := Lib.hid hown
            have hl14 := Y.out.lt
            replace Y := Lib.hid (boxed_grown Y.out hg (fun e => by injection e with e; exact neR2_14 g2 rfl e.symm))
            have neR3_14 : ∀ k, v3.ownBlock = some k → k ≠ q14 := fun k hk => by
              rcases hat with e | e <;> rw [e] at hk
              · exact neR2_14 k hk
              · injection hk with hk
                omega
            replace HB := HBn
            clear HBn hown hg hat R2 X
            obtain ⟨g3, c3, rfl⟩ := row_some R3.out (by omega)
            generalize un = u5 at *
            refine take_run (d := some 74) (v := ?v39) 13 rfl rfl (by kernel_rfl) (by kernel_rfl) (by kernel_rfl) (fun _ _ _ h => h) (by rfl) hHeld ?hy39 ?rs39
            case hy39 => (intro w hSw; (try dsimp only at hSw); go_simp) <;> (try with_reducible rfl)
            (try simp only [Act.put, List.setIfInBounds_toArray, List.set_cons_zero, List.set_cons_succ])
            refine take_call 15 rfl (by kernel_rfl) (by rfl) (fun K hK => ?_)
            have y0 := Y.out.cell 0 _ rfl
            have y1 := Y.out.cell 1 _ rfl
            have y2 := Y.out.cell 2 _ rfl
            have y3 := Y.out.cell 3 _ rfl
            have f0 := Y.out.free 0 (by show 0 < 4; omega)
            have f1 := Y.out.free 1 (by show 1 < 4; omega)
            have f2 := Y.out.free 2 (by show 2 < 4; omega)
            have f3 := Y.out.free 3 (by show 3 < 4; omega)
            have yl := Y.out.lt
            have hq := HQ14
            go_simp
            clear y0 y1 y2 y3 f0 f1 f2 f3
            have HBn := Lib.hid ((((HB.out.setCell (p := ⟨q14, 0, none⟩) hq (.int .u8 (op.toNat : Int))).setCell (p := ⟨q14, 1, none⟩) hq (.int .i64 mod)).setCell (p := ⟨q14, 2, none⟩) hq (.bool no)).setCell (p := ⟨q14, 3, none⟩) hq (.slice (some ⟨g3, 0, none⟩) (n + 1) c3))
            refine hK.out _ _ (SK _ HBn.out) (fun hHeld => ?_)
            clear hK K
            (try simp only [Act.put, List.setIfInBounds_toArray, List.set_cons_zero, List.set_cons_succ])
            replace Y := Lib.hid ((((Y.out.set 0 (.int .u8 (op.toNat : Int)) (by show 0 < 4; omega)).set 1 (.int .i64 mod) (by show 1 < 4; omega)).set 2 (.bool no) (by show 2 < 4; omega)).set 3 (.slice (some ⟨g3, 0, none⟩) (n + 1) c3) (by show 3 < 4; omega))
            have hne := neR3_14 g3 rfl
            have hk : (Value.slice (some ⟨g3, 0, none⟩) (n + 1) c3).ownBlock = none ∨ (Value.slice (some ⟨g3, 0, none⟩) (n + 1) c3).ownBlock ≠ some q14 := .inr (fun e => hne (by injection e))
            have K := Lib.hid ((((R3.out.kept (grown_store _ q14 0 (.int .u8 (op.toNat : Int))) hk).kept (grown_store _ q14 1 (.int .i64 mod)) hk).kept (grown_store _ q14 2 (.bool no)) hk).kept (grown_store _ q14 3 (.slice (some ⟨g3, 0, none⟩) (n + 1) c3)) hk)
            refine wpAnyH_done (by kernel_rfl) ?_ _
            go_wp2_with fail
            go_meet
            exact ⟨_, _, _, rfl, Y, Lib.hid (row_lies K.out (by rw [List.length_append, HNL.out]; rfl) (by omega)), HBn⟩
        · go_simp
          have HQ14 : u.heap.size ≤ u1.heap.size := HB.out.size
          have HBn := Lib.hid (HB.out.alloc HB.out.size (.cells #[.int .u8 0, .int .i64 0, .bool false, .slice none 0 0] 45))
          refine hK.out _ _ (SK _ HBn.out) (fun hHeld => ?_)
          clear hK K
          (try simp only [Act.put, List.setIfInBounds_toArray, List.set_cons_zero, List.set_cons_succ])
          have hR : q6 < u1.heap.size := (R.out.lt q6 rfl).2
          replace R := Lib.hid (R.out.alloc (.cells #[.int .u8 0, .int .i64 0, .bool false, .slice none 0 0] 45))
          have Y := Lib.hid (Boxed.made u1 #[.int .u8 0, .int .i64 0, .bool false, .slice none 0 0] 45)
          have ne14_6 : u1.heap.size ≠ q6 := by have := hR; omega
          replace HB := HBn
          clear HBn
          generalize hq14 : u1.heap.size = q14 at *
          generalize World.alloc u1 (.cells #[.int .u8 0, .int .i64 0, .bool false, .slice none 0 0] 45) = u2 at *
          clear hq14
          refine take_two 9 11 rfl rfl (by kernel_rfl) (by rfl) (by rfl) (fun K hK => ?_) (fun K hK => ?_)
          · refine wp_append_own_at _ _ _ 43 rfl u.heap.size 46 iR _ 2 16 Tryz.underlying43 hiR hR0 hR1 hR2 rfl (by decide) (.slice (some ⟨q6, 0, none⟩) 0 0) 0 [] (by simp [go_sem]) R.out ⟨b, off, none⟩ n c (fl rs) (by simp [go_sem]) (by rw [fl_len]; have := HNL.out; omega) (fl_cells (HRS.out _ HB.out)) fl_one (by unfold maxLen; omega) (by omega) HB.out.size ?_
            intro v2 un hown hg hat
            have HBn := Lib.hid (HB.out.grown hg HB.out.size (fun k hk => by have hq : u.heap.size ≤ q6 := (R.out.lt q6 rfl).1; have hk : some q6 = some k := hk; injection hk with hk; omega))
            refine hK.out _ _ (SK _ HBn.out) (fun hHeld => ?_)
            clear hK K
            (try simp only [Act.put, List.setIfInBounds_toArray, List.set_cons_zero, List.set_cons_succ])
            simp only [Nat.zero_add, List.nil_append] at hown
            have R2 := Lib.hid hown
            have hl14 := Y.out.lt
            replace Y := Lib.hid (boxed_grown Y.out hg (fun e => by injection e with e; exact ne14_6 e))
            have neR2_14 : ∀ k, v2.ownBlock = some k → k ≠ q14 := fun k hk => by
              rcases hat with e | e <;> rw [e] at hk
              · have hk : some q6 = some k := hk
                injection hk with hk
                omega
              · injection hk with hk
                omega
            replace HB := HBn
            clear HBn hown hg hat R
            obtain ⟨g2, c2, rfl⟩ := row_some R2.out (by omega)
            skip
            generalize un = u3 at *
            refine take_call 11 rfl (by kernel_rfl) (by rfl) (fun K hK => ?_)
            go_simp
            have HQ11 : u.heap.size ≤ u3.heap.size := HB.out.size
            have HBn := Lib.hid (HB.out.alloc HB.out.size (.cells #[.int .i64 m0, .int .i64 m1] 46))
            refine hK.out _ _ (SK _ HBn.out) (fun hHeld => ?_)
            clear hK K
            (try simp only [Act.put, List.setIfInBounds_toArray, List.set_cons_zero, List.set_cons_succ])
            have hl14 := Y.out.lt
            have hr2 := fun k hk => (R2.out.lt k hk).2
            replace R2 := Lib.hid (R2.out.alloc (.cells #[.int .i64 m0, .int .i64 m1] 46))
            replace Y := Lib.hid (Y.out.alloc (.cells #[.int .i64 m0, .int .i64 m1] 46))
            have X := Lib.hid (Boxed.made u3 #[.int .i64 m0, .int .i64 m1] 46)
            have neR2_11 : ∀ k, (Value.slice (some ⟨g2, 0, none⟩) n c2).ownBlock = some k → k ≠ u3.heap.size := fun k hk => by have := hr2 k hk; omega
            replace HB := HBn
            clear HBn
            generalize hq11 : u3.heap.size = q11 at *
            generalize World.alloc u3 (.cells #[.int .i64 m0, .int .i64 m1] 46) = u4 at *
            clear hq11
            refine take_call 12 rfl (by kernel_rfl) (by rfl) (fun K hK => ?_)
            refine wp_append_own_at _ _ _ 43 rfl u.heap.size 46 iR _ 2 16 Tryz.underlying43 hiR hR0 hR1 hR2 rfl (by decide) (.slice (some ⟨g2, 0, none⟩) n c2) n (fl rs) (by simp [go_sem]) R2.out ⟨q11, 0, none⟩ 1 1 [.int .i64 m0, .int .i64 m1] (by simp [go_sem]) rfl (boxed_add X.out) (fun x hx => by simp at hx; rcases hx with rfl | rfl <;> rfl) (by unfold maxLen; omega) (by omega) HB.out.size ?_
            intro v3 un hown hg hat
            have HBn := Lib.hid (HB.out.grown hg HB.out.size (fun k hk => (R2.out.lt k hk).1))
            refine hK.out _ _ (SK _ HBn.out) (fun hHeld => ?_)
            clear hK K
            (try simp only [Act.put, List.setIfInBounds_toArray, List.set_cons_zero, List.set_cons_succ])
            rw [show fl rs ++ [.int .i64 m0, .int .i64 m1] = fl (rs ++ [(m0, m1)]) from (fl_add rs (m0, m1)).symm] at hown
            have R3 := Lib.hid hown
            have hl14 := Y.out.lt
            replace Y := Lib.hid (boxed_grown Y.out hg (fun e => by injection e with e; exact neR2_14 g2 rfl e.symm))
            have neR3_14 : ∀ k, v3.ownBlock = some k → k ≠ q14 := fun k hk => by
              rcases hat with e | e <;> rw [e] at hk
              · exact neR2_14 k hk
              · injection hk with hk
                omega
            replace HB := HBn
            clear HBn hown hg hat R2 X
            obtain ⟨g3, c3, rfl⟩ := row_some R3.out (by omega)
            generalize un = u5 at *
            refine take_run (d := some 74) (v := ?v40) 13 rfl rfl (by kernel_rfl) (by kernel_rfl) (by kernel_rfl) (fun _ _ _ h => h) (by rfl) hHeld ?hy40 ?rs40
            case hy40 => (intro w hSw; (try dsimp only at hSw); go_simp) <;> (try with_reducible rfl)
            (try simp only [Act.put, List.setIfInBounds_toArray, List.set_cons_zero, List.set_cons_succ])
            refine take_call 15 rfl (by kernel_rfl) (by rfl) (fun K hK => ?_)
            have y0 := Y.out.cell 0 _ rfl
            have y1 := Y.out.cell 1 _ rfl
            have y2 := Y.out.cell 2 _ rfl
            have y3 := Y.out.cell 3 _ rfl
            have f0 := Y.out.free 0 (by show 0 < 4; omega)
            have f1 := Y.out.free 1 (by show 1 < 4; omega)
            have f2 := Y.out.free 2 (by show 2 < 4; omega)
            have f3 := Y.out.free 3 (by show 3 < 4; omega)
            have yl := Y.out.lt
            have hq := HQ14
            go_simp
            clear y0 y1 y2 y3 f0 f1 f2 f3
            have HBn := Lib.hid ((((HB.out.setCell (p := ⟨q14, 0, none⟩) hq (.int .u8 (op.toNat : Int))).setCell (p := ⟨q14, 1, none⟩) hq (.int .i64 mod)).setCell (p := ⟨q14, 2, none⟩) hq (.bool no)).setCell (p := ⟨q14, 3, none⟩) hq (.slice (some ⟨g3, 0, none⟩) (n + 1) c3))
            refine hK.out _ _ (SK _ HBn.out) (fun hHeld => ?_)
            clear hK K
            (try simp only [Act.put, List.setIfInBounds_toArray, List.set_cons_zero, List.set_cons_succ])
            replace Y := Lib.hid ((((Y.out.set 0 (.int .u8 (op.toNat : Int)) (by show 0 < 4; omega)).set 1 (.int .i64 mod) (by show 1 < 4; omega)).set 2 (.bool no) (by show 2 < 4; omega)).set 3 (.slice (some ⟨g3, 0, none⟩) (n + 1) c3) (by show 3 < 4; omega))
            have hne := neR3_14 g3 rfl
            have hk : (Value.slice (some ⟨g3, 0, none⟩) (n + 1) c3).ownBlock = none ∨ (Value.slice (some ⟨g3, 0, none⟩) (n + 1) c3).ownBlock ≠ some q14 := .inr (fun e => hne (by injection e))
            have K := Lib.hid ((((R3.out.kept (grown_store _ q14 0 (.int .u8 (op.toNat : Int))) hk).kept (grown_store _ q14 1 (.int .i64 mod)) hk).kept (grown_store _ q14 2 (.bool no)) hk).kept (grown_store _ q14 3 (.slice (some ⟨g3, 0, none⟩) (n + 1) c3)) hk)
            refine wpAnyH_done (by kernel_rfl) ?_ _
            go_wp2_with fail
            go_meet
            exact ⟨_, _, _, rfl, Y, Lib.hid (row_lies K.out (by rw [List.length_append, HNL.out]; rfl) (by omega)), HBn⟩
          · go_simp
            have HQ11 : u.heap.size ≤ u2.heap.size := HB.out.size
            have HBn := Lib.hid (HB.out.alloc HB.out.size (.cells #[.int .i64 m0, .int .i64 m1] 46))
            refine hK.out _ _ (SK _ HBn.out) (fun hHeld => ?_)
            clear hK K
            (try simp only [Act.put, List.setIfInBounds_toArray, List.set_cons_zero, List.set_cons_succ])
            have hR : q6 < u2.heap.size := (R.out.lt q6 rfl).2
            have hl14 := Y.out.lt
            replace R := Lib.hid (R.out.alloc (.cells #[.int .i64 m0, .int .i64 m1] 46))
            replace Y := Lib.hid (Y.out.alloc (.cells #[.int .i64 m0, .int .i64 m1] 46))
            have X := Lib.hid (Boxed.made u2 #[.int .i64 m0, .int .i64 m1] 46)
            have ne11_6 : u2.heap.size ≠ q6 := by have := hR; omega
            replace HB := HBn
            clear HBn
            generalize hq11 : u2.heap.size = q11 at *
            generalize World.alloc u2 (.cells #[.int .i64 m0, .int .i64 m1] 46) = u3 at *
            clear hq11
            refine take_call 9 rfl (by kernel_rfl) (by rfl) (fun K hK => ?_)
            refine wp_append_own_at _ _ _ 43 rfl u.heap.size 46 iR _ 2 16 Tryz.underlying43 hiR hR0 hR1 hR2 rfl (by decide) (.slice (some ⟨q6, 0, none⟩) 0 0) 0 [] (by simp [go_sem]) R.out ⟨b, off, none⟩ n c (fl rs) (by simp [go_sem]) (by rw [fl_len]; have := HNL.out; omega) (fl_cells (HRS.out _ HB.out)) fl_one (by unfold maxLen; omega) (by omega) HB.out.size ?_
            intro v2 un hown hg hat
            have HBn := Lib.hid (HB.out.grown hg HB.out.size (fun k hk => by have hq : u.heap.size ≤ q6 := (R.out.lt q6 rfl).1; have hk : some q6 = some k := hk; injection hk with hk; omega))
            refine hK.out _ _ (SK _ HBn.out) (fun hHeld => ?_)
            clear hK K
            (try simp only [Act.put, List.setIfInBounds_toArray, List.set_cons_zero, List.set_cons_succ])
            simp only [Nat.zero_add, List.nil_append] at hown
            have R2 := Lib.hid hown
            have hl11 := X.out.lt
            replace X := Lib.hid (boxed_grown X.out hg (fun e => by injection e with e; exact ne11_6 e))
            have neR2_11 : ∀ k, v2.ownBlock = some k → k ≠ q11 := fun k hk => by
              rcases hat with e | e <;> rw [e] at hk
              · have hk : some q6 = some k := hk
                injection hk with hk
                omega
              · injection hk with hk
                omega
            have hl14 := Y.out.lt
            replace Y := Lib.hid (boxed_grown Y.out hg (fun e => by injection e with e; exact ne14_6 e))
            have neR2_14 : ∀ k, v2.ownBlock = some k → k ≠ q14 := fun k hk => by
              rcases hat with e | e <;> rw [e] at hk
              · have hk : some q6 = some k := hk
                injection hk with hk
                omega
              · injection hk with hk
                omega
            replace HB := HBn
            clear HBn hown hg hat R
            obtain ⟨g2, c2, rfl⟩ := row_some R2.out (by omega)
            skip
            generalize un = u4 at *
            refine take_call 12 rfl (by kernel_rfl) (by rfl) (fun K hK => ?_)
            refine wp_append_own_at _ _ _ 43 rfl u.heap.size 46 iR _ 2 16 Tryz.underlying43 hiR hR0 hR1 hR2 rfl (by decide) (.slice (some ⟨g2, 0, none⟩) n c2) n (fl rs) (by simp [go_sem]) R2.out ⟨q11, 0, none⟩ 1 1 [.int .i64 m0, .int .i64 m1] (by simp [go_sem]) rfl (boxed_add X.out) (fun x hx => by simp at hx; rcases hx with rfl | rfl <;> rfl) (by unfold maxLen; omega) (by omega) HB.out.size ?_
            intro v3 un hown hg hat
            have HBn := Lib.hid (HB.out.grown hg HB.out.size (fun k hk => (R2.out.lt k hk).1))
            refine hK.out _ _ (SK _ HBn.out) (fun hHeld => ?_)
            clear hK K
            (try simp only [Act.put, List.setIfInBounds_toArray, List.set_cons_zero, List.set_cons_succ])
            rw [show fl rs ++ [.int .i64 m0, .int .i64 m1] = fl (rs ++ [(m0, m1)]) from (fl_add rs (m0, m1)).symm] at hown
            have R3 := Lib.hid hown
            have hl14 := Y.out.lt
            replace Y := Lib.hid (boxed_grown Y.out hg (fun e => by injection e with e; exact neR2_14 g2 rfl e.symm))
            have neR3_14 : ∀ k, v3.ownBlock = some k → k ≠ q14 := fun k hk => by
              rcases hat with e | e <;> rw [e] at hk
              · exact neR2_14 k hk
              · injection hk with hk
                omega
            replace HB := HBn
            clear HBn hown hg hat R2 X
            obtain ⟨g3, c3, rfl⟩ := row_some R3.out (by omega)
            generalize un = u5 at *
            refine take_run (d := some 74) (v := ?v41) 13 rfl rfl (by kernel_rfl) (by kernel_rfl) (by kernel_rfl) (fun _ _ _ h => h) (by rfl) hHeld ?hy41 ?rs41
            case hy41 => (intro w hSw; (try dsimp only at hSw); go_simp) <;> (try with_reducible rfl)
            (try simp only [Act.put, List.setIfInBounds_toArray, List.set_cons_zero, List.set_cons_succ])
            refine take_call 15 rfl (by kernel_rfl) (by rfl) (fun K hK => ?_)
            have y0 := Y.out.cell 0 _ rfl
            have y1 := Y.out.cell 1 _ rfl
            have y2 := Y.out.cell 2 _ rfl
            have y3 := Y.out.cell 3 _ rfl
            have f0 := Y.out.free 0 (by show 0 < 4; omega)
            have f1 := Y.out.free 1 (by show 1 < 4; omega)
            have f2 := Y.out.free 2 (by show 2 < 4; omega)
            have f3 := Y.out.free 3 (by show 3 < 4; omega)
            have yl := Y.out.lt
            have hq := HQ14
            go_simp
            clear y0 y1 y2 y3 f0 f1 f2 f3
            have HBn := Lib.hid ((((HB.out.setCell (p := ⟨q14, 0, none⟩) hq (.int .u8 (op.toNat : Int))).setCell (p := ⟨q14, 1, none⟩) hq (.int .i64 mod)).setCell (p := ⟨q14, 2, none⟩) hq (.bool no)).setCell (p := ⟨q14, 3, none⟩) hq (.slice (some ⟨g3, 0, none⟩) (n + 1) c3))
            refine hK.out _ _ (SK _ HBn.out) (fun hHeld => ?_)
            clear hK K
            (try simp only [Act.put, List.setIfInBounds_toArray, List.set_cons_zero, List.set_cons_succ])
            replace Y := Lib.hid ((((Y.out.set 0 (.int .u8 (op.toNat : Int)) (by show 0 < 4; omega)).set 1 (.int .i64 mod) (by show 1 < 4; omega)).set 2 (.bool no) (by show 2 < 4; omega)).set 3 (.slice (some ⟨g3, 0, none⟩) (n + 1) c3) (by show 3 < 4; omega))
            have hne := neR3_14 g3 rfl
            have hk : (Value.slice (some ⟨g3, 0, none⟩) (n + 1) c3).ownBlock = none ∨ (Value.slice (some ⟨g3, 0, none⟩) (n + 1) c3).ownBlock ≠ some q14 := .inr (fun e => hne (by injection e))
            have K := Lib.hid ((((R3.out.kept (grown_store _ q14 0 (.int .u8 (op.toNat : Int))) hk).kept (grown_store _ q14 1 (.int .i64 mod)) hk).kept (grown_store _ q14 2 (.bool no)) hk).kept (grown_store _ q14 3 (.slice (some ⟨g3, 0, none⟩) (n + 1) c3)) hk)
            refine wpAnyH_done (by kernel_rfl) ?_ _
            go_wp2_with fail
            go_meet
            exact ⟨_, _, _, rfl, Y, Lib.hid (row_lies K.out (by rw [List.length_append, HNL.out]; rfl) (by omega)), HBn⟩
      · go_simp
        have HQ11 : u.heap.size ≤ u0.heap.size := HB.out.size
        have HBn := Lib.hid (HB.out.alloc HB.out.size (.cells #[.int .i64 m0, .int .i64 m1] 46))
        refine hK.out _ _ (SK _ HBn.out) (fun hHeld => ?_)
        clear hK K
        (try simp only [Act.put, List.setIfInBounds_toArray, List.set_cons_zero, List.set_cons_succ])
        have X := Lib.hid (Boxed.made u0 #[.int .i64 m0, .int .i64 m1] 46)
        replace HB := HBn
        clear HBn
        generalize hq11 : u0.heap.size = q11 at *
        generalize World.alloc u0 (.cells #[.int .i64 m0, .int .i64 m1] 46) = u1 at *
        clear hq11
        refine take_two 6 14 rfl rfl (by kernel_rfl) (by rfl) (by rfl) (fun K hK => ?_) (fun K hK => ?_)
        · go_simp
          have HQ6 : u.heap.size ≤ u1.heap.size := HB.out.size
          have HBn := Lib.hid (HB.out.alloc HB.out.size (.cells #[] 46))
          refine hK.out _ _ (SK _ HBn.out) (fun hHeld => ?_)
          clear hK K
          (try simp only [Act.put, List.setIfInBounds_toArray, List.set_cons_zero, List.set_cons_succ])
          have hl11 := X.out.lt
          replace X := Lib.hid (X.out.alloc (.cells #[] 46))
          have R := Lib.hid (World.ownsRow_made (e := 46) (size := 2) u1 #[] 0 (base := u.heap.size) HB.out.size (by decide) rfl)
          have ne11_6 : q11 ≠ u1.heap.size := by omega
          replace HB := HBn
          clear HBn
          generalize hq6 : u1.heap.size = q6 at *
          generalize World.alloc u1 (.cells #[] 46) = u2 at *
          clear hq6
          refine take_two 9 14 rfl rfl (by kernel_rfl) (by rfl) (by rfl) (fun K hK => ?_) (fun K hK => ?_)
          · refine wp_append_own_at _ _ _ 43 rfl u.heap.size 46 iR _ 2 16 Tryz.underlying43 hiR hR0 hR1 hR2 rfl (by decide) (.slice (some ⟨q6, 0, none⟩) 0 0) 0 [] (by simp [go_sem]) R.out ⟨b, off, none⟩ n c (fl rs) (by simp [go_sem]) (by rw [fl_len]; have := HNL.out; omega) (fl_cells (HRS.out _ HB.out)) fl_one (by unfold maxLen; omega) (by omega) HB.out.size ?_
            intro v2 un hown hg hat
            have HBn := Lib.hid (HB.out.grown hg HB.out.size (fun k hk => by have hq : u.heap.size ≤ q6 := (R.out.lt q6 rfl).1; have hk : some q6 = some k := hk; injection hk with hk; omega))
            refine hK.out _ _ (SK _ HBn.out) (fun hHeld => ?_)
            clear hK K
            (try simp only [Act.put, List.setIfInBounds_toArray, List.set_cons_zero, List.set_cons_succ])
            simp only [Nat.zero_add, List.nil_append] at hown
            have R2 := Lib.hid hown
            have hl11 := X.out.lt
            replace X := Lib.hid (boxed_grown X.out hg (fun e => by injection e with e; exact ne11_6 e))
            have neR2_11 : ∀ k, v2.ownBlock = some k → k ≠ q11 := fun k hk => by
              rcases hat with e | e <;> rw [e] at hk
              · have hk : some q6 = some k := hk
                injection hk with hk
                omega
              · injection hk with hk
                omega
            replace HB := HBn
            clear HBn hown hg hat R
            obtain ⟨g2, c2, rfl⟩ := row_some R2.out (by omega)
            skip
            generalize un = u3 at *
            refine take_two 12 14 rfl rfl (by kernel_rfl) (by rfl) (by rfl) (fun K hK => ?_) (fun K hK => ?_)
            · refine wp_append_own_at _ _ _ 43 rfl u.heap.size 46 iR _ 2 16 Tryz.underlying43 hiR hR0 hR1 hR2 rfl (by decide) (.slice (some ⟨g2, 0, none⟩) n c2) n (fl rs) (by simp [go_sem]) R2.out ⟨q11, 0, none⟩ 1 1 [.int .i64 m0, .int .i64 m1] (by simp [go_sem]) rfl (boxed_add X.out) (fun x hx => by simp at hx; rcases hx with rfl | rfl <;> rfl) (by unfold maxLen; omega) (by omega) HB.out.size ?_
              intro v3 un hown hg hat
              have HBn := Lib.hid (HB.out.grown hg HB.out.size (fun k hk => (R2.out.lt k hk).1))
              refine hK.out _ _ (SK _ HBn.out) (fun hHeld => ?_)
              clear hK K
              (try simp only [Act.put, List.setIfInBounds_toArray, List.set_cons_zero, List.set_cons_succ])
              rw [show fl rs ++ [.int .i64 m0, .int .i64 m1] = fl (rs ++ [(m0, m1)]) from (fl_add rs (m0, m1)).symm] at hown
              have R3 := Lib.hid hown
              replace HB := HBn
              clear HBn hown hg hat R2 X
              obtain ⟨g3, c3, rfl⟩ := row_some R3.out (by omega)
              generalize un = u4 at *
              refine take_run (d := some 74) (v := ?v42) 13 rfl rfl (by kernel_rfl) (by kernel_rfl) (by kernel_rfl) (fun _ _ _ h => h) (by rfl) hHeld ?hy42 ?rs42
              case hy42 => (intro w hSw; (try dsimp only at hSw); go_simp) <;> (try with_reducible rfl)
              (try simp only [Act.put, List.setIfInBounds_toArray, List.set_cons_zero, List.set_cons_succ])
              refine take_call 14 rfl (by kernel_rfl) (by rfl) (fun K hK => ?_)
              go_simp
              have HQ14 : u.heap.size ≤ u4.heap.size := HB.out.size
              have HBn := Lib.hid (HB.out.alloc HB.out.size (.cells #[.int .u8 0, .int .i64 0, .bool false, .slice none 0 0] 45))
              refine hK.out _ _ (SK _ HBn.out) (fun hHeld => ?_)
              clear hK K
              (try simp only [Act.put, List.setIfInBounds_toArray, List.set_cons_zero, List.set_cons_succ])
              have hr3 := fun k hk => (R3.out.lt k hk).2
              replace R3 := Lib.hid (R3.out.alloc (.cells #[.int .u8 0, .int .i64 0, .bool false, .slice none 0 0] 45))
              have Y := Lib.hid (Boxed.made u4 #[.int .u8 0, .int .i64 0, .bool false, .slice none 0 0] 45)
              have neR3_14 : ∀ k, (Value.slice (some ⟨g3, 0, none⟩) (n + 1) c3).ownBlock = some k → k ≠ u4.heap.size := fun k hk => by have := hr3 k hk; omega
              replace HB := HBn
              clear HBn
              generalize hq14 : u4.heap.size = q14 at *
              generalize World.alloc u4 (.cells #[.int .u8 0, .int .i64 0, .bool false, .slice none 0 0] 45) = u6 at *
              clear hq14
              refine take_call 15 rfl (by kernel_rfl) (by rfl) (fun K hK => ?_)
              have y0 := Y.out.cell 0 _ rfl
              have y1 := Y.out.cell 1 _ rfl
              have y2 := Y.out.cell 2 _ rfl
              have y3 := Y.out.cell 3 _ rfl
              have f0 := Y.out.free 0 (by show 0 < 4; omega)
              have f1 := Y.out.free 1 (by show 1 < 4; omega)
              have f2 := Y.out.free 2 (by show 2 < 4; omega)
              have f3 := Y.out.free 3 (by show 3 < 4; omega)
              have yl := Y.out.lt
              have hq := HQ14
              go_simp
              clear y0 y1 y2 y3 f0 f1 f2 f3
              have HBn := Lib.hid ((((HB.out.setCell (p := ⟨q14, 0, none⟩) hq (.int .u8 (op.toNat : Int))).setCell (p := ⟨q14, 1, none⟩) hq (.int .i64 mod)).setCell (p := ⟨q14, 2, none⟩) hq (.bool no)).setCell (p := ⟨q14, 3, none⟩) hq (.slice (some ⟨g3, 0, none⟩) (n + 1) c3))
              refine hK.out _ _ (SK _ HBn.out) (fun hHeld => ?_)
              clear hK K
              (try simp only [Act.put, List.setIfInBounds_toArray, List.set_cons_zero, List.set_cons_succ])
              replace Y := Lib.hid ((((Y.out.set 0 (.int .u8 (op.toNat : Int)) (by show 0 < 4; omega)).set 1 (.int .i64 mod) (by show 1 < 4; omega)).set 2 (.bool no) (by show 2 < 4; omega)).set 3 (.slice (some ⟨g3, 0, none⟩) (n + 1) c3) (by show 3 < 4; omega))
              have hne := neR3_14 g3 rfl
              have hk : (Value.slice (some ⟨g3, 0, none⟩) (n + 1) c3).ownBlock = none ∨ (Value.slice (some ⟨g3, 0, none⟩) (n + 1) c3).ownBlock ≠ some q14 := .inr (fun e => hne (by injection e))
              have K := Lib.hid ((((R3.out.kept (grown_store _ q14 0 (.int .u8 (op.toNat : Int))) hk).kept (grown_store _ q14 1 (.int .i64 mod)) hk).kept (grown_store _ q14 2 (.bool no)) hk).kept (grown_store _ q14 3 (.slice (some ⟨g3, 0, none⟩) (n + 1) c3)) hk)
              refine wpAnyH_done (by kernel_rfl) ?_ _
              go_wp2_with fail
              go_meet
              exact ⟨_, _, _, rfl, Y, Lib.hid (row_lies K.out (by rw [List.length_append, HNL.out]; rfl) (by omega)), HBn⟩
            · go_simp
              have HQ14 : u.heap.size ≤ u3.heap.size := HB.out.size
              have HBn := Lib.hid (HB.out.alloc HB.out.size (.cells #[.int .u8 0, .int .i64 0, .bool false, .slice none 0 0] 45))
              refine hK.out _ _ (SK _ HBn.out) (fun hHeld => ?_)
              clear hK K
              (try simp only [Act.put, List.setIfInBounds_toArray, List.set_cons_zero, List.set_cons_succ])
              have hl11 := X.out.lt
              have hr2 := fun k hk => (R2.out.lt k hk).2
              replace R2 := Lib.hid (R2.out.alloc (.cells #[.int .u8 0, .int .i64 0, .bool false, .slice none 0 0] 45))
              replace X := Lib.hid (X.out.alloc (.cells #[.int .u8 0, .int .i64 0, .bool false, .slice none 0 0] 45))
              have Y := Lib.hid (Boxed.made u3 #[.int .u8 0, .int .i64 0, .bool false, .slice none 0 0] 45)
              have neR2_14 : ∀ k, (Value.slice (some ⟨g2, 0, none⟩) n c2).ownBlock = some k → k ≠ u3.heap.size := fun k hk => by have := hr2 k hk; omega
              replace HB := HBn
              clear HBn
              generalize hq14 : u3.heap.size = q14 at *
              generalize World.alloc u3 (.cells #[.int .u8 0, .int .i64 0, .bool false, .slice none 0 0] 45) = u4 at *
              clear hq14
              refine take_call 12 rfl (by kernel_rfl) (by rfl) (fun K hK => ?_)
              refine wp_append_own_at _ _ _ 43 rfl u.heap.size 46 iR _ 2 16 Tryz.underlying43 hiR hR0 hR1 hR2 rfl (by decide) (.slice (some ⟨g2, 0, none⟩) n c2) n (fl rs) (by simp [go_sem]) R2.out ⟨q11, 0, none⟩ 1 1 [.int .i64 m0, .int .i64 m1] (by simp [go_sem]) rfl (boxed_add X.out) (fun x hx => by simp at hx; rcases hx with rfl | rfl <;> rfl) (by unfold maxLen; omega) (by omega) HB.out.size ?_
              intro v3 un hown hg hat
              have HBn := Lib.hid (HB.out.grown hg HB.out.size (fun k hk => (R2.out.lt k hk).1))
              refine hK.out _ _ (SK _ HBn.out) (fun hHeld => ?_)
              clear hK K
              (try simp only [Act.put, List.setIfInBounds_toArray, List.set_cons_zero, List.set_cons_succ])
              rw [show fl rs ++ [.int .i64 m0, .int .i64 m1] = fl (rs ++ [(m0, m1)]) from (fl_add rs (m0, m1)).symm] at hown
              have R3 := Lib.hid hown
              have hl14 := Y.out.lt
              replace Y := Lib.hid (boxed_grown Y.out hg (fun e => by injection e with e; exact neR2_14 g2 rfl e.symm))
              have neR3_14 : ∀ k, v3.ownBlock = some k → k ≠ q14 := fun k hk => by
                rcases hat with e | e <;> rw [e] at hk
                · exact neR2_14 k hk
                · injection hk with hk
                  omega
              replace HB := HBn
              clear HBn hown hg hat R2 X
              obtain ⟨g3, c3, rfl⟩ := row_some R3.out (by omega)
              generalize un = u5 at *
              refine take_run (d := some 74) (v := ?v43) 13 rfl rfl (by kernel_rfl) (by kernel_rfl) (by kernel_rfl) (fun _ _ _ h => h) (by rfl) hHeld ?hy43 ?rs43
              case hy43 => (intro w hSw; (try dsimp only at hSw); go_simp) <;> (try with_reducible rfl)
              (try simp only [Act.put, List.setIfInBounds_toArray, List.set_cons_zero, List.set_cons_succ])
              refine take_call 15 rfl (by kernel_rfl) (by rfl) (fun K hK => ?_)
              have y0 := Y.out.cell 0 _ rfl
              have y1 := Y.out.cell 1 _ rfl
              have y2 := Y.out.cell 2 _ rfl
              have y3 := Y.out.cell 3 _ rfl
              have f0 := Y.out.free 0 (by show 0 < 4; omega)
              have f1 := Y.out.free 1 (by show 1 < 4; omega)
              have f2 := Y.out.free 2 (by show 2 < 4; omega)
              have f3 := Y.out.free 3 (by show 3 < 4; omega)
              have yl := Y.out.lt
              have hq := HQ14
              go_simp
              clear y0 y1 y2 y3 f0 f1 f2 f3
              have HBn := Lib.hid ((((HB.out.setCell (p := ⟨q14, 0, none⟩) hq (.int .u8 (op.toNat : Int))).setCell (p := ⟨q14, 1, none⟩) hq (.int .i64 mod)).setCell (p := ⟨q14, 2, none⟩) hq (.bool no)).setCell (p := ⟨q14, 3, none⟩) hq (.slice (some ⟨g3, 0, none⟩) (n + 1) c3))
              refine hK.out _ _ (SK _ HBn.out) (fun hHeld => ?_)
              clear hK K
              (try simp only [Act.put, List.setIfInBounds_toArray, List.set_cons_zero, List.set_cons_succ])
              replace Y := Lib.hid ((((Y.out.set 0 (.int .u8 (op.toNat : Int)) (by show 0 < 4; omega)).set 1 (.int .i64 mod) (by show 1 < 4; omega)).set 2 (.bool no) (by show 2 < 4; omega)).set 3 (.slice (some ⟨g3, 0, none⟩) (n + 1) c3) (by show 3 < 4; omega))
              have hne := neR3_14 g3 rfl
              have hk : (Value.slice (some ⟨g3, 0, none⟩) (n + 1) c3).ownBlock = none ∨ (Value.slice (some ⟨g3, 0, none⟩) (n + 1) c3).ownBlock ≠ some q14 := .inr (fun e => hne (by injection e))
              have K := Lib.hid ((((R3.out.kept (grown_store _ q14 0 (.int .u8 (op.toNat : Int))) hk).kept (grown_store _ q14 1 (.int .i64 mod)) hk).kept (grown_store _ q14 2 (.bool no)) hk).kept (grown_store _ q14 3 (.slice (some ⟨g3, 0, none⟩) (n + 1) c3)) hk)
              refine wpAnyH_done (by kernel_rfl) ?_ _
              go_wp2_with fail
              go_meet
              exact ⟨_, _, _, rfl, Y, Lib.hid (row_lies K.out (by rw [List.length_append, HNL.out]; rfl) (by omega)), HBn⟩
          · go_simp
            have HQ14 : u.heap.size ≤ u2.heap.size := HB.out.size
            have HBn := Lib.hid (HB.out.alloc HB.out.size (.cells #[.int .u8 0, .int .i64 0, .bool false, .slice none 0 0] 45))
            refine hK.out _ _ (SK _ HBn.out) (fun hHeld => ?_)
            clear hK K
            (try simp only [Act.put, List.setIfInBounds_toArray, List.set_cons_zero, List.set_cons_succ])
            have hR : q6 < u2.heap.size := (R.out.lt q6 rfl).2
            have hl11 := X.out.lt
            replace R := Lib.hid (R.out.alloc (.cells #[.int .u8 0, .int .i64 0, .bool false, .slice none 0 0] 45))
            replace X := Lib.hid (X.out.alloc (.cells #[.int .u8 0, .int .i64 0, .bool false, .slice none 0 0] 45))
            have Y := Lib.hid (Boxed.made u2 #[.int .u8 0, .int .i64 0, .bool false, .slice none 0 0] 45)
            have ne14_6 : u2.heap.size ≠ q6 := by have := hR; omega
            replace HB := HBn
            clear HBn
            generalize hq14 : u2.heap.size = q14 at *
            generalize World.alloc u2 (.cells #[.int .u8 0, .int .i64 0, .bool false, .slice none 0 0] 45) = u3 at *
            clear hq14
            refine take_call 9 rfl (by kernel_rfl) (by rfl) (fun K hK => ?_)
            refine wp_append_own_at _ _ _ 43 rfl u.heap.size 46 iR _ 2 16 Tryz.underlying43 hiR hR0 hR1 hR2 rfl (by decide) (.slice (some ⟨q6, 0, none⟩) 0 0) 0 [] (by simp [go_sem]) R.out ⟨b, off, none⟩ n c (fl rs) (by simp [go_sem]) (by rw [fl_len]; have := HNL.out; omega) (fl_cells (HRS.out _ HB.out)) fl_one (by unfold maxLen; omega) (by omega) HB.out.size ?_
            intro v2 un hown hg hat
            have HBn := Lib.hid (HB.out.grown hg HB.out.size (fun k hk => by have hq : u.heap.size ≤ q6 := (R.out.lt q6 rfl).1; have hk : some q6 = some k := hk; injection hk with hk; omega))
            refine hK.out _ _ (SK _ HBn.out) (fun hHeld => ?_)
            clear hK K
            (try simp only [Act.put, List.setIfInBounds_toArray, List.set_cons_zero, List.set_cons_succ])
            simp only [Nat.zero_add, List.nil_append] at hown
            have R2 := Lib.hid hown
            have hl11 := X.out.lt
            replace X := Lib.hid (boxed_grown X.out hg (fun e => by injection e with e; exact ne11_6 e))
            have neR2_11 : ∀ k, v2.ownBlock = some k → k ≠ q11 := fun k hk => by
              rcases hat with e | e <;> rw [e] at hk
              · have hk : some q6 = some k := hk
                injection hk with hk
                omega
              · injection hk with hk
                omega
            have hl14 := Y.out.lt
            replace Y := Lib.hid (boxed_grown Y.out hg (fun e => by injection e with e; exact ne14_6 e))
            have neR2_14 : ∀ k, v2.ownBlock = some k → k ≠ q14 := fun k hk => by
              rcases hat with e | e <;> rw [e] at hk
              · have hk : some q6 = some k := hk
                injection hk with hk
                omega
              · injection hk with hk
                omega
            replace HB := HBn
            clear HBn hown hg hat R
            obtain ⟨g2, c2, rfl⟩ := row_some R2.out (by omega)
            skip
            generalize un = u4 at *
            refine take_call 12 rfl (by kernel_rfl) (by rfl) (fun K hK => ?_)
            refine wp_append_own_at _ _ _ 43 rfl u.heap.size 46 iR _ 2 16 Tryz.underlying43 hiR hR0 hR1 hR2 rfl (by decide) (.slice (some ⟨g2, 0, none⟩) n c2) n (fl rs) (by simp [go_sem]) R2.out ⟨q11, 0, none⟩ 1 1 [.int .i64 m0, .int .i64 m1] (by simp [go_sem]) rfl (boxed_add X.out) (fun x hx => by simp at hx; rcases hx with rfl | rfl <;> rfl) (by unfold maxLen; omega) (by omega) HB.out.size ?_
            intro v3 un hown hg hat
            have HBn := Lib.hid (HB.out.grown hg HB.out.size (fun k hk => (R2.out.lt k hk).1))
            refine hK.out _ _ (SK _ HBn.out) (fun hHeld => ?_)
            clear hK K
            (try simp only [Act.put, List.setIfInBounds_toArray, List.set_cons_zero, List.set_cons_succ])
            rw [show fl rs ++ [.int .i64 m0, .int .i64 m1] = fl (rs ++ [(m0, m1)]) from (fl_add rs (m0, m1)).symm] at hown
            have R3 := Lib.hid hown
            have hl14 := Y.out.lt
            replace Y := Lib.hid (boxed_grown Y.out hg (fun e => by injection e with e; exact neR2_14 g2 rfl e.symm))
            have neR3_14 : ∀ k, v3.ownBlock = some k → k ≠ q14 := fun k hk => by
              rcases hat with e | e <;> rw [e] at hk
              · exact neR2_14 k hk
              · injection hk with hk
                omega
            replace HB := HBn
            clear HBn hown hg hat R2 X
            obtain ⟨g3, c3, rfl⟩ := row_some R3.out (by omega)
            generalize un = u5 at *
            refine take_run (d := some 74) (v := ?v44) 13 rfl rfl (by kernel_rfl) (by kernel_rfl) (by kernel_rfl) (fun _ _ _ h => h) (by rfl) hHeld ?hy44 ?rs44
            case hy44 => (intro w hSw; (try dsimp only at hSw); go_simp) <;> (try with_reducible rfl)
            (try simp only [Act.put, List.setIfInBounds_toArray, List.set_cons_zero, List.set_cons_succ])
            refine take_call 15 rfl (by kernel_rfl) (by rfl) (fun K hK => ?_)
            have y0 := Y.out.cell 0 _ rfl
            have y1 := Y.out.cell 1 _ rfl
            have y2 := Y.out.cell 2 _ rfl
            have y3 := Y.out.cell 3 _ rfl
            have f0 := Y.out.free 0 (by show 0 < 4; omega)
            have f1 := Y.out.free 1 (by show 1 < 4; omega)
            have f2 := Y.out.free 2 (by show 2 < 4; omega)
            have f3 := Y.out.free 3 (by show 3 < 4; omega)
            have yl := Y.out.lt
            have hq := HQ14
            go_simp
            clear y0 y1 y2 y3 f0 f1 f2 f3
            have HBn := Lib.hid ((((HB.out.setCell (p := ⟨q14, 0, none⟩) hq (.int .u8 (op.toNat : Int))).setCell (p := ⟨q14, 1, none⟩) hq (.int .i64 mod)).setCell (p := ⟨q14, 2, none⟩) hq (.bool no)).setCell (p := ⟨q14, 3, none⟩) hq (.slice (some ⟨g3, 0, none⟩) (n + 1) c3))
            refine hK.out _ _ (SK _ HBn.out) (fun hHeld => ?_)
            clear hK K
            (try simp only [Act.put, List.setIfInBounds_toArray, List.set_cons_zero, List.set_cons_succ])
            replace Y := Lib.hid ((((Y.out.set 0 (.int .u8 (op.toNat : Int)) (by show 0 < 4; omega)).set 1 (.int .i64 mod) (by show 1 < 4; omega)).set 2 (.bool no) (by show 2 < 4; omega)).set 3 (.slice (some ⟨g3, 0, none⟩) (n + 1) c3) (by show 3 < 4; omega))
            have hne := neR3_14 g3 rfl
            have hk : (Value.slice (some ⟨g3, 0, none⟩) (n + 1) c3).ownBlock = none ∨ (Value.slice (some ⟨g3, 0, none⟩) (n + 1) c3).ownBlock ≠ some q14 := .inr (fun e => hne (by injection e))
            have K := Lib.hid ((((R3.out.kept (grown_store _ q14 0 (.int .u8 (op.toNat : Int))) hk).kept (grown_store _ q14 1 (.int .i64 mod)) hk).kept (grown_store _ q14 2 (.bool no)) hk).kept (grown_store _ q14 3 (.slice (some ⟨g3, 0, none⟩) (n + 1) c3)) hk)
            refine wpAnyH_done (by kernel_rfl) ?_ _
            go_wp2_with fail
            go_meet
            exact ⟨_, _, _, rfl, Y, Lib.hid (row_lies K.out (by rw [List.length_append, HNL.out]; rfl) (by omega)), HBn⟩
        · go_simp
          have HQ14 : u.heap.size ≤ u1.heap.size := HB.out.size
          have HBn := Lib.hid (HB.out.alloc HB.out.size (.cells #[.int .u8 0, .int .i64 0, .bool false, .slice none 0 0] 45))
          refine hK.out _ _ (SK _ HBn.out) (fun hHeld => ?_)
          clear hK K
          (try simp only [Act.put, List.setIfInBounds_toArray, List.set_cons_zero, List.set_cons_succ])
          have hl11 := X.out.lt
          replace X := Lib.hid (X.out.alloc (.cells #[.int .u8 0, .int .i64 0, .bool false, .slice none 0 0] 45))
          have Y := Lib.hid (Boxed.made u1 #[.int .u8 0, .int .i64 0, .bool false, .slice none 0 0] 45)
          replace HB := HBn
          clear HBn
          generalize hq14 : u1.heap.size = q14 at *
          generalize World.alloc u1 (.cells #[.int .u8 0, .int .i64 0, .bool false, .slice none 0 0] 45) = u2 at *
          clear hq14
          refine take_call 6 rfl (by kernel_rfl) (by rfl) (fun K hK => ?_)
          go_simp
          have HQ6 : u.heap.size ≤ u2.heap.size := HB.out.size
          have HBn := Lib.hid (HB.out.alloc HB.out.size (.cells #[] 46))
          refine hK.out _ _ (SK _ HBn.out) (fun hHeld => ?_)
          clear hK K
          (try simp only [Act.put, List.setIfInBounds_toArray, List.set_cons_zero, List.set_cons_succ])
          have hl11 := X.out.lt
          have hl14 := Y.out.lt
          replace X := Lib.hid (X.out.alloc (.cells #[] 46))
          replace Y := Lib.hid (Y.out.alloc (.cells #[] 46))
          have R := Lib.hid (World.ownsRow_made (e := 46) (size := 2) u2 #[] 0 (base := u.heap.size) HB.out.size (by decide) rfl)
          have ne11_6 : q11 ≠ u2.heap.size := by omega
          have ne14_6 : q14 ≠ u2.heap.size := by omega
          replace HB := HBn
          clear HBn
          generalize hq6 : u2.heap.size = q6 at *
          generalize World.alloc u2 (.cells #[] 46) = u3 at *
          clear hq6
          refine take_call 9 rfl (by kernel_rfl) (by rfl) (fun K hK => ?_)
          refine wp_append_own_at _ _ _ 43 rfl u.heap.size 46 iR _ 2 16 Tryz.underlying43 hiR hR0 hR1 hR2 rfl (by decide) (.slice (some ⟨q6, 0, none⟩) 0 0) 0 [] (by simp [go_sem]) R.out ⟨b, off, none⟩ n c (fl rs) (by simp [go_sem]) (by rw [fl_len]; have := HNL.out; omega) (fl_cells (HRS.out _ HB.out)) fl_one (by unfold maxLen; omega) (by omega) HB.out.size ?_
          intro v2 un hown hg hat
          have HBn := Lib.hid (HB.out.grown hg HB.out.size (fun k hk => by have hq : u.heap.size ≤ q6 := (R.out.lt q6 rfl).1; have hk : some q6 = some k := hk; injection hk with hk; omega))
          refine hK.out _ _ (SK _ HBn.out) (fun hHeld => ?_)
          clear hK K
          (try simp only [Act.put, List.setIfInBounds_toArray, List.set_cons_zero, List.set_cons_succ])
          simp only [Nat.zero_add, List.nil_append] at hown
          have R2 := Lib.hid hown
          have hl11 := X.out.lt
          replace X := Lib.hid (boxed_grown X.out hg (fun e => by injection e with e; exact ne11_6 e))
          have neR2_11 : ∀ k, v2.ownBlock = some k → k ≠ q11 := fun k hk => by
            rcases hat with e | e <;> rw [e] at hk
            · have hk : some q6 = some k := hk
              injection hk with hk
              omega
            · injection hk with hk
              omega
          have hl14 := Y.out.lt
          replace Y := Lib.hid (boxed_grown Y.out hg (fun e => by injection e with e; exact ne14_6 e))
          have neR2_14 : ∀ k, v2.ownBlock = some k → k ≠ q14 := fun k hk => by
            rcases hat with e | e <;> rw [e] at hk
            · have hk : some q6 = some k := hk
              injection hk with hk
              omega
            · injection hk with hk
              omega
          replace HB := HBn
          clear HBn hown hg hat R
          obtain ⟨g2, c2, rfl⟩ := row_some R2.out (by omega)
          skip
          generalize un = u4 at *
          refine take_call 12 rfl (by kernel_rfl) (by rfl) (fun K hK => ?_)
          refine wp_append_own_at _ _ _ 43 rfl u.heap.size 46 iR _ 2 16 Tryz.underlying43 hiR hR0 hR1 hR2 rfl (by decide) (.slice (some ⟨g2, 0, none⟩) n c2) n (fl rs) (by simp [go_sem]) R2.out ⟨q11, 0, none⟩ 1 1 [.int .i64 m0, .int .i64 m1] (by simp [go_sem]) rfl (boxed_add X.out) (fun x hx => by simp at hx; rcases hx with rfl | rfl <;> rfl) (by unfold maxLen; omega) (by omega) HB.out.size ?_
          intro v3 un hown hg hat
          have HBn := Lib.hid (HB.out.grown hg HB.out.size (fun k hk => (R2.out.lt k hk).1))
          refine hK.out _ _ (SK _ HBn.out) (fun hHeld => ?_)
          clear hK K
          (try simp only [Act.put, List.setIfInBounds_toArray, List.set_cons_zero, List.set_cons_succ])
          rw [show fl rs ++ [.int .i64 m0, .int .i64 m1] = fl (rs ++ [(m0, m1)]) from (fl_add rs (m0, m1)).symm] at hown
          have R3 := Lib.hid hown
          have hl14 := Y.out.lt
          replace Y := Lib.hid (boxed_grown Y.out hg (fun e => by injection e with e; exact neR2_14 g2 rfl e.symm))
          have neR3_14 : ∀ k, v3.ownBlock = some k → k ≠ q14 := fun k hk => by
            rcases hat with e | e <;> rw [e] at hk
            · exact neR2_14 k hk
            · injection hk with hk
              omega
          replace HB := HBn
          clear HBn hown hg hat R2 X
          obtain ⟨g3, c3, rfl⟩ := row_some R3.out (by omega)
          generalize un = u5 at *
          refine take_run (d := some 74) (v := ?v45) 13 rfl rfl (by kernel_rfl) (by kernel_rfl) (by kernel_rfl) (fun _ _ _ h => h) (by rfl) hHeld ?hy45 ?rs45
          case hy45 => (intro w hSw; (try dsimp only at hSw); go_simp) <;> (try with_reducible rfl)
          (try simp only [Act.put, List.setIfInBounds_toArray, List.set_cons_zero, List.set_cons_succ])
          refine take_call 15 rfl (by kernel_rfl) (by rfl) (fun K hK => ?_)
          have y0 := Y.out.cell 0 _ rfl
          have y1 := Y.out.cell 1 _ rfl
          have y2 := Y.out.cell 2 _ rfl
          have y3 := Y.out.cell 3 _ rfl
          have f0 := Y.out.free 0 (by show 0 < 4; omega)
          have f1 := Y.out.free 1 (by show 1 < 4; omega)
          have f2 := Y.out.free 2 (by show 2 < 4; omega)
          have f3 := Y.out.free 3 (by show 3 < 4; omega)
          have yl := Y.out.lt
          have hq := HQ14
          go_simp
          clear y0 y1 y2 y3 f0 f1 f2 f3
          have HBn := Lib.hid ((((HB.out.setCell (p := ⟨q14, 0, none⟩) hq (.int .u8 (op.toNat : Int))).setCell (p := ⟨q14, 1, none⟩) hq (.int .i64 mod)).setCell (p := ⟨q14, 2, none⟩) hq (.bool no)).setCell (p := ⟨q14, 3, none⟩) hq (.slice (some ⟨g3, 0, none⟩) (n + 1) c3))
          refine hK.out _ _ (SK _ HBn.out) (fun hHeld => ?_)
          clear hK K
          (try simp only [Act.put, List.setIfInBounds_toArray, List.set_cons_zero, List.set_cons_succ])
          replace Y := Lib.hid ((((Y.out.set 0 (.int .u8 (op.toNat : Int)) (by show 0 < 4; omega)).set 1 (.int .i64 mod) (by show 1 < 4; omega)).set 2 (.bool no) (by show 2 < 4; omega)).set 3 (.slice (some ⟨g3, 0, none⟩) (n + 1) c3) (by show 3 < 4; omega))
          have hne := neR3_14 g3 rfl
          have hk : (Value.slice (some ⟨g3, 0, none⟩) (n + 1) c3).ownBlock = none ∨ (Value.slice (some ⟨g3, 0, none⟩) (n + 1) c3).ownBlock ≠ some q14 := .inr (fun e => hne (by injection e))
          have K := Lib.hid ((((R3.out.kept (grown_store _ q14 0 (.int .u8 (op.toNat : Int))) hk).kept (grown_store _ q14 1 (.int .i64 mod)) hk).kept (grown_store _ q14 2 (.bool no)) hk).kept (grown_store _ q14 3 (.slice (some ⟨g3, 0, none⟩) (n + 1) c3)) hk)
          refine wpAnyH_done (by kernel_rfl) ?_ _
          go_wp2_with fail
          go_meet
          exact ⟨_, _, _, rfl, Y, Lib.hid (row_lies K.out (by rw [List.length_append, HNL.out]; rfl) (by omega)), HBn⟩
      · go_simp
        have HQ14 : u.heap.size ≤ u0.heap.size := HB.out.size
        have HBn := Lib.hid (HB.out.alloc HB.out.size (.cells #[.int .u8 0, .int .i64 0, .bool false, .slice none 0 0] 45))
        refine hK.out _ _ (SK _ HBn.out) (fun hHeld => ?_)
        clear hK K
        (try simp only [Act.put, List.setIfInBounds_toArray, List.set_cons_zero, List.set_cons_succ])
        have Y := Lib.hid (Boxed.made u0 #[.int .u8 0, .int .i64 0, .bool false, .slice none 0 0] 45)
        replace HB := HBn
        clear HBn
        generalize hq14 : u0.heap.size = q14 at *
        generalize World.alloc u0 (.cells #[.int .u8 0, .int .i64 0, .bool false, .slice none 0 0] 45) = u1 at *
        clear hq14
        refine take_two 6 11 rfl rfl (by kernel_rfl) (by rfl) (by rfl) (fun K hK => ?_) (fun K hK => ?_)
        · go_simp
          have HQ6 : u.heap.size ≤ u1.heap.size := HB.out.size
          have HBn := Lib.hid (HB.out.alloc HB.out.size (.cells #[] 46))
          refine hK.out _ _ (SK _ HBn.out) (fun hHeld => ?_)
          clear hK K
          (try simp only [Act.put, List.setIfInBounds_toArray, List.set_cons_zero, List.set_cons_succ])
          have hl14 := Y.out.lt
          replace Y := Lib.hid (Y.out.alloc (.cells #[] 46))
          have R := Lib.hid (World.ownsRow_made (e := 46) (size := 2) u1 #[] 0 (base := u.heap.size) HB.out.size (by decide) rfl)
          have ne14_6 : q14 ≠ u1.heap.size := by omega
          replace HB := HBn
          clear HBn
          generalize hq6 : u1.heap.size = q6 at *
          generalize World.alloc u1 (.cells #[] 46) = u2 at *
          clear hq6
          refine take_two 9 11 rfl rfl (by kernel_rfl) (by rfl) (by rfl) (fun K hK => ?_) (fun K hK => ?_)
          · refine wp_append_own_at _ _ _ 43 rfl u.heap.size 46 iR _ 2 16 Tryz.underlying43 hiR hR0 hR1 hR2 rfl (by decide) (.slice (some ⟨q6, 0, none⟩) 0 0) 0 [] (by simp [go_sem]) R.out ⟨b, off, none⟩ n c (fl rs) (by simp [go_sem]) (by rw [fl_len]; have := HNL.out; omega) (fl_cells (HRS.out _ HB.out)) fl_one (by unfold maxLen; omega) (by omega) HB.out.size ?_
            intro v2 un hown hg hat
            have HBn := Lib.hid (HB.out.grown hg HB.out.size (fun k hk => by have hq : u.heap.size ≤ q6 := (R.out.lt q6 rfl).1; have hk : some q6 = some k := hk; injection hk with hk; omega))
            refine hK.out _ _ (SK _ HBn.out) (fun hHeld => ?_)
            clear hK K
            (try simp only [Act.put, List.setIfInBounds_toArray, List.set_cons_zero, List.set_cons_succ])
            simp only [Nat.zero_add, List.nil_append] at hown
            have R2 := Lib.hid hown
            have hl14 := Y.out.lt
            replace Y := Lib.hid (boxed_grown Y.out hg (fun e => by injection e with e; exact ne14_6 e))
            have neR2_14 : ∀ k, v2.ownBlock = some k → k ≠ q14 := fun k hk => by
              rcases hat with e | e <;> rw [e] at hk
              · have hk : some q6 = some k := hk
                injection hk with hk
                omega
              · injection hk with hk
                omega
            replace HB := HBn
            clear HBn hown hg hat R
            obtain ⟨g2, c2, rfl⟩ := row_some R2.out (by omega)
            skip
            generalize un = u3 at *
            refine take_call 11 rfl (by kernel_rfl) (by rfl) (fun K hK => ?_)
            go_simp
            have HQ11 : u.heap.size ≤ u3.heap.size := HB.out.size
            have HBn := Lib.hid (HB.out.alloc HB.out.size (.cells #[.int .i64 m0, .int .i64 m1] 46))
            refine hK.out _ _ (SK _ HBn.out) (fun hHeld => ?_)
            clear hK K
            (try simp only [Act.put, List.setIfInBounds_toArray, List.set_cons_zero, List.set_cons_succ])
            have hl14 := Y.out.lt
            have hr2 := fun k hk => (R2.out.lt k hk).2
            replace R2 := Lib.hid (R2.out.alloc (.cells #[.int .i64 m0, .int .i64 m1] 46))
            replace Y := Lib.hid (Y.out.alloc (.cells #[.int .i64 m0, .int .i64 m1] 46))
            have X := Lib.hid (Boxed.made u3 #[.int .i64 m0, .int .i64 m1] 46)
            have neR2_11 : ∀ k, (Value.slice (some ⟨g2, 0, none⟩) n c2).ownBlock = some k → k ≠ u3.heap.size := fun k hk => by have := hr2 k hk; omega
            replace HB := HBn
            clear HBn
            generalize hq11 : u3.heap.size = q11 at *
            generalize World.alloc u3 (.cells #[.int .i64 m0, .int .i64 m1] 46) = u4 at *
            clear hq11
            refine take_call 12 rfl (by kernel_rfl) (by rfl) (fun K hK => ?_)
            refine wp_append_own_at _ _ _ 43 rfl u.heap.size 46 iR _ 2 16 Tryz.underlying43 hiR hR0 hR1 hR2 rfl (by decide) (.slice (some ⟨g2, 0, none⟩) n c2) n (fl rs) (by simp [go_sem]) R2.out ⟨q11, 0, none⟩ 1 1 [.int .i64 m0, .int .i64 m1] (by simp [go_sem]) rfl (boxed_add X.out) (fun x hx => by simp at hx; rcases hx with rfl | rfl <;> rfl) (by unfold maxLen; omega) (by omega) HB.out.size ?_
            intro v3 un hown hg hat
            have HBn := Lib.hid (HB.out.grown hg HB.out.size (fun k hk => (R2.out.lt k hk).1))
            refine hK.out _ _ (SK _ HBn.out) (fun hHeld => ?_)
            clear hK K
            (try simp only [Act.put, List.setIfInBounds_toArray, List.set_cons_zero, List.set_cons_succ])
            rw [show fl rs ++ [.int .i64 m0, .int .i64 m1] = fl (rs ++ [(m0, m1)]) from (fl_add rs (m0, m1)).symm] at hown
            have R3 := Lib.hid hown
            have hl14 := Y.out.lt
            replace Y := Lib.hid (boxed_grown Y.out hg (fun e => by injection e with e; exact neR2_14 g2 rfl e.symm))
            have neR3_14 : ∀ k, v3.ownBlock = some k → k ≠ q14 := fun k hk => by
              rcases hat with e | e <;> rw [e] at hk
              · exact neR2_14 k hk
              · injection hk with hk
                omega
            replace HB := HBn
            clear HBn hown hg hat R2 X
            obtain ⟨g3, c3, rfl⟩ := row_some R3.out (by omega)
            generalize un = u5 at *
            refine take_run (d := some 74) (v := ?v46) 13 rfl rfl (by kernel_rfl) (by kernel_rfl) (by kernel_rfl) (fun _ _ _ h => h) (by rfl) hHeld ?hy46 ?rs46
            case hy46 => (intro w hSw; (try dsimp only at hSw); go_simp) <;> (try with_reducible rfl)
            (try simp only [Act.put, List.setIfInBounds_toArray, List.set_cons_zero, List.set_cons_succ])
            refine take_call 15 rfl (by kernel_rfl) (by rfl) (fun K hK => ?_)
            have y0 := Y.out.cell 0 _ rfl
            have y1 := Y.out.cell 1 _ rfl
            have y2 := Y.out.cell 2 _ rfl
            have y3 := Y.out.cell 3 _ rfl
            have f0 := Y.out.free 0 (by show 0 < 4; omega)
            have f1 := Y.out.free 1 (by show 1 < 4; omega)
            have f2 := Y.out.free 2 (by show 2 < 4; omega)
            have f3 := Y.out.free 3 (by show 3 < 4; omega)
            have yl := Y.out.lt
            have hq := HQ14
            go_simp
            clear y0 y1 y2 y3 f0 f1 f2 f3
            have HBn := Lib.hid ((((HB.out.setCell (p := ⟨q14, 0, none⟩) hq (.int .u8 (op.toNat : Int))).setCell (p := ⟨q14, 1, none⟩) hq (.int .i64 mod)).setCell (p := ⟨q14, 2, none⟩) hq (.bool no)).setCell (p := ⟨q14, 3, none⟩) hq (.slice (some ⟨g3, 0, none⟩) (n + 1) c3))
            refine hK.out _ _ (SK _ HBn.out) (fun hHeld => ?_)
            clear hK K
            (try simp only [Act.put, List.setIfInBounds_toArray, List.set_cons_zero, List.set_cons_succ])
            replace Y := Lib.hid ((((Y.out.set 0 (.int .u8 (op.toNat : Int)) (by show 0 < 4; omega)).set 1 (.int .i64 mod) (by show 1 < 4; omega)).set 2 (.bool no) (by show 2 < 4; omega)).set 3 (.slice (some ⟨g3, 0, none⟩) (n + 1) c3) (by show 3 < 4; omega))
            have hne := neR3_14 g3 rfl
            have hk : (Value.slice (some ⟨g3, 0, none⟩) (n + 1) c3).ownBlock = none ∨ (Value.slice (some ⟨g3, 0, none⟩) (n + 1) c3).ownBlock ≠ some q14 := .inr (fun e => hne (by injection e))
            have K := Lib.hid ((((R3.out.kept (grown_store _ q14 0 (.int .u8 (op.toNat : Int))) hk).kept (grown_store _ q14 1 (.int .i64 mod)) hk).kept (grown_store _ q14 2 (.bool no)) hk).kept (grown_store _ q14 3 (.slice (some ⟨g3, 0, none⟩) (n + 1) c3)) hk)
            refine wpAnyH_done (by kernel_rfl) ?_ _
            go_wp2_with fail
            go_meet
            exact ⟨_, _, _, rfl, Y, Lib.hid (row_lies K.out (by rw [List.length_append, HNL.out]; rfl) (by omega)), HBn⟩
          · go_simp
            have HQ11 : u.heap.size ≤ u2.heap.size := HB.out.size
            have HBn := Lib.hid (HB.out.alloc HB.out.size (.cells #[.int .i64 m0, .int .i64 m1] 46))
            refine hK.out _ _ (SK _ HBn.out) (fun hHeld => ?_)
            clear hK K
            (try simp only [Act.put, List.setIfInBounds_toArray, List.set_cons_zero, List.set_cons_succ])
            have hR : q6 < u2.heap.size := (R.out.lt q6 rfl).2
            have hl14 := Y.out.lt
            replace R := Lib.hid (R.out.alloc (.cells #[.int .i64 m0, .int .i64 m1] 46))
            replace Y := Lib.hid (Y.out.alloc (.cells #[.int .i64 m0, .int .i64 m1] 46))
            have X := Lib.hid (Boxed.made u2 #[.int .i64 m0, .int .i64 m1] 46)
            have ne11_6 : u2.heap.size ≠ q6 := by have := hR; omega
            replace HB := HBn
            clear HBn
            generalize hq11 : u2.heap.size = q11 at *
            generalize World.alloc u2 (.cells #[.int .i64 m0, .int .i64 m1] 46) = u3 at *
            clear hq11
            refine take_call 9 rfl (by kernel_rfl) (by rfl) (fun K hK => ?_)
            refine wp_append_own_at _ _ _ 43 rfl u.heap.size 46 iR _ 2 16 Tryz.underlying43 hiR hR0 hR1 hR2 rfl (by decide) (.slice (some ⟨q6, 0, none⟩) 0 0) 0 [] (by simp [go_sem]) R.out ⟨b, off, none⟩ n c (fl rs) (by simp [go_sem]) (by rw [fl_len]; have := HNL.out; omega) (fl_cells (HRS.out _ HB.out)) fl_one (by unfold maxLen; omega) (by omega) HB.out.size ?_
            intro v2 un hown hg hat
            have HBn := Lib.hid (HB.out.grown hg HB.out.size (fun k hk => by have hq : u.heap.size ≤ q6 := (R.out.lt q6 rfl).1; have hk : some q6 = some k := hk; injection hk with hk; omega))
            refine hK.out _ _ (SK _ HBn.out) (fun hHeld => ?_)
            clear hK K
            (try simp only [Act.put, List.setIfInBounds_toArray, List.set_cons_zero, List.set_cons_succ])
            simp only [Nat.zero_add, List.nil_append] at hown
            have R2 := Lib.hid hown
            have hl11 := X.out.lt
            replace X := Lib.hid (boxed_grown X.out hg (fun e => by injection e with e; exact ne11_6 e))
            have neR2_11 : ∀ k, v2.ownBlock = some k → k ≠ q11 := fun k hk => by
              rcases hat with e | e <;> rw [e] at hk
              · have hk : some q6 = some k := hk
                injection hk with hk
                omega
              · injection hk with hk
                omega
            have hl14 := Y.out.lt
            replace Y := Lib.hid (boxed_grown Y.out hg (fun e => by injection e with e; exact ne14_6 e))
            have neR2_14 : ∀ k, v2.ownBlock = some k → k ≠ q14 := fun k hk => by
              rcases hat with e | e <;> rw [e] at hk
              · have hk : some q6 = some k := hk
                injection hk with hk
                omega
              · injection hk with hk
                omega
            replace HB := HBn
            clear HBn hown hg hat R
            obtain ⟨g2, c2, rfl⟩ := row_some R2.out (by omega)
            skip
            generalize un = u4 at *
            refine take_call 12 rfl (by kernel_rfl) (by rfl) (fun K hK => ?_)
            refine wp_append_own_at _ _ _ 43 rfl u.heap.size 46 iR _ 2 16 Tryz.underlying43 hiR hR0 hR1 hR2 rfl (by decide) (.slice (some ⟨g2, 0, none⟩) n c2) n (fl rs) (by simp [go_sem]) R2.out ⟨q11, 0, none⟩ 1 1 [.int .i64 m0, .int .i64 m1] (by simp [go_sem]) rfl (boxed_add X.out) (fun x hx => by simp at hx; rcases hx with rfl | rfl <;> rfl) (by unfold maxLen; omega) (by omega) HB.out.size ?_
            intro v3 un hown hg hat
            have HBn := Lib.hid (HB.out.grown hg HB.out.size (fun k hk => (R2.out.lt k hk).1))
            refine hK.out _ _ (SK _ HBn.out) (fun hHeld => ?_)
            clear hK K
            (try simp only [Act.put, List.setIfInBounds_toArray, List.set_cons_zero, List.set_cons_succ])
            rw [show fl rs ++ [.int .i64 m0, .int .i64 m1] = fl (rs ++ [(m0, m1)]) from (fl_add rs (m0, m1)).symm] at hown
            have R3 := Lib.hid hown
            have hl14 := Y.out.lt
            replace Y := Lib.hid (boxed_grown Y.out hg (fun e => by injection e with e; exact neR2_14 g2 rfl e.symm))
            have neR3_14 : ∀ k, v3.ownBlock = some k → k ≠ q14 := fun k hk => by
              rcases hat with e | e <;> rw [e] at hk
              · exact neR2_14 k hk
              · injection hk with hk
                omega
            replace HB := HBn
            clear HBn hown hg hat R2 X
            obtain ⟨g3, c3, rfl⟩ := row_some R3.out (by omega)
            generalize un = u5 at *
            refine take_run (d := some 74) (v := ?v47) 13 rfl rfl (by kernel_rfl) (by kernel_rfl) (by kernel_rfl) (fun _ _ _ h => h) (by rfl) hHeld ?hy47 ?rs47
            case hy47 => (intro w hSw; (try dsimp only at hSw); go_simp) <;> (try with_reducible rfl)
            (try simp only [Act.put, List.setIfInBounds_toArray, List.set_cons_zero, List.set_cons_succ])
            refine take_call 15 rfl (by kernel_rfl) (by rfl) (fun K hK => ?_)
            have y0 := Y.out.cell 0 _ rfl
            have y1 := Y.out.cell 1 _ rfl
            have y2 := Y.out.cell 2 _ rfl
            have y3 := Y.out.cell 3 _ rfl
            have f0 := Y.out.free 0 (by show 0 < 4; omega)
            have f1 := Y.out.free 1 (by show 1 < 4; omega)
            have f2 := Y.out.free 2 (by show 2 < 4; omega)
            have f3 := Y.out.free 3 (by show 3 < 4; omega)
            have yl := Y.out.lt
            have hq := HQ14
            go_simp
            clear y0 y1 y2 y3 f0 f1 f2 f3
            have HBn := Lib.hid ((((HB.out.setCell (p := ⟨q14, 0, none⟩) hq (.int .u8 (op.toNat : Int))).setCell (p := ⟨q14, 1, none⟩) hq (.int .i64 mod)).setCell (p := ⟨q14, 2, none⟩) hq (.bool no)).setCell (p := ⟨q14, 3, none⟩) hq (.slice (some ⟨g3, 0, none⟩) (n + 1) c3))
            refine hK.out _ _ (SK _ HBn.out) (fun hHeld => ?_)
            clear hK K
            (try simp only [Act.put, List.setIfInBounds_toArray, List.set_cons_zero, List.set_cons_succ])
            replace Y := Lib.hid ((((Y.out.set 0 (.int .u8 (op.toNat : Int)) (by show 0 < 4; omega)).set 1 (.int .i64 mod) (by show 1 < 4; omega)).set 2 (.bool no) (by show 2 < 4; omega)).set 3 (.slice (some ⟨g3, 0, none⟩) (n + 1) c3) (by show 3 < 4; omega))
            have hne := neR3_14 g3 rfl
            have hk : (Value.slice (some ⟨g3, 0, none⟩) (n + 1) c3).ownBlock = none ∨ (Value.slice (some ⟨g3, 0, none⟩) (n + 1) c3).ownBlock ≠ some q14 := .inr (fun e => hne (by injection e))
            have K := Lib.hid ((((R3.out.kept (grown_store _ q14 0 (.int .u8 (op.toNat : Int))) hk).kept (grown_store _ q14 1 (.int .i64 mod)) hk).kept (grown_store _ q14 2 (.bool no)) hk).kept (grown_store _ q14 3 (.slice (some ⟨g3, 0, none⟩) (n + 1) c3)) hk)
            refine wpAnyH_done (by kernel_rfl) ?_ _
            go_wp2_with fail
            go_meet
            exact ⟨_, _, _, rfl, Y, Lib.hid (row_lies K.out (by rw [List.length_append, HNL.out]; rfl) (by omega)), HBn⟩
        · go_simp
          have HQ11 : u.heap.size ≤ u1.heap.size := HB.out.size
          have HBn := Lib.hid (HB.out.alloc HB.out.size (.cells #[.int .i64 m0, .int .i64 m1] 46))
          refine hK.out _ _ (SK _ HBn.out) (fun hHeld => ?_)
          clear hK K
          (try simp only [Act.put, List.setIfInBounds_toArray, List.set_cons_zero, List.set_cons_succ])
          have hl14 := Y.out.lt
          replace Y := Lib.hid (Y.out.alloc (.cells #[.int .i64 m0, .int .i64 m1] 46))
          have X := Lib.hid (Boxed.made u1 #[.int .i64 m0, .int .i64 m1] 46)
          replace HB := HBn
          clear HBn
          generalize hq11 : u1.heap.size = q11 at *
          generalize World.alloc u1 (.cells #[.int .i64 m0, .int .i64 m1] 46) = u2 at *
          clear hq11
          refine take_call 6 rfl (by kernel_rfl) (by rfl) (fun K hK => ?_)
          go_simp
          have HQ6 : u.heap.size ≤ u2.heap.size := HB.out.size
          have HBn := Lib.hid (HB.out.alloc HB.out.size (.cells #[] 46))
          refine hK.out _ _ (SK _ HBn.out) (fun hHeld => ?_)
          clear hK K
          (try simp only [Act.put, List.setIfInBounds_toArray, List.set_cons_zero, List.set_cons_succ])
          have hl11 := X.out.lt
          have hl14 := Y.out.lt
          replace X := Lib.hid (X.out.alloc (.cells #[] 46))
          replace Y := Lib.hid (Y.out.alloc (.cells #[] 46))
          have R := Lib.hid (World.ownsRow_made (e := 46) (size := 2) u2 #[] 0 (base := u.heap.size) HB.out.size (by decide) rfl)
          have ne11_6 : q11 ≠ u2.heap.size := by omega
          have ne14_6 : q14 ≠ u2.heap.size := by omega
          replace HB := HBn
          clear HBn
          generalize hq6 : u2.heap.size = q6 at *
          generalize World.alloc u2 (.cells #[] 46) = u3 at *
          clear hq6
          refine take_call 9 rfl (by kernel_rfl) (by rfl) (fun K hK => ?_)
          refine wp_append_own_at _ _ _ 43 rfl u.heap.size 46 iR _ 2 16 Tryz.underlying43 hiR hR0 hR1 hR2 rfl (by decide) (.slice (some ⟨q6, 0, none⟩) 0 0) 0 [] (by simp [go_sem]) R.out ⟨b, off, none⟩ n c (fl rs) (by simp [go_sem]) (by rw [fl_len]; have := HNL.out; omega) (fl_cells (HRS.out _ HB.out)) fl_one (by unfold maxLen; omega) (by omega) HB.out.size ?_
          intro v2 un hown hg hat
          have HBn := Lib.hid (HB.out.grown hg HB.out.size (fun k hk => by have hq : u.heap.size ≤ q6 := (R.out.lt q6 rfl).1; have hk : some q6 = some k := hk; injection hk with hk; omega))
          refine hK.out _ _ (SK _ HBn.out) (fun hHeld => ?_)
          clear hK K
          (try simp only [Act.put, List.setIfInBounds_toArray, List.set_cons_zero, List.set_cons_succ])
          simp only [Nat.zero_add, List.nil_append] at hown
          have R2 := Lib.hid hown
          have hl11 := X.out.lt
          replace X := Lib.hid (boxed_grown X.out hg (fun e => by injection e with e; exact ne11_6 e))
          have neR2_11 : ∀ k, v2.ownBlock = some k → k ≠ q11 := fun k hk => by
            rcases hat with e | e <;> rw [e] at hk
            · have hk : some q6 = some k := hk
              injection hk with hk
              omega
            · injection hk with hk
              omega
          have hl14 := Y.out.lt
          replace Y := Lib.hid (boxed_grown Y.out hg (fun e => by injection e with e; exact ne14_6 e))
          have neR2_14 : ∀ k, v2.ownBlock = some k → k ≠ q14 := fun k hk => by
            rcases hat with e | e <;> rw [e] at hk
            · have hk : some q6 = some k := hk
              injection hk with hk
              omega
            · injection hk with hk
              omega
          replace HB := HBn
          clear HBn hown hg hat R
          obtain ⟨g2, c2, rfl⟩ := row_some R2.out (by omega)
          skip
          generalize un = u4 at *
          refine take_call 12 rfl (by kernel_rfl) (by rfl) (fun K hK => ?_)
          refine wp_append_own_at _ _ _ 43 rfl u.heap.size 46 iR _ 2 16 Tryz.underlying43 hiR hR0 hR1 hR2 rfl (by decide) (.slice (some ⟨g2, 0, none⟩) n c2) n (fl rs) (by simp [go_sem]) R2.out ⟨q11, 0, none⟩ 1 1 [.int .i64 m0, .int .i64 m1] (by simp [go_sem]) rfl (boxed_add X.out) (fun x hx => by simp at hx; rcases hx with rfl | rfl <;> rfl) (by unfold maxLen; omega) (by omega) HB.out.size ?_
          intro v3 un hown hg hat
          have HBn := Lib.hid (HB.out.grown hg HB.out.size (fun k hk => (R2.out.lt k hk).1))
          refine hK.out _ _ (SK _ HBn.out) (fun hHeld => ?_)
          clear hK K
          (try simp only [Act.put, List.setIfInBounds_toArray, List.set_cons_zero, List.set_cons_succ])
          rw [show fl rs ++ [.int .i64 m0, .int .i64 m1] = fl (rs ++ [(m0, m1)]) from (fl_add rs (m0, m1)).symm] at hown
          have R3 := Lib.hid hown
          have hl14 := Y.out.lt
          replace Y := Lib.hid (boxed_grown Y.out hg (fun e => by injection e with e; exact neR2_14 g2 rfl e.symm))
          have neR3_14 : ∀ k, v3.ownBlock = some k → k ≠ q14 := fun k hk => by
            rcases hat with e | e <;> rw [e] at hk
            · exact neR2_14 k hk
            · injection hk with hk
              omega
          replace HB := HBn
          clear HBn hown hg hat R2 X
          obtain ⟨g3, c3, rfl⟩ := row_some R3.out (by omega)
          generalize un = u5 at *
          refine take_run (d := some 74) (v := ?v48) 13 rfl rfl (by kernel_rfl) (by kernel_rfl) (by kernel_rfl) (fun _ _ _ h => h) (by rfl) hHeld ?hy48 ?rs48
          case hy48 => (intro w hSw; (try dsimp only at hSw); go_simp) <;> (try with_reducible rfl)
          (try simp only [Act.put, List.setIfInBounds_toArray, List.set_cons_zero, List.set_cons_succ])
          refine take_call 15 rfl (by kernel_rfl) (by rfl) (fun K hK => ?_)
          have y0 := Y.out.cell 0 _ rfl
          have y1 := Y.out.cell 1 _ rfl
          have y2 := Y.out.cell 2 _ rfl
          have y3 := Y.out.cell 3 _ rfl
          have f0 := Y.out.free 0 (by show 0 < 4; omega)
          have f1 := Y.out.free 1 (by show 1 < 4; omega)
          have f2 := Y.out.free 2 (by show 2 < 4; omega)
          have f3 := Y.out.free 3 (by show 3 < 4; omega)
          have yl := Y.out.lt
          have hq := HQ14
          go_simp
          clear y0 y1 y2 y3 f0 f1 f2 f3
          have HBn := Lib.hid ((((HB.out.setCell (p := ⟨q14, 0, none⟩) hq (.int .u8 (op.toNat : Int))).setCell (p := ⟨q14, 1, none⟩) hq (.int .i64 mod)).setCell (p := ⟨q14, 2, none⟩) hq (.bool no)).setCell (p := ⟨q14, 3, none⟩) hq (.slice (some ⟨g3, 0, none⟩) (n + 1) c3))
          refine hK.out _ _ (SK _ HBn.out) (fun hHeld => ?_)
          clear hK K
          (try simp only [Act.put, List.setIfInBounds_toArray, List.set_cons_zero, List.set_cons_succ])
          replace Y := Lib.hid ((((Y.out.set 0 (.int .u8 (op.toNat : Int)) (by show 0 < 4; omega)).set 1 (.int .i64 mod) (by show 1 < 4; omega)).set 2 (.bool no) (by show 2 < 4; omega)).set 3 (.slice (some ⟨g3, 0, none⟩) (n + 1) c3) (by show 3 < 4; omega))
          have hne := neR3_14 g3 rfl
          have hk : (Value.slice (some ⟨g3, 0, none⟩) (n + 1) c3).ownBlock = none ∨ (Value.slice (some ⟨g3, 0, none⟩) (n + 1) c3).ownBlock ≠ some q14 := .inr (fun e => hne (by injection e))
          have K := Lib.hid ((((R3.out.kept (grown_store _ q14 0 (.int .u8 (op.toNat : Int))) hk).kept (grown_store _ q14 1 (.int .i64 mod)) hk).kept (grown_store _ q14 2 (.bool no)) hk).kept (grown_store _ q14 3 (.slice (some ⟨g3, 0, none⟩) (n + 1) c3)) hk)
          refine wpAnyH_done (by kernel_rfl) ?_ _
          go_wp2_with fail
          go_meet
          exact ⟨_, _, _, rfl, Y, Lib.hid (row_lies K.out (by rw [List.length_append, HNL.out]; rfl) (by omega)), HBn⟩
    case rest =>
      obtain ⟨q, g3, c3, rfl, BZ, SZ, HBZ⟩ := hcut
      have WZ := Lib.hid (W4.out.trans (HBZ.out.mono W4.out.size))
      have XZ := Lib.hid (X4.out.below HBZ.out)
      have OZ := Lib.hid (O4.out.below HBZ.out)
      have hmore := Rul.relH_more ⟨op, mod, no, rs⟩ (m0, m1) o
      rw [hHx] at hmore
      dsimp only at hmore
      clear SK HRS HOK HBZ X4 O4 M4 W4
      have p0 := BZ.out.cell 0 _ rfl
      have p1 := BZ.out.cell 1 _ rfl
      have p2 := BZ.out.cell 2 _ rfl
      have p3 := BZ.out.cell 3 _ rfl
      have pl := BZ.out.lt
      have o0 := OZ.out.cell 0 _ rfl
      have o1 := OZ.out.cell 1 _ rfl
      have o2 := OZ.out.cell 2 _ rfl
      have o3 := OZ.out.cell 3 _ rfl
      have o4 := OZ.out.cell 4 _ rfl
      have ol := OZ.out.lt
      have ql := XZ.out.lt
      by_cases hz : Rul.relOk ⟨op, mod, no, rs ++ [(m0, m1)]⟩ = true
      · have CC := hold_yes ⟨op, mod, no, rs ++ [(m0, m1)]⟩ o _ _ _ wc SZ.out (by have := HNL.out; simp; omega) hz
        generalize Rul.relH ⟨op, mod, no, rs ++ [(m0, m1)]⟩ o = CV at *
        clear hz
        go_wp2_with fail
        refine CC.mono ?_
        rintro e w5 ⟨rfl, hb⟩
        have W5 := Lib.hid (blw_trans WZ.out hb)
        have X5 := Lib.hid (XZ.out.below hb)
        clear hb CC p0 p1 p2 p3 pl o0 o1 o2 o3 o4 ol ql BZ SZ OZ
        have x2 := X5.out.cell 2 _ rfl
        have xl := X5.out.lt
        clear hHx
        cases no with
        | true =>
          cases H with
          | true =>
            cases CV with
            | true => (go_wp2_with fail; go_ret; exact ⟨ret_bool (by simp), W5.out⟩)
            | false => (go_wp2_with fail; go_ret; exact ⟨ret_bool (by simp), W5.out⟩)
          | false =>
            cases CV with
            | true => exact absurd (hmore.2 rfl rfl) (by decide)
            | false => (go_wp2_with fail; go_ret; exact ⟨ret_bool (by simp), W5.out⟩)
        | false =>
          cases H with
          | true =>
            cases CV with
            | true => (go_wp2_with fail; go_ret; exact ⟨ret_bool (by simp), W5.out⟩)
            | false => exact absurd (hmore.1 rfl rfl) (by decide)
          | false =>
            cases CV with
            | true => (go_wp2_with fail; go_ret; exact ⟨ret_bool (by simp), W5.out⟩)
            | false => (go_wp2_with fail; go_ret; exact ⟨ret_bool (by simp), W5.out⟩)
      · have hz' : Rul.relOk ⟨op, mod, no, rs ++ [(m0, m1)]⟩ = false := by simpa using hz
        have CC := hold_no ⟨op, mod, no, rs ++ [(m0, m1)]⟩ o _ _ _ wc SZ.out (by have := HNL.out; simp; omega) hz'
        clear hz hz' hmore
        go_wp2_with fail
        refine CC.mono ?_
        rintro e w5 ⟨rfl, hb⟩
        have W5 := Lib.hid (blw_trans WZ.out hb)
        clear hb CC p0 p1 p2 p3 pl o0 o1 o2 o3 o4 ol ql BZ SZ OZ hHx
        cases H with
        | true => (go_wp2_with fail; go_ret; exact ⟨ret_bool (by simp), W5.out⟩)
        | false => (go_wp2_with fail; go_ret; exact ⟨ret_bool (by simp), W5.out⟩)
  · have hok' : Rul.relOk ⟨op, mod, no, rs⟩ = false := by simpa using hok
    have CA := hold_no ⟨op, mod, no, rs⟩ o a n c w8 (HS.out w8 W8.out) (by dsimp only; omega) hok'
    go_wp2_with fail
    refine CA.mono ?_
    rintro e w2 ⟨rfl, hb⟩
    have W2 := Lib.hid (blw_trans W8.out hb)
    have Y2 := Lib.hid (Y8.out.below hb)
    have X2 := Lib.hid (X8.out.below hb)
    have O2 := Lib.hid (O8.out.below hb)
    clear hb W8 X8 Y8 O8 M8 hw8 CA x0 x1 x2 x3 xl o0 o1 o2 o3 o4 ol q0 q1 q2 q3 ql
    have CB := hold_no ⟨op, mod, !no, rs⟩ o a n c w2 (HS.out w2 W2.out) (by dsimp only; omega) hok'
    have y0 := Y2.out.cell 0 _ rfl
    have y1 := Y2.out.cell 1 _ rfl
    have y2 := Y2.out.cell 2 _ rfl
    have y3 := Y2.out.cell 3 _ rfl
    have yl := Y2.out.lt
    have o0 := O2.out.cell 0 _ rfl
    have o1 := O2.out.cell 1 _ rfl
    have o2 := O2.out.cell 2 _ rfl
    have o3 := O2.out.cell 3 _ rfl
    have o4 := O2.out.cell 4 _ rfl
    have ol := O2.out.lt
    have ql := X2.out.lt
    go_wp2_with fail
    refine CB.mono ?_
    rintro e w3 ⟨rfl, hb⟩
    have W3 := Lib.hid (blw_trans W2.out hb)
    clear hb W2 X2 Y2 O2 CB y0 y1 y2 y3 yl o0 o1 o2 o3 o4 ol ql
    go_wp2_with fail
    refine (CTd.out _ W3.out _ 3 (ErrNo.no 3)).mono ?_
    rintro e w4 ⟨rfl, hb⟩
    have W4 := Lib.hid (blw_trans W3.out hb)
    clear hb W3 CTd
    go_wp2_with fail
    go_ret
    exact ⟨rfl, W4.out⟩
end Go.Proofs.YtoglgcjdjbjlmaaGreatDoor
namespace Go.Proofs.YtoglgcjdjbjlmaaGreatDoor
open Go.RowKit Go.WideShapes Go.ChangeShapes Go.Deep

theorem bulk_small {H : Type} {l : List (DataW H)} (hk : Rows.uptoSmall H l = true) : Rows.uptoBulkAll l ≤ 1048576 := of_decide_eq_true hk
theorem list_by {α : Type} {Q : Nat → α → Prop} : ∀ (n : Nat), (∀ i, i < n → ∃ t, Q i t) → ∃ L : List α, L.length = n ∧ ∀ i t, L[i]? = some t → Q i t
  | 0, _ => ⟨[], rfl, fun i t h => by simp at h⟩
  | n + 1, h => by
    obtain ⟨L, hl, hq⟩ := list_by n fun i hi => h i (by omega)
    obtain ⟨t, ht⟩ := h n (by omega)
    refine ⟨L ++ [t], by simp [hl], fun i x hx => ?_⟩
    by_cases hi : i < n
    · rw [List.getElem?_append_left (by omega)] at hx; exact hq i x hx
    · rw [List.getElem?_append_right (by omega)] at hx
      have hk : i - L.length < 1 := (List.getElem?_eq_some_iff.1 hx).1
      obtain rfl : i = n := by omega
      rw [hl, Nat.sub_self] at hx
      obtain rfl : t = x := by simpa using hx
      exact ht
theorem bulk_sum {H : Type} {α : Type} (bulk : α → Nat) : ∀ (L : List α) (D : Nat → DataW H) (k : Nat), (∀ i x, L[i]? = some x → bulk x + 1 ≤ Rows.uptoBulk (D (k + i))) → (L.map bulk).sum + L.length ≤ Rows.uptoBulkAll ((List.range' k L.length).map D)
  | [], _, _, _ => by simp [Rows.uptoBulkAll]
  | x :: r, D, k, h => by
    have a := h 0 x rfl
    have b := bulk_sum bulk r D (k + 1) fun i y hy => by
      have := h (i + 1) y (by simpa using hy)
      rwa [show k + 1 + i = k + (i + 1) by omega]
    rw [List.length_cons, List.range'_succ, List.map_cons, List.map_cons, List.sum_cons]
    simp only [Rows.uptoBulkAll]
    simp only [Nat.add_zero] at a
    omega
section
variable {H : Type} {enc : TypeId × Value → H} {P : Program} {w : World} {base : Nat} {sp : Nat → Bool} {held : Bool}
theorem sl_open {α : Type} {fuel m : Nat} {t e : TypeId} {C : World → Nat → Nat → α → Prop} (bulk : α → Nat) (ht : P.underlying t = some (.slice e)) (hC : P.cellsOf e = m) (hm : 0 < m)
    (el : ∀ (b off : Nat) (cs : List Value) (n : Nat) (y : DataW H × List MemPlace), (∀ i, i < m → w.cell? ⟨b, off + i, none⟩ = cs[i]?) → cs.length = m → DataW.trod enc P w base sp held n e cs = some y → ∃ x : α, C w b off x ∧ bulk x + 1 ≤ Rows.uptoBulk y.1)
    {a : Option Addr} {n c : Nat} {d : DataW H} {p : List MemPlace} (h : DataW.trod enc P w base sp held fuel t (Value.slice a n c).cells.toList = some (d, p)) :
    ∃ l : List α, SlAt m C w (.slice a n c) l ∧ (l.map bulk).sum + l.length + 1 ≤ Rows.uptoBulk d := by
  rcases open_slice ht h with ⟨hcs, hx⟩ | ⟨a', len, cap, mm, nn, D, Pl, hcs, _, hl, hcm, hmm, hx, hi⟩
  · have e1 : Value.slice a n c = .slice none 0 0 := by simpa [Value.cells] using hcs
    rw [e1]
    refine ⟨[], .inl ⟨rfl, none, 0, rfl⟩, ?_⟩
    rw [show d = .nil from congrArg Prod.fst hx]
    simp [Rows.uptoBulk]
  · have e1 : Value.slice a n c = .slice (some a') len cap := by simpa [Value.cells] using hcs
    rw [e1]
    have hd : d = .slice ((List.range len).map D) ((List.range (mm - len)).map fun j => D (len + j)) := congrArg Prod.fst hx
    by_cases hz : len = 0
    · subst hz
      refine ⟨[], .inl ⟨rfl, _, _, rfl⟩, ?_⟩
      rw [hd]
      simp only [List.map_nil, List.sum_nil, List.length_nil, Rows.uptoBulk]
      omega
    have hlm : len ≤ mm := by rw [hmm]; split <;> omega
    rw [hC] at hi
    obtain ⟨b, off, spot⟩ := a'
    have hsp : spot = none := by
      obtain ⟨cs0, q0, _⟩ := hi 0 (by omega)
      obtain ⟨_, q1, q2⟩ := World.cells?_some q0
      have q3 := q2 0 hm
      rw [List.getElem?_eq_getElem (by omega)] at q3
      simpa [Addr.add] using World.cell?_spot q3
    subst hsp
    obtain ⟨L, hL, hQ⟩ := list_by (Q := fun i x => C w b (off + i * m) x ∧ bulk x + 1 ≤ Rows.uptoBulk (D i)) len fun i hil => by
      obtain ⟨cs', q0, q1⟩ := hi i (by omega)
      obtain ⟨_, q2, q3⟩ := World.cells?_some q0
      rw [Go.WideShapes.add_plain] at q3
      exact el b (off + i * m) cs' nn _ (fun j hj => by have := q3 j hj; rwa [Go.WideShapes.add_plain] at this) q2 q1
    refine ⟨L, .inr ⟨b, off, cap, by rw [hL], by omega, by omega, hcm, fun j x hx => (hQ j x hx).1⟩, ?_⟩
    have s := bulk_sum bulk L D 0 (fun i x hx => by have := (hQ i x hx).2; rwa [Nat.zero_add])
    rw [hL, ← List.range_eq_range'] at s
    rw [hd, hL]
    simp only [Rows.uptoBulk]
    omega
theorem sl_field {α : Type} {fuel m : Nat} {t e : TypeId} {C : World → Nat → Nat → α → Prop} (bulk : α → Nat) (ht : P.underlying t = some (.slice e)) (hC : P.cellsOf e = m) (hm : 0 < m)
    (el : ∀ (b off : Nat) (cs : List Value) (n : Nat) (y : DataW H × List MemPlace), (∀ i, i < m → w.cell? ⟨b, off + i, none⟩ = cs[i]?) → cs.length = m → DataW.trod enc P w base sp held n e cs = some y → ∃ x : α, C w b off x ∧ bulk x + 1 ≤ Rows.uptoBulk y.1)
    {v : Value} {y : DataW H × List MemPlace} (h : DataW.trod enc P w base sp held fuel t [v] = some y) :
    ∃ a n c l, v = .slice a n c ∧ SlAt m C w (.slice a n c) l ∧ (l.map bulk).sum + l.length + 1 ≤ Rows.uptoBulk y.1 := by
  obtain ⟨a, n, c, rfl⟩ : ∃ a n c, v = .slice a n c := by
    rcases open_slice ht h with ⟨hcs, _⟩ | ⟨a', len, cap, _, _, _, _, hcs, _⟩
    · exact ⟨_, _, _, by simpa using hcs⟩
    · exact ⟨_, _, _, by simpa using hcs⟩
  obtain ⟨l, h1, h2⟩ := sl_open bulk ht hC hm el (a := a) (n := n) (c := c) (d := y.1) (p := y.2) (by simpa [Value.cells] using h)
  exact ⟨a, n, c, l, rfl, h1, h2⟩
/-- one range -/
theorem rng_el {t e : TypeId} (ht : P.underlying t = some (.array 2 e)) (he : P.underlying e = some (.int .i64)) (hc : P.cellsOf e = 1) (b off : Nat) (cs : List Value) (n : Nat) (y : DataW H × List MemPlace)
    (h1 : ∀ i, i < 2 → w.cell? ⟨b, off + i, none⟩ = cs[i]?) (h2 : cs.length = 2) (h : DataW.trod enc P w base sp held n t cs = some y) : ∃ x : Int × Int, RngC w b off x ∧ (fun _ => 0) x + 1 ≤ Rows.uptoBulk y.1 := by
  obtain ⟨xs, m, _, hy, _, hxl, hx⟩ := DataW.trod_array ht h
  obtain ⟨c0, c1, rfl⟩ : ∃ c0 c1, cs = [c0, c1] := by
    match cs, h2 with
    | [c0, c1], _ => exact ⟨c0, c1, rfl⟩
  have x0 := hx 0 (by omega)
  have x1 := hx 1 (by omega)
  rw [hc] at x0 x1
  rw [List.getElem?_eq_getElem (by omega)] at x0 x1
  obtain ⟨v0, e0, _⟩ := DataW.trod_int he x0
  obtain ⟨v1, e1, _⟩ := DataW.trod_int he x1
  obtain rfl : c0 = .int .i64 v0 := by simpa using e0
  obtain rfl : c1 = .int .i64 v1 := by simpa using e1
  refine ⟨(v0, v1), ⟨h1 0 (by omega), h1 1 (by omega)⟩, ?_⟩
  rw [hy]
  simp [Rows.uptoBulk]
/-- the fields of one relation -/
theorem rel_fields {g u : TypeId} {f0 f1 f2 f3 : Field} {v0 v1 v2 v3 : Value} {n0 n1 n2 n3 : Nat} {y0 y1 y2 y3 : DataW H × List MemPlace} (k0 : P.underlying f0.type = some (.int .u8)) (k1 : P.underlying f1.type = some (.int .i64)) (k2 : P.underlying f2.type = some .bool)
    (k3 : P.underlying f3.type = some (.slice g)) (hg : P.underlying g = some (.array 2 u)) (hgc : P.cellsOf g = 2) (hu : P.underlying u = some (.int .i64)) (huc : P.cellsOf u = 1)
    (r0 : DataW.trod enc P w base sp held n0 f0.type [v0] = some y0) (r1 : DataW.trod enc P w base sp held n1 f1.type [v1] = some y1) (r2 : DataW.trod enc P w base sp held n2 f2.type [v2] = some y2) (r3 : DataW.trod enc P w base sp held n3 f3.type [v3] = some y3) :
    ∃ (r : Rul.Rl) (a : Option Addr) (n c : Nat), v0 = .int .u8 (r.op.toNat : Int) ∧ v1 = .int .i64 r.mod ∧ v2 = .bool r.no ∧ v3 = .slice a n c ∧ SlAt 2 RngC w (.slice a n c) r.rs ∧ r.rs.length + 1 ≤ Rows.uptoBulk y3.1 := by
  obtain ⟨a0, e0, _, w0⟩ := DataW.trod_int k0 r0
  obtain ⟨a1, e1, _⟩ := DataW.trod_int k1 r1
  obtain ⟨a2, e2, _⟩ := DataW.trod_bool k2 r2
  obtain ⟨a, n, c, rs, rfl, hs, hb⟩ := sl_field (C := RngC) (fun _ => 0) k3 hgc (by omega) (fun b off cs n y => rng_el hg hu huc b off cs n y) r3
  obtain rfl : v0 = .int .u8 a0 := by simpa using e0
  obtain rfl : v1 = .int .i64 a1 := by simpa using e1
  obtain rfl : v2 = .bool a2 := by simpa using e2
  have b0 := bounds_u8 w0
  refine ⟨⟨UInt8.ofNat a0.toNat, a1, a2, rs⟩, a, n, c, ?_, rfl, rfl, rfl, hs, by show rs.length + 1 ≤ _; omega⟩
  congr 1
  show a0 = ((UInt8.ofNat a0.toNat).toNat : Int)
  rw [UInt8.toNat_ofNat']
  omega
theorem rel_el {t g u : TypeId} {f0 f1 f2 f3 : Field} (ht : P.underlying t = some (.struct #[f0, f1, f2, f3])) (k0 : P.underlying f0.type = some (.int .u8)) (k1 : P.underlying f1.type = some (.int .i64)) (k2 : P.underlying f2.type = some .bool)
    (k3 : P.underlying f3.type = some (.slice g)) (hg : P.underlying g = some (.array 2 u)) (hgc : P.cellsOf g = 2) (hu : P.underlying u = some (.int .i64)) (huc : P.cellsOf u = 1) (hone : oneCellFields P #[f0, f1, f2, f3] = true)
    (b off : Nat) (cs : List Value) (n : Nat) (y : DataW H × List MemPlace)
    (h1 : ∀ i, i < 4 → w.cell? ⟨b, off + i, none⟩ = cs[i]?) (h2 : cs.length = 4) (h : DataW.trod enc P w base sp held n t cs = some y) : ∃ x : Rul.Rl, RelC w b off x ∧ (fun x : Rul.Rl => x.rs.length) x + 1 ≤ Rows.uptoBulk y.1 := by
  obtain ⟨ys, n', _, hy, _, hyl, hf⟩ := DataW.trod_struct ht h
  obtain ⟨c0, c1, c2, c3, rfl⟩ : ∃ c0 c1 c2 c3, cs = [c0, c1, c2, c3] := by
    match cs, h2 with
    | [c0, c1, c2, c3], _ => exact ⟨c0, c1, c2, c3, rfl⟩
  obtain ⟨y0, y1, y2, y3, rfl⟩ : ∃ a0 a1 a2 a3, ys = [a0, a1, a2, a3] := by
    match ys, hyl with
    | [a0, a1, a2, a3], _ => exact ⟨a0, a1, a2, a3, rfl⟩
  have r0 := hf 0 f0 rfl
  have r1 := hf 1 f1 rfl
  have r2 := hf 2 f2 rfl
  have r3 := hf 3 f3 rfl
  rw [(hone_of hone 0 f0 rfl).1, (hone_of hone 0 f0 rfl).2] at r0
  rw [(hone_of hone 1 f1 rfl).1, (hone_of hone 1 f1 rfl).2] at r1
  rw [(hone_of hone 2 f2 rfl).1, (hone_of hone 2 f2 rfl).2] at r2
  rw [(hone_of hone 3 f3 rfl).1, (hone_of hone 3 f3 rfl).2] at r3
  obtain ⟨r, a, n, c, rfl, rfl, rfl, rfl, hs, hb⟩ := rel_fields k0 k1 k2 k3 hg hgc hu huc (v0 := c0) (v1 := c1) (v2 := c2) (v3 := c3) r0 r1 r2 r3
  refine ⟨r, ⟨a, n, c, h1 0 (by omega), h1 1 (by omega), h1 2 (by omega), h1 3 (by omega), hs⟩, ?_⟩
  rw [hy]
  simp only [List.map_cons, List.map_nil, Rows.uptoBulk, Rows.uptoBulkAll]
  omega
theorem part_el {t e g u : TypeId} {f0 f1 f2 f3 : Field} (hp : P.underlying t = some (.slice e)) (ht : P.underlying e = some (.struct #[f0, f1, f2, f3])) (hC : P.cellsOf e = 4) (k0 : P.underlying f0.type = some (.int .u8)) (k1 : P.underlying f1.type = some (.int .i64)) (k2 : P.underlying f2.type = some .bool)
    (k3 : P.underlying f3.type = some (.slice g)) (hg : P.underlying g = some (.array 2 u)) (hgc : P.cellsOf g = 2) (hu : P.underlying u = some (.int .i64)) (huc : P.cellsOf u = 1) (hone : oneCellFields P #[f0, f1, f2, f3] = true)
    (b off : Nat) (cs : List Value) (n : Nat) (y : DataW H × List MemPlace)
    (h1 : ∀ i, i < 1 → w.cell? ⟨b, off + i, none⟩ = cs[i]?) (h2 : cs.length = 1) (h : DataW.trod enc P w base sp held n t cs = some y) : ∃ x : List Rul.Rl, PartC w b off x ∧ (fun x : List Rul.Rl => (x.map fun r => r.rs.length).sum + x.length) x + 1 ≤ Rows.uptoBulk y.1 := by
  obtain ⟨c0, rfl⟩ : ∃ c0, cs = [c0] := by
    match cs, h2 with
    | [c0], _ => exact ⟨c0, rfl⟩
  obtain ⟨a, n, c, l, rfl, hs, hb⟩ := sl_field (C := RelC) (fun x : Rul.Rl => x.rs.length) hp hC (by omega) (fun b off cs n y => rel_el ht k0 k1 k2 k3 hg hgc hu huc hone b off cs n y) h
  exact ⟨l, ⟨a, n, c, h1 0 (by omega), hs⟩, hb⟩
theorem rule_open {fuel : Nat} {s t e g u : TypeId} {f0 f1 f2 f3 : Field} (hq : P.underlying s = some (.slice t)) (htc : P.cellsOf t = 1) (hp : P.underlying t = some (.slice e)) (ht : P.underlying e = some (.struct #[f0, f1, f2, f3])) (hC : P.cellsOf e = 4) (k0 : P.underlying f0.type = some (.int .u8)) (k1 : P.underlying f1.type = some (.int .i64)) (k2 : P.underlying f2.type = some .bool)
    (k3 : P.underlying f3.type = some (.slice g)) (hg : P.underlying g = some (.array 2 u)) (hgc : P.cellsOf g = 2) (hu : P.underlying u = some (.int .i64)) (huc : P.cellsOf u = 1) (hone : oneCellFields P #[f0, f1, f2, f3] = true)
    {a : Option Addr} {n c : Nat} {d : DataW H} {p : List MemPlace} (h : DataW.trod enc P w base sp held fuel s (Value.slice a n c).cells.toList = some (d, p)) :
    ∃ r : Rul.Rule, SlAt 1 PartC w (.slice a n c) r ∧ r.length ≤ Rows.uptoBulk d ∧ Rul.count r ≤ Rows.uptoBulk d ∧ Rul.mass r ≤ Rows.uptoBulk d ∧ ∀ l ∈ r, ∀ x ∈ l, x.rs.length ≤ Rows.uptoBulk d := by
  obtain ⟨r, h1, h2⟩ := sl_open (C := PartC) (fun x : List Rul.Rl => (x.map fun r => r.rs.length).sum + x.length) hq htc (by omega) (fun b off cs n y => part_el hp ht hC k0 k1 k2 k3 hg hgc hu huc hone b off cs n y) h
  have key : ∀ q : Rul.Rule, Rul.count q + Rul.mass q ≤ (q.map fun x : List Rul.Rl => (x.map fun r => r.rs.length).sum + x.length).sum ∧ ∀ l ∈ q, ∀ x ∈ l, x.rs.length ≤ (q.map fun x : List Rul.Rl => (x.map fun r => r.rs.length).sum + x.length).sum := by
    intro q
    induction q with
    | nil => exact ⟨by simp [Rul.count, Rul.mass], fun l hl => by simp at hl⟩
    | cons a q ih =>
      refine ⟨?_, fun l hl x hx => ?_⟩
      · have := ih.1
        unfold Rul.count Rul.mass at *
        simp only [List.map_cons, List.sum_cons]
        omega
      · simp only [List.map_cons, List.sum_cons]
        rcases List.mem_cons.1 hl with rfl | hl
        · have : x.rs.length ≤ (l.map fun r => r.rs.length).sum := by
            clear ih hl
            induction l with
            | nil => simp at hx
            | cons z l ih2 =>
              rcases List.mem_cons.1 hx with rfl | hx
              · simp
              · have := ih2 hx; simp; omega
          omega
        · have := ih.2 l hl x hx
          omega
  obtain ⟨q1, q2⟩ := key r
  exact ⟨r, h1, by omega, by omega, by omega, fun l hl x hx => by have := q2 l hl x hx; omega⟩
end
end Go.Proofs.YtoglgcjdjbjlmaaGreatDoor
namespace Go.Proofs.YtoglgcjdjbjlmaaGreatDoor
open Go.RowKit

theorem gPowT : (Tryz.prog.globals[5]?).map (·.type) = some 169 := by kernel_rfl
theorem cellsPow : Tryz.prog.cellsOf 169 = 20 := by kernel_rfl
theorem cellsU64 : Tryz.prog.cellsOf 153 = 1 := by kernel_rfl
theorem powW_of {L : List (String × DataW Unit)} {W : World} (h : laidMetH Tryz.prog L W) (hf : L.filter (fun x => x.1 == "internal/strconv.uint64pow10") = [("internal/strconv.uint64pow10", Rows.laid_internal_strconv_uint64pow10)]) : PowW W := by
  have g := laidMetH.filter (fun x => x.1 == "internal/strconv.uint64pow10") h
  rw [hf, MakeChecks.laidMetH_plain _ _ _ (by kernel_rfl)] at g
  exact Lib.tabIs_of_head gPow gPowT Tryz.underlying169 Tryz.underlying153 cellsU64 cellsPow g
end Go.Proofs.YtoglgcjdjbjlmaaGreatDoor
namespace Go.Proofs.YtoglgcjdjbjlmaaGreatDoor
theorem laidMet_over {P : Program} {W : World} {L : List (String × DataW Unit)} (args : Array Value) (hf : W.layFits P L [] = true) (hi : W.layIfaces P L (W.layVars P L) = true) :
    laidMet P L ((W.layVars P L).forCall (fun _ _ => 0) ⟨#[], args, []⟩).memory := by
  have e1 : (L.filter fun x => (L.map (·.1)).contains x.1) = L := List.filter_eq_self.2 fun x hx => List.contains_iff_mem.2 (List.mem_map.2 ⟨x, hx, rfl⟩)
  have e2 : (L.filter fun x => !(L.map (·.1)).contains x.1) = [] := List.filter_eq_nil_iff.2 fun x hx => by rw [List.contains_iff_mem.2 (List.mem_map.2 ⟨x, hx, rfl⟩)]; simp
  have h : laidMet P L (W.layVars P L) := laidMet_layVars (w0 := W) (L.map (·.1)) [] (by rw [e1]) (by rw [e1]; exact hf) (by rw [e1]; exact hi) (by rw [e2]; exact LaidIn.none)
  exact h.of_heap (by simp [World.memory, World.forCall, Input.heap])
end Go.Proofs.YtoglgcjdjbjlmaaGreatDoor
namespace Go.Proofs.YtoglgcjdjbjlmaaGreatDoor.lawRuleNot
open Go.ChangeShapes Go.WideShapes Go.ChangeAt Go.RowKit Go.Joins

theorem own : ownKnob Tryz.prog.godebug = none := by kernel_rfl
theorem laidOut : laidOutB Tryz.prog = true := by kernel_rfl
theorem cellsRel : Tryz.prog.cellsOf 45 = 4 := by kernel_rfl
theorem cellsOps : Tryz.prog.cellsOf 24 = 5 := by kernel_rfl

set_option maxRecDepth 100000 in
theorem contract (H : Type) (enc : TypeId × Value → H) (W : World) (base : Nat) (args : Array Value) (ds gs : List (DataW H)) (before : List MemPlace)
    (hval : ∀ (j : Nat) t v, Tryz.f4.params[j]? = some t → args[j]? = some v → Value.okWide Tryz.prog W .any base t v)
    (hW : DataW.Whole enc Tryz.prog Tryz.f4.params.toList Rows.ruleNotSpec.vars false W args.toList ds gs before) (hk : Rows.uptoSmall H (ds ++ gs) = true) (hL : laidMetH Tryz.prog Rows.ruleNotUptoRow.laid W) (hS : W.ShapedOpen Tryz.prog) :
    Calls Tryz.prog 4 args W fun e W' => ∃ v, e = .returned v ∧ Rows.ruleNotSpec.post enc Tryz.prog Tryz.f4 false true false false W args v W' := by
  have hpost : ∀ W', Below W.heap.size W W' → Rows.ruleNotSpec.post enc Tryz.prog Tryz.f4 false true false false W args (.bool true) W' := fun W' hb =>
    law_post (tb := 4) laidOut rfl Tryz.underlying4 rfl (by kernel_rfl) (fun ds h => by match ds, h with | [x0, x1, x2], _ => rfl) hW hb
  obtain ⟨p, q, hA0, hV, _, hfz, hnd⟩ := hW
  have hA : DataW.TrodAll enc Tryz.prog W 0 (fun _ => true) true Tryz.f4.params.toList args.toList ds p := hA0
  obtain ⟨rfl, rfl⟩ := trodVars_none hV
  rw [Tryz.params4] at hA hval
  obtain ⟨v0, vs0, d0, ds0, p0, q0, hargs, rfl, hp0, h0, r0⟩ := trodAll_cons hA
  obtain ⟨v1, vs1, d1, ds1, p1, q1, rfl, rfl, hp1, h1, r1⟩ := trodAll_cons r0
  obtain ⟨v2, vs2, d2, ds2, p2, q2, rfl, rfl, hp2, h2, r2⟩ := trodAll_cons r1
  obtain ⟨rfl, rfl, hp⟩ := trodAll_nil r2
  obtain rfl : args = #[v0, v1, v2] := by cases args; simp_all
  obtain ⟨c0_0, c0_1, c0_2, c0_3, y0_0, y0_1, y0_2, y0_3, m0, rfl, rfl, rfl, hy0_0, hy0_1, hy0_2, hy0_3⟩ := open_agg4 Tryz.underlying45 (by kernel_rfl) cellsRel (hval 0 45 v0 rfl rfl) h0
  obtain ⟨x, x_a, x_n, x_c, rfl, rfl, rfl, rfl, x_at, x_bulk⟩ := rel_fields Tryz.underlying5 Tryz.underlying3 Tryz.underlying4 Tryz.underlying43 Tryz.underlying46 (by kernel_rfl) Tryz.underlying3 (by kernel_rfl) hy0_0 hy0_1 hy0_2 hy0_3
  obtain ⟨c1_0, c1_1, c1_2, c1_3, c1_4, y1_0, y1_1, y1_2, y1_3, y1_4, m1, rfl, rfl, rfl, hy1_0, hy1_1, hy1_2, hy1_3, hy1_4⟩ := open_agg5 Tryz.underlying24 (by kernel_rfl) cellsOps (hval 1 24 v1 rfl rfl) h1
  obtain ⟨o_i, e1_0, _, w_o_i⟩ := DataW.trod_int Tryz.underlying3 hy1_0
  obtain ⟨o_v, e1_1, _, w_o_v⟩ := DataW.trod_int Tryz.underlying3 hy1_1
  obtain ⟨o_w, e1_2, _, w_o_w⟩ := DataW.trod_int Tryz.underlying3 hy1_2
  obtain ⟨o_f, e1_3, _, w_o_f⟩ := DataW.trod_int Tryz.underlying3 hy1_3
  obtain ⟨o_t, e1_4, _, w_o_t⟩ := DataW.trod_int Tryz.underlying3 hy1_4
  simp at e1_0 e1_1 e1_2 e1_3 e1_4
  subst e1_0 e1_1 e1_2 e1_3 e1_4
  have b_o_i := bounds_i64 w_o_i
  have b_o_v := bounds_i64 w_o_v
  have b_o_w := bounds_i64 w_o_w
  have b_o_f := bounds_i64 w_o_f
  have b_o_t := bounds_i64 w_o_t
  obtain ⟨more_0, more_1, rfl⟩ := open_rng Tryz.underlying46 Tryz.underlying3 (by kernel_rfl) (by kernel_rfl) (hval 2 46 v2 rfl rfl) h2
  clear hA0 hfz hnd hval
  have hm : MaxW W := Go.Proofs.cell_of_shapedOpen_int (zero := #[.int .i64 0]) (t := 3) hS (of_decide_eq_true (by kernel_rfl)) (by kernel_rfl) rfl (by kernel_rfl) (by kernel_rfl) Tryz.underlying3
  have hT : TR W := ⟨powW_of hL (by kernel_rfl), numW_of hL (by kernel_rfl) (by kernel_rfl), hm⟩
  have hH : HanW W := hanW_of (by repeat (first | exact List.Mem.head _ | refine List.Mem.tail _ ?_)) hL
  have hq : Rows.uptoBulkAll _ ≤ 1048576 := of_decide_eq_true hk
  simp only [List.append_nil, Rows.uptoBulkAll, Rows.uptoBulk, Array.length_toList] at hq
  refine Calls.mono (?_ : Calls Tryz.prog 4 #[.agg #[.int .u8 (x.op.toNat : Int), .int .i64 x.mod, .bool x.no, .slice x_a x_n x_c], .agg #[.int .i64 o_i, .int .i64 o_v, .int .i64 o_w, .int .i64 o_f, .int .i64 o_t], .agg #[.int .i64 more_0, .int .i64 more_1]] W fun e w' => e = .returned (.bool true) ∧ Below W.heap.size W w') fun e W' ⟨he, hb⟩ => ⟨_, he, hpost W' hb⟩
  exact rulenot_any x x_a x_n x_c ⟨o_i, o_v, o_w, o_f, o_t⟩ more_0 more_1 W hT hH x_at (by omega)

theorem start_met (os : Os) : laidMetH Tryz.prog Rows.ruleNotUptoRow.laid (((World.doorLaid Tryz.prog 84 os).layVars Tryz.prog (Rows.ruleNotUptoRow.laid.filter fun x => x.2.handleName?.isNone)).forCall (fun _ _ => 0) ⟨#[], #[.agg #[.int .u8 0, .int .i64 0, .bool false, .slice none 0 0], .agg #[.int .i64 0, .int .i64 0, .int .i64 0, .int .i64 0, .int .i64 0], .agg #[.int .i64 0, .int .i64 0]], []⟩).memory :=
  laidMetH_of_parts3 (fuel := 8) (laidMet_over _ (by kernel_rfl) (by kernel_rfl)) (by kernel_rfl) (by kernel_rfl)
theorem start_reads (os : Os) {H : Type} (enc : TypeId × Value → H) : ∃ places, DataW.whole enc Tryz.prog (((World.doorLaid Tryz.prog 84 os).layVars Tryz.prog (Rows.ruleNotUptoRow.laid.filter fun x => x.2.handleName?.isNone)).forCall (fun _ _ => 0) ⟨#[], #[.agg #[.int .u8 0, .int .i64 0, .bool false, .slice none 0 0], .agg #[.int .i64 0, .int .i64 0, .int .i64 0, .int .i64 0, .int .i64 0], .agg #[.int .i64 0, .int .i64 0]], []⟩).memory Tryz.f4.params.toList Rows.ruleNotSpec.vars false (#[.agg #[.int .u8 0, .int .i64 0, .bool false, .slice none 0 0], .agg #[.int .i64 0, .int .i64 0, .int .i64 0, .int .i64 0, .int .i64 0], .agg #[.int .i64 0, .int .i64 0]] : Array Value).toList 8 = some ([.agg [.lit (.int .u8 0), .lit (.int .i64 0), .lit (.bool false), .nil], .agg [.lit (.int .i64 0), .lit (.int .i64 0), .lit (.int .i64 0), .lit (.int .i64 0), .lit (.int .i64 0)], .agg [.lit (.int .i64 0), .lit (.int .i64 0)]], [], places) :=
  ⟨[], by kernel_rfl⟩

set_option maxRecDepth 100000 in
theorem lifted (os : Os) (started : os.Started) (H : Type) (enc : TypeId × Value → H) (F : Stop.Interp) :
    ReturnsInHanded {} Tryz.checked os 4 .any ((Rows.OpenSpec.upto Rows.ruleNotSpec).preRow enc Tryz.prog Tryz.f4 Rows.ruleNotUptoRow.domain false Rows.ruleNotUptoRow.laid) (((Rows.OpenSpec.upto Rows.ruleNotSpec).at F).post enc Tryz.prog Tryz.f4 false true false false) := by
  obtain ⟨places, hx⟩ := start_reads os enc
  refine returnsInHanded_of_row (C := Tryz.checked) (s := Rows.OpenSpec.upto Rows.ruleNotSpec) own started (by kernel_rfl) Tryz.func4
    (witness_row_atRef (enc := enc) (C := Tryz.checked) false ((World.doorLaid Tryz.prog 84 os).layVars Tryz.prog (Rows.ruleNotUptoRow.laid.filter fun x => x.2.handleName?.isNone)) #[.agg #[.int .u8 0, .int .i64 0, .bool false, .slice none 0 0], .agg #[.int .i64 0, .int .i64 0, .int .i64 0, .int .i64 0, .int .i64 0], .agg #[.int .i64 0, .int .i64 0]] (World.layVars_os _ _ _) (by kernel_rfl) (by kernel_rfl) (by kernel_rfl)
      (OpenSpec.preRow_of_cond 8 hx (by kernel_rfl) (fun k hk => by cases hk; kernel_rfl) (by kernel_rfl) (start_met os))) ?_
  intro W base args ds gs before hval hW _ hcond _ hL hS _
  exact contract H enc W base args ds gs before hval hW (hcond _ rfl) hL hS

theorem said : Rows.RuleNotUptoSaid :=
  OpenClaim.holds_of_cond 4 Tryz.f4 rfl rfl rfl rfl rfl rfl rfl ⟨rfl, rfl, rfl, rfl, rfl⟩ rfl rfl rfl rfl rfl (by kernel_rfl) Tryz.func4 (by kernel_rfl)
    (of_decide_eq_true (by kernel_rfl)) (by unfold Func.isWrapper; first | (rw [if_pos (by decide +kernel)]; kernel_rfl) | (rw [if_neg (by decide +kernel)]; exact ⟨rfl, rfl⟩))
    (fun os started H enc _ F => by rw [OpenClaim.pre_eq_preRow]; exact lifted os started H enc F)

theorem plain (f : FuncId) (fn : Func) (hf : Tryz.pinned.checked.prog.funcNamed "linguister/linguisterlaw1.RuleNot" = some f) (hfn : Tryz.pinned.checked.prog.funcs[f]? = some fn) :
    true = Tryz.pinned.checked.prog.looks [] ∧ ∀ (j : Nat) t, fn.params[j]? = some t → Tryz.pinned.checked.prog.wantsStandIn t = false := by
  obtain rfl : f = 4 := Option.some.inj ((show Tryz.prog.funcNamed "linguister/linguisterlaw1.RuleNot" = some 4 by kernel_rfl).symm.trans hf) |>.symm
  obtain rfl : fn = Tryz.f4 := (Option.some.inj (Tryz.func4.symm.trans hfn)).symm
  refine ⟨by kernel_rfl, fun j t ht => ?_⟩
  rw [Tryz.params4] at ht
  have hm : t ∈ [45, 24, 46] := by simpa using Array.mem_of_getElem? ht
  have hall : ([45, 24, 46].all fun u => !Tryz.prog.wantsStandIn u) = true := by kernel_rfl
  exact (show Tryz.prog.wantsStandIn t = false by simpa using List.all_eq_true.1 hall t hm)

theorem proved : Rows.RuleNotUptoCardSaid :=
  Claim7.holds_tied_plain_at .later [] _ _ _ _ said (fun _ h => by cases h) (by kernel_rfl) (fun _ h => by cases h) ruleNotUpto_row_tie rfl ⟨rfl, rfl⟩ (by kernel_rfl) rfl plain (by kernel_rfl)
#print axioms proved
end Go.Proofs.YtoglgcjdjbjlmaaGreatDoor.lawRuleNot
