/- The law LangEnglish, proved: the call returns true of every input, and turns nothing that was there. Conditions: the row's own (the listed variables hold what the program's text lays; the card ties them). -/
import Derived.Test.YtoglgcjdjbjlmaaDoorRparse
import Derived.WalkKit
import Derived.MapKept
import Derived.Test.YtoglgcjdjbjlmaaDoorRulQ
import Derived.Test.YtoglgcjdjbjlmaaDoorRulFind
import Derived.Test.YtoglgcjdjbjlmaaDoorBoxS
import Derived.Lib.Hide
import Derived.Test.YtoglgcjdjbjlmaaDoorRchk
import Derived.Test.YtoglgcjdjbjlmaaDoorErrs
import Derived.Test.YtoglgcjdjbjlmaaDoorProg
import Derived.Test.YtoglgcjdjbjlmaaDoorBox
import Derived.Test.YtoglgcjdjbjlmaaDoorDcm
import Derived.Shelf.Strings.Builder1
import Derived.Shelf.Small.Strs
import Derived.Shelf.Utf8.RuneCount
import Derived.Shelf.Strings.Search1
import Derived.Shelf.Strings.Search2
import Derived.Shelf.Strings.Search3
import Derived.Shelf.Strings.Count
import Derived.Shelf.LaysM
import Derived.Shelf.Strings.Shaped
import Derived.Shelf.Bits.Mul64
import Derived.Test.YtoglgcjdjbjlmaaDoorHeld
import Derived.Deep.LoopGhost
import Derived.BigQuiet
import Derived.Deep.QuietTactic
import Derived.Test.YtoglgcjdjbjlmaaDoorRows
import Derived.Test.YtoglgcjdjbjlmaaDoorItoa
import Derived.LaidSub
import Derived.MakeChecks
import Derived.OpenShut
import Derived.Test.YtoglgcjdjbjlmaaDoorCards
import Derived.Test.YtoglgcjdjbjlmaaDoorTie
import Derived.Deep.DeepHandedRow
import Derived.Deep.DeepWitnessRowRef
import Derived.Stop.Joined
import Derived.Lay
import Derived.Test.YtoglgcjdjbjlmaaDoorFrame
namespace Go.Proofs.YtoglgcjdjbjlmaaDoor
open Go.RowKit

/-- what the rules' functions want of the start -/
structure TR (w : World) : Prop where
  p : PowW w
  n : NumW w
  m : MaxW w
theorem TR.below {w w' : World} (h : TR w) (hb : Below w.heap.size w w') : TR w' := ⟨h.p.below hb, h.n.below hb, h.m.below hb⟩

set_option maxRecDepth 100000 in
set_option maxHeartbeats 1000000 in
theorem ruled_any (w : World) (hM : MaxW w) (hN : NumW w) (hp : PowW w) : Calls Tryd.prog 9 #[] w fun e w' => e = .returned (.bool true) ∧ Below w.heap.size w w' := by
  have CP := Lib.hid (rparse_any Rul.firstS w hM hN hp (by decide))
  have e1 : Rul.firstS = [105, 32, 61, 32, 49, 32, 97, 110, 100, 32, 118, 32, 61, 32, 48] := rfl
  have HF := Lib.hid Rul.first_parse
  rw [e1] at CP HF
  clear hM hN hp e1
  go_enter Tryd.func9, Tryd.ntmps9
  go_wp2_with fail
  refine CP.out.mono ?_
  rintro e w2 ⟨v, f, rfl, hP, hb⟩
  rcases hP with ⟨_, rfl, a, n, c, rfl, hs⟩ | ⟨h, _⟩
  · rw [HF.out.2] at hs
    rcases hs with ⟨e, _⟩ | ⟨b, off, cap, e1, _, _, _, hc⟩
    · cases e
    injection e1 with e1 e2 e3
    subst e1 e2 e3
    obtain ⟨pa, pn, pc, p0, ps⟩ := hc 0 _ rfl
    rw [Nat.zero_mul, Nat.add_zero] at p0
    obtain ⟨A1, cap1, e1, _⟩ := ps.spread
    injection e1 with e1 e2 e3
    subst e1 e2 e3
    have W2 := Lib.hid hb
    clear hb hc ps CP
    simp only [Rul.firstR, List.length_cons, List.length_nil, Nat.reduceAdd] at *
    go_wp2_with fail
    go_ret
    exact ⟨rfl, W2.out⟩
  · rw [HF.out.1] at h; cases h
end Go.Proofs.YtoglgcjdjbjlmaaDoor
namespace Go.Proofs.YtoglgcjdjbjlmaaDoor
open Go.RowKit Go.MapKept

theorem mapb_new {P : Program} (T K E : TypeId) (hT : P.underlying T = some (.map K E)) (hK : P.underlying K = some (.int .u8)) (es : Array MapEntry) (c : Nat) (k : Int) (v : Value)
    (hf : Instr.findNow (.int .u8) (.int .u8 k) es.toList 0 = some none) (w : World) :
    (Instr.mapUpdate T (.map (some w.heap.size)) (.int .u8 k) v).run P (w.alloc (.map es c)) = .ok () (w.alloc (.map (es.push { key := .int .u8 k, val := v, born := c }) (c + 1))) := by
  have hb : (w.alloc (.map es c)).heap[w.heap.size]? = some (.map es c) := by show (w.heap.push _)[w.heap.size]? = _; simp
  have e : ({ (w.alloc (.map es c)) with heap := (w.alloc (.map es c)).heap.setIfInBounds w.heap.size (.map (es.push { key := .int .u8 k, val := v, born := c }) (c + 1)) } : World) = w.alloc (.map (es.push { key := .int .u8 k, val := v, born := c }) (c + 1)) := by
    show ({ w with heap := (w.heap.push _).setIfInBounds w.heap.size _ } : World) = { w with heap := w.heap.push _ }
    congr 1
    apply Array.ext_getElem?
    intro i
    rw [Array.getElem?_setIfInBounds]
    simp only [Array.getElem?_push, Array.size_push]
    by_cases h : w.heap.size = i
    · subst h; simp
    · simp [h, Ne.symm h]
  rw [← e]
  simp [Instr.mapUpdate, run_underlying hT, MapKept.run_getObj_map hb, run_checkKey hK (show IsKey (.int .u8) (.int .u8 k) from rfl), run_findKey hK hf, MapKept.run_setObj_map _ hb, Result.andThen]
theorem mapb_look {P : Program} (T K E : TypeId) (hT : P.underlying T = some (.map K E)) (hK : P.underlying K = some (.int .u8)) (es : Array MapEntry) (c r i : Nat) (k : Int) (v : Value) (w : World)
    (hb : w.heap[r]? = some (.map es c)) (hf : Instr.findNow (.int .u8) (.int .u8 k) es.toList 0 = some (some (i, v))) :
    (Instr.lookup T (.map (some r)) (.int .u8 k) false).run P w = .ok v w := by
  simp [Instr.lookup, run_underlying hT, MapKept.run_getObj_map hb, run_checkKey hK (show IsKey (.int .u8) (.int .u8 k) from rfl), run_findKey hK hf, Result.andThen]
theorem top_alloc' (w : World) (o : Obj) (n : Nat) (h : n = w.heap.size) : (w.alloc o).heap[n]? = some o := by subst h; show (w.heap.push _)[w.heap.size]? = _; simp
end Go.Proofs.YtoglgcjdjbjlmaaDoor
namespace Go.Proofs.YtoglgcjdjbjlmaaDoor
open Go.RowKit

set_option maxRecDepth 100000 in
set_option maxHeartbeats 1000000 in
theorem holds1_any (x : Int) (p : Int × Int) (q : Nat) (w : World) (h : w.cell? ⟨q, 0, none⟩ = some (.int .i64 x)) :
    Calls Tryd.prog 49 (#[.agg #[.int .i64 p.1, .int .i64 p.2]] ++ #[.pointer (some ⟨q, 0, none⟩)]) w fun e w' => e = .returned (.bool (Rul.rngHas x p)) ∧ Below w.heap.size w w' := by
  obtain ⟨a, b⟩ := p
  dsimp only
  have HR := Lib.hid (show Rul.rngHas x (a, b) = (decide (a ≤ x) && decide (x ≤ b)) from rfl)
  have hq := World.block_lt_of_cell? w _ h
  generalize Rul.rngHas x (a, b) = R at *
  show Calls _ _ #[_, _] _ _
  by_cases h0 : a ≤ x
  · have d0 : decide (a ≤ x) = true := dec_yes h0
    have d0' : decide (x ≥ a) = true := dec_yes h0
    by_cases h1 : x ≤ b
    · have d1 : decide (x ≤ b) = true := dec_yes h1
      obtain rfl : R = true := by rw [HR.out, d0, d1]; rfl
      go_enter Tryd.func49, Tryd.ntmps49
      go_wp2_with fail
      go_ret
      exact ⟨ret_bool (by simp), blw_alloc _ _⟩
    · have d1 : decide (x ≤ b) = false := dec_no h1
      obtain rfl : R = false := by rw [HR.out, d0, d1]; rfl
      go_enter Tryd.func49, Tryd.ntmps49
      go_wp2_with fail
      go_ret
      exact ⟨ret_bool (by simp), blw_alloc _ _⟩
  · have d0 : decide (a ≤ x) = false := dec_no h0
    obtain rfl : R = false := by rw [HR.out, d0]; rfl
    have d0' : decide (x ≥ a) = false := dec_no h0
    go_enter Tryd.func49, Tryd.ntmps49
    go_wp2_with fail
    go_ret
    exact ⟨ret_bool (by simp), blw_alloc _ _⟩
theorem holds1_at (args : Array Value) (w : World) : (callFunc 49 args).run Tryd.prog w = .ok (.enter 49 args) w := enters_of Tryd.func49 (by kernel_rfl) rfl args w

/-- the map's first entries -/
def hm0 (_ : Rul.Op5) : Array MapEntry := #[]
def hm1 (o : Rul.Op5) : Array MapEntry := (hm0 o).push { key := .int .u8 110, val := .int .i64 o.i, born := 0 }
def hm2 (o : Rul.Op5) : Array MapEntry := (hm1 o).push { key := .int .u8 105, val := .int .i64 o.i, born := 1 }
def hm3 (o : Rul.Op5) : Array MapEntry := (hm2 o).push { key := .int .u8 118, val := .int .i64 o.v, born := 2 }
def hm4 (o : Rul.Op5) : Array MapEntry := (hm3 o).push { key := .int .u8 119, val := .int .i64 o.w, born := 3 }
def hm5 (o : Rul.Op5) : Array MapEntry := (hm4 o).push { key := .int .u8 102, val := .int .i64 o.f, born := 4 }
def hm6 (o : Rul.Op5) : Array MapEntry := (hm5 o).push { key := .int .u8 116, val := .int .i64 o.t, born := 5 }
theorem opv_of {c : UInt8} (h : Rul.opOk c = true) (o : Rul.Op5) : ∃ i, Instr.findNow (.int .u8) (.int .u8 (c.toNat : Int)) (hm6 o).toList 0 = some (some (i, .int .i64 (Rul.opv c o))) := by
  rcases Rul.op_cases h with rfl | rfl | rfl | rfl | rfl | rfl
  · exact ⟨0, by kernel_rfl⟩
  · exact ⟨1, by kernel_rfl⟩
  · exact ⟨2, by kernel_rfl⟩
  · exact ⟨3, by kernel_rfl⟩
  · exact ⟨4, by kernel_rfl⟩
  · exact ⟨5, by kernel_rfl⟩

set_option maxRecDepth 100000 in
set_option maxHeartbeats 4000000 in
theorem holds_any (r : Rul.Rl) (o : Rul.Op5) (a : Option Addr) (n c : Nat) (w : World) (hs : SlAt 2 RngC w (.slice a n c) r.rs) (hok : Rul.opOk r.op = true) :
    Calls Tryd.prog 34 #[.agg #[.int .u8 (r.op.toNat : Int), .int .i64 r.mod, .bool r.no, .slice a n c], .agg #[.int .i64 o.i, .int .i64 o.v, .int .i64 o.w, .int .i64 o.f, .int .i64 o.t]] w fun e w' => e = .returned (.bool (Rul.relH r o)) ∧ Below w.heap.size w w' := by
  obtain ⟨op, mod, no, rs⟩ := r
  dsimp only at *
  obtain ⟨wA, hwA⟩ : ∃ wA, (w.alloc (.cells #[.int .u8 (op.toNat : Int), .int .i64 mod, .bool no, .slice a n c] 60)).alloc (.cells #[.int .i64 o.i, .int .i64 o.v, .int .i64 o.w, .int .i64 o.f, .int .i64 o.t] 33) = wA := ⟨_, rfl⟩
  have zA : wA.heap.size = w.heap.size + 2 := by rw [← hwA]; simp
  have BR := Lib.hid ((Boxed.made w #[.int .u8 (op.toNat : Int), .int .i64 mod, .bool no, .slice a n c] 60).alloc (.cells #[.int .i64 o.i, .int .i64 o.v, .int .i64 o.w, .int .i64 o.f, .int .i64 o.t] 33))
  have BO := Lib.hid (Boxed.made (w.alloc (.cells #[.int .u8 (op.toNat : Int), .int .i64 mod, .bool no, .slice a n c] 60)) #[.int .i64 o.i, .int .i64 o.v, .int .i64 o.w, .int .i64 o.f, .int .i64 o.t] 33)
  have WA := Lib.hid ((blw_alloc w (.cells #[.int .u8 (op.toNat : Int), .int .i64 mod, .bool no, .slice a n c] 60)).alloc (by simp) (.cells #[.int .i64 o.i, .int .i64 o.v, .int .i64 o.w, .int .i64 o.f, .int .i64 o.t] 33))
  simp only [World.size_alloc] at BO
  rw [hwA] at BR BO WA
  have hmm : ∀ w, (Instr.makeMap 91 none).run Tryd.prog w = .ok (.map (some w.heap.size)) (w.alloc (.map (hm0 o) 0)) := fun w => @run_makeMap Tryd.prog 91 w
  have I0 := mapb_new (P := Tryd.prog) 91 5 3 Tryd.underlying91 Tryd.underlying5 (hm0 o) 0 110 (.int .i64 o.i) (by kernel_rfl) wA
  change (Instr.mapUpdate 91 (.map (some wA.heap.size)) (.int .u8 110) (.int .i64 o.i)).run Tryd.prog (wA.alloc (.map (hm0 o) 0)) = .ok () (wA.alloc (.map (hm1 o) 1)) at I0
  rw [zA] at I0
  have I1 := mapb_new (P := Tryd.prog) 91 5 3 Tryd.underlying91 Tryd.underlying5 (hm1 o) 1 105 (.int .i64 o.i) (by kernel_rfl) wA
  change (Instr.mapUpdate 91 (.map (some wA.heap.size)) (.int .u8 105) (.int .i64 o.i)).run Tryd.prog (wA.alloc (.map (hm1 o) 1)) = .ok () (wA.alloc (.map (hm2 o) 2)) at I1
  rw [zA] at I1
  have I2 := mapb_new (P := Tryd.prog) 91 5 3 Tryd.underlying91 Tryd.underlying5 (hm2 o) 2 118 (.int .i64 o.v) (by kernel_rfl) wA
  change (Instr.mapUpdate 91 (.map (some wA.heap.size)) (.int .u8 118) (.int .i64 o.v)).run Tryd.prog (wA.alloc (.map (hm2 o) 2)) = .ok () (wA.alloc (.map (hm3 o) 3)) at I2
  rw [zA] at I2
  have I3 := mapb_new (P := Tryd.prog) 91 5 3 Tryd.underlying91 Tryd.underlying5 (hm3 o) 3 119 (.int .i64 o.w) (by kernel_rfl) wA
  change (Instr.mapUpdate 91 (.map (some wA.heap.size)) (.int .u8 119) (.int .i64 o.w)).run Tryd.prog (wA.alloc (.map (hm3 o) 3)) = .ok () (wA.alloc (.map (hm4 o) 4)) at I3
  rw [zA] at I3
  have I4 := mapb_new (P := Tryd.prog) 91 5 3 Tryd.underlying91 Tryd.underlying5 (hm4 o) 4 102 (.int .i64 o.f) (by kernel_rfl) wA
  change (Instr.mapUpdate 91 (.map (some wA.heap.size)) (.int .u8 102) (.int .i64 o.f)).run Tryd.prog (wA.alloc (.map (hm4 o) 4)) = .ok () (wA.alloc (.map (hm5 o) 5)) at I4
  rw [zA] at I4
  have I5 := mapb_new (P := Tryd.prog) 91 5 3 Tryd.underlying91 Tryd.underlying5 (hm5 o) 5 116 (.int .i64 o.t) (by kernel_rfl) wA
  change (Instr.mapUpdate 91 (.map (some wA.heap.size)) (.int .u8 116) (.int .i64 o.t)).run Tryd.prog (wA.alloc (.map (hm5 o) 5)) = .ok () (wA.alloc (.map (hm6 o) 6)) at I5
  rw [zA] at I5
  obtain ⟨ix, hix⟩ := opv_of hok o
  have LK := mapb_look (P := Tryd.prog) 91 5 3 Tryd.underlying91 Tryd.underlying5 (hm6 o) 6 (w.heap.size + 2) ix (op.toNat : Int) (.int .i64 (Rul.opv op o)) (wA.alloc (.map (hm6 o) 6)) (top_alloc' wA _ _ zA.symm) hix
  clear hix
  have HX := Lib.hid (show Rul.opx ⟨op, mod, no, rs⟩ o = if mod = 0 then Rul.opv op o else (Rul.opv op o).tmod mod from rfl)
  have HR := Lib.hid (show Rul.relH ⟨op, mod, no, rs⟩ o = ((rs.any (Rul.rngHas (Rul.opx ⟨op, mod, no, rs⟩ o)) && (!decide (op = 110) || decide (o.t = 0))) != no) from rfl)
  generalize Rul.opx ⟨op, mod, no, rs⟩ o = X at *
  generalize Rul.relH ⟨op, mod, no, rs⟩ o = R at *
  have HA := Lib.hid fun (w' : World) (hb : Below w.heap.size w w') (q : Nat) (hq : w'.cell? ⟨q, 0, none⟩ = some (.int .i64 X)) => has_rng rs (Rul.rngHas X) 49 #[.pointer (some ⟨q, 0, none⟩)] holds1_at (.slice a n c) w' (hs.rngs_below hb) (Lib.hid fun x _ wx hx => holds1_any X x q wx (cell_keep hq hx))
  have ho110 : decide (op = 110) = decide ((op.toNat : Int) = 110) := by
    by_cases h : op = 110
    · subst h; rfl
    · rw [dec_no h, dec_no (fun e => h (by apply UInt8.toNat_inj.1; show op.toNat = 110; omega))]
  rw [ho110] at HR
  clear ho110
  generalize Rul.opv op o = Y at *
  generalize rs.any (Rul.rngHas X) = I at *
  generalize (op.toNat : Int) = opI at *
  clear hs hok
  subst hwA
  by_cases hm : mod = 0
  · subst hm
    obtain rfl : X = Y := by rw [HX.out, if_pos rfl]
    clear HX
    go_enter Tryd.func34, Tryd.ntmps34
    go_wp2_with fail
    refine (HA.out _ ((WA.out.alloc (by simp only [World.size_alloc]; omega) (.map (hm6 o) 6)).alloc (by simp only [World.size_alloc]; omega) (.cells #[.int .i64 X] 3)) _ (by simp [go_sem])).mono ?_
    rintro e w2 ⟨rfl, hb⟩
    have BR2 := Lib.hid (((BR.out.alloc (.map (hm6 o) 6)).alloc (.cells #[.int .i64 X] 3)).below hb)
    have BO2 := Lib.hid (((BO.out.alloc (.map (hm6 o) 6)).alloc (.cells #[.int .i64 X] 3)).below hb)
    have W2 := Lib.hid (blw_trans ((WA.out.alloc (by simp only [World.size_alloc]; omega) (.map (hm6 o) 6)).alloc (by simp only [World.size_alloc]; omega) (.cells #[.int .i64 X] 3)) hb)
    have k0 := BR2.out.cell 0 _ rfl
    have k2 := BR2.out.cell 2 _ rfl
    have k4 := BO2.out.cell 4 _ rfl
    clear hb HA BR BO WA LK hmm I0 I1 I2 I3 I4 I5
    generalize o.t = ot at *
    cases I with
    | false =>
      go_wp2_with fail
      go_ret
      exact ⟨ret_bool (by rw [HR.out]; simp), W2.out⟩
    | true =>
      by_cases h1 : opI = 110
      · have d1 : (opI == 110) = true := beq_yes h1
        by_cases h2 : ot = 0
        · have d2 : (ot == 0) = true := beq_yes h2
          have HF := Lib.hid (show R = (true != no) by rw [HR.out, dec_yes h1, dec_yes h2]; rfl)
          clear HR
          go_wp2_with fail
          go_ret
          exact ⟨ret_bool (by rw [HF.out]; simp), W2.out⟩
        · have d2 : (ot == 0) = false := beq_no h2
          have HF := Lib.hid (show R = (false != no) by rw [HR.out, dec_yes h1, dec_no h2]; rfl)
          clear HR
          go_wp2_with fail
          go_ret
          exact ⟨ret_bool (by rw [HF.out]; simp), W2.out⟩
      · have d1 : (opI == 110) = false := beq_no h1
        have HF := Lib.hid (show R = (true != no) by rw [HR.out, dec_no h1]; simp)
        clear HR
        go_wp2_with fail
        go_ret
        exact ⟨ret_bool (by rw [HF.out]; simp), W2.out⟩
  · have HXE := HX.out
    rw [if_neg hm] at HXE
    have hm0 : (mod == 0) = false := beq_no hm
    clear HX
    go_enter Tryd.func34, Tryd.ntmps34
    go_wp2_with fail
    rw [← HXE]
    clear HXE hm hm0
    refine (HA.out _ ((WA.out.alloc (by simp only [World.size_alloc]; omega) (.map (hm6 o) 6)).alloc (by simp only [World.size_alloc]; omega) (.cells #[.int .i64 X] 3)) _ (by simp [go_sem])).mono ?_
    rintro e w2 ⟨rfl, hb⟩
    have BR2 := Lib.hid (((BR.out.alloc (.map (hm6 o) 6)).alloc (.cells #[.int .i64 X] 3)).below hb)
    have BO2 := Lib.hid (((BO.out.alloc (.map (hm6 o) 6)).alloc (.cells #[.int .i64 X] 3)).below hb)
    have W2 := Lib.hid (blw_trans ((WA.out.alloc (by simp only [World.size_alloc]; omega) (.map (hm6 o) 6)).alloc (by simp only [World.size_alloc]; omega) (.cells #[.int .i64 X] 3)) hb)
    have k0 := BR2.out.cell 0 _ rfl
    have k2 := BR2.out.cell 2 _ rfl
    have k4 := BO2.out.cell 4 _ rfl
    clear hb HA BR BO WA LK hmm I0 I1 I2 I3 I4 I5
    generalize o.t = ot at *
    cases I with
    | false =>
      go_wp2_with fail
      go_ret
      exact ⟨ret_bool (by rw [HR.out]; simp), W2.out⟩
    | true =>
      by_cases h1 : opI = 110
      · have d1 : (opI == 110) = true := beq_yes h1
        by_cases h2 : ot = 0
        · have d2 : (ot == 0) = true := beq_yes h2
          have HF := Lib.hid (show R = (true != no) by rw [HR.out, dec_yes h1, dec_yes h2]; rfl)
          clear HR
          go_wp2_with fail
          go_ret
          exact ⟨ret_bool (by rw [HF.out]; simp), W2.out⟩
        · have d2 : (ot == 0) = false := beq_no h2
          have HF := Lib.hid (show R = (false != no) by rw [HR.out, dec_yes h1, dec_no h2]; rfl)
          clear HR
          go_wp2_with fail
          go_ret
          exact ⟨ret_bool (by rw [HF.out]; simp), W2.out⟩
      · have d1 : (opI == 110) = false := beq_no h1
        have HF := Lib.hid (show R = (true != no) by rw [HR.out, dec_no h1]; simp)
        clear HR
        go_wp2_with fail
        go_ret
        exact ⟨ret_bool (by rw [HF.out]; simp), W2.out⟩
end Go.Proofs.YtoglgcjdjbjlmaaDoor
namespace Go.Proofs.YtoglgcjdjbjlmaaDoor
open Go.RowKit

/-- the operands as a box -/
def opsC (o : Rul.Op5) : Array Value := #[.int .i64 o.i, .int .i64 o.v, .int .i64 o.w, .int .i64 o.f, .int .i64 o.t]

set_option maxRecDepth 100000 in
set_option maxHeartbeats 1000000 in
theorem holds11_any (r : Rul.Rl) (o : Rul.Op5) (q : Nat) (a : Option Addr) (n c : Nat) (w : World) (hs : SlAt 2 RngC w (.slice a n c) r.rs) (hok : Rul.opOk r.op = true) (hq : Boxed w q (opsC o)) :
    Calls Tryd.prog 33 (#[.agg #[.int .u8 (r.op.toNat : Int), .int .i64 r.mod, .bool r.no, .slice a n c]] ++ #[.pointer (some ⟨q, 0, none⟩)]) w fun e w' => e = .returned (.bool (!Rul.relH r o)) ∧ Below w.heap.size w w' := by
  have CH := Lib.hid fun (wx : World) (hb : Below w.heap.size w wx) => holds_any r o a n c wx (hs.rngs_below hb) hok
  obtain ⟨op, mod, no, rs⟩ := r
  dsimp only at *
  generalize Rul.relH ⟨op, mod, no, rs⟩ o = R at *
  generalize (op.toNat : Int) = opI at *
  have k0 := hq.cell 0 _ rfl
  have k1 := hq.cell 1 _ rfl
  have k2 := hq.cell 2 _ rfl
  have k3 := hq.cell 3 _ rfl
  have k4 := hq.cell 4 _ rfl
  have hl := hq.lt
  obtain ⟨i, v, w5, f, t⟩ := o
  dsimp only at *
  clear hs hok hq
  show Calls _ _ #[_, _] _ _
  go_enter Tryd.func33, Tryd.ntmps33
  go_wp2_with fail
  refine (CH.out _ (blw_alloc w (.cells #[.int .u8 opI, .int .i64 mod, .bool no, .slice a n c] 60))).mono ?_
  rintro e w2 ⟨rfl, hb⟩
  have W2 := Lib.hid (blw_trans (blw_alloc w (.cells #[.int .u8 opI, .int .i64 mod, .bool no, .slice a n c] 60)) hb)
  clear hb CH
  go_wp2_with fail
  go_ret
  exact ⟨rfl, W2.out⟩
theorem holds11_at (args : Array Value) (w : World) : (callFunc 33 args).run Tryd.prog w = .ok (.enter 33 args) w := enters_of Tryd.func33 (by kernel_rfl) rfl args w

theorem any_nots {α : Type} {p : α → Bool} {l : List α} : (!(l.any fun x => !p x)) = l.all p := by
  induction l with
  | nil => rfl
  | cons x r ih => rw [List.any_cons, List.all_cons, ← ih, Bool.not_or, Bool.not_not]

set_option maxRecDepth 100000 in
set_option maxHeartbeats 1000000 in
theorem holdsP_any (l : List Rul.Rl) (o : Rul.Op5) (q : Nat) (a : Option Addr) (n c : Nat) (w : World) (hs : SlAt 4 RelC w (.slice a n c) l) (hok : ∀ x ∈ l, Rul.opOk x.op = true) (hq : Boxed w q (opsC o)) :
    Calls Tryd.prog 31 (#[.slice a n c] ++ #[.pointer (some ⟨q, 0, none⟩)]) w fun e w' => e = .returned (.bool (Rul.partH l o)) ∧ Below w.heap.size w w' := by
  have HA := Lib.hid (has_rel l (fun x => !Rul.relH x o) 33 #[.pointer (some ⟨q, 0, none⟩)] holds11_at (.slice a n c) w hs (Lib.hid fun x hx za zn zc wx hb hr => holds11_any x o q za zn zc wx hr (hok x hx) (hq.below hb)))
  have HR := Lib.hid (show (!(l.any fun x => !Rul.relH x o)) = Rul.partH l o from any_nots)
  generalize (l.any fun x => !Rul.relH x o) = I at *
  generalize Rul.partH l o = R at *
  have hl := hq.lt
  clear hs hok hq
  show Calls _ _ #[_, _] _ _
  go_enter Tryd.func31, Tryd.ntmps31
  go_wp2_with fail
  refine HA.out.mono ?_
  rintro e w2 ⟨rfl, hb⟩
  go_wp2_with fail
  go_ret
  exact ⟨ret_bool HR.out, hb⟩
theorem holdsP_at (args : Array Value) (w : World) : (callFunc 31 args).run Tryd.prog w = .ok (.enter 31 args) w := enters_of Tryd.func31 (by kernel_rfl) rfl args w

set_option maxRecDepth 100000 in
set_option maxHeartbeats 1000000 in
theorem rholds_no (r : Rul.Rule) (A : Option Addr) (n c : Nat) (i v w5 f t : Int) (w : World) (hr : SlAt 1 PartC w (.slice A n c) r) (hl : r.length ≤ 1000000000) (hc : Rul.count r ≤ 1000000000) (hrs : ∀ l ∈ r, ∀ x ∈ l, x.rs.length ≤ 4000000001) (hE : Rul.ruleE r ≠ 0) :
    Calls Tryd.prog 13 #[.slice A n c, .agg #[.int .i64 i, .int .i64 v, .int .i64 w5, .int .i64 f, .int .i64 t]] w fun e w' => e = .returned (.tuple #[.bool false, errV (Rul.ruleE r)]) ∧ Below w.heap.size w w' := by
  have CC := Lib.hid fun (wx : World) (hb : Below w.heap.size w wx) => check_any r A n c wx (hr.rule_below hb) hl hc hrs
  have e1 : errR (Rul.ruleE r) = errV (Rul.ruleE r) := if_neg hE
  rw [e1] at CC
  generalize Rul.ruleE r = E at *
  clear e1 hr hrs hE
  have W1 := Lib.hid (blw_alloc w (.cells #[.int .i64 i, .int .i64 v, .int .i64 w5, .int .i64 f, .int .i64 t] 33))
  go_enter Tryd.func13, Tryd.ntmps13
  go_wp2_with fail
  refine (CC.out _ W1.out).mono ?_
  rintro e w2 ⟨rfl, hb⟩
  have W2 := Lib.hid (blw_trans W1.out hb)
  clear hb
  go_wp2_with fail
  go_ret2
  exact ⟨rfl, W2.out⟩

set_option maxRecDepth 100000 in
set_option maxHeartbeats 1000000 in
theorem rholds_yes (r : Rul.Rule) (A : Option Addr) (n c : Nat) (o : Rul.Op5) (w : World) (hr : SlAt 1 PartC w (.slice A n c) r) (hl : r.length ≤ 1000000000) (hc : Rul.count r ≤ 1000000000) (hrs : ∀ l ∈ r, ∀ x ∈ l, x.rs.length ≤ 4000000001) (hE : Rul.ruleE r = 0) :
    Calls Tryd.prog 13 #[.slice A n c, .agg #[.int .i64 o.i, .int .i64 o.v, .int .i64 o.w, .int .i64 o.f, .int .i64 o.t]] w fun e w' => e = .returned (.tuple #[.bool (Rul.ruleH r o), .nilIface]) ∧ Below w.heap.size w w' := by
  have CC := Lib.hid fun (wx : World) (hb : Below w.heap.size w wx) => check_any r A n c wx (hr.rule_below hb) hl hc hrs
  have e1 : errR (Rul.ruleE r) = .nilIface := if_pos hE
  rw [e1] at CC
  have hop : ∀ l ∈ r, ∀ x ∈ l, Rul.opOk x.op = true := fun l hlr x hx => Rul.op_of ((Rul.part_parts ((Rul.shape_parts (Rul.ruleE_zero.1 hE).1).2 l hlr)).2 x hx)
  have HA := Lib.hid fun (wx : World) (hb : Below w.heap.size w wx) (hq : Boxed wx w.heap.size (opsC o)) => has_part r (Rul.partH · o) 31 #[.pointer (some ⟨w.heap.size, 0, none⟩)] holdsP_at (.slice A n c) wx (hr.rule_below hb)
    (Lib.hid fun l hlr za zn zc wy hy hs => holdsP_any l o w.heap.size za zn zc wy hs (hop l hlr) (hq.below hy))
  have HR := Lib.hid (show r.any (Rul.partH · o) = Rul.ruleH r o from rfl)
  generalize Rul.ruleH r o = R at *
  generalize r.any (Rul.partH · o) = I at *
  obtain rfl : I = R := HR.out
  clear e1 hr hrs hE hop HR
  have W1 := Lib.hid (blw_alloc w (.cells #[.int .i64 o.i, .int .i64 o.v, .int .i64 o.w, .int .i64 o.f, .int .i64 o.t] 33))
  have B1 := Lib.hid (Boxed.made w #[.int .i64 o.i, .int .i64 o.v, .int .i64 o.w, .int .i64 o.f, .int .i64 o.t] 33)
  change Hid (Boxed _ _ (opsC o)) at B1
  go_enter Tryd.func13, Tryd.ntmps13
  go_wp2_with fail
  refine (CC.out _ W1.out).mono ?_
  rintro e w2 ⟨rfl, hb⟩
  have W2 := Lib.hid (blw_trans W1.out hb)
  have B2 := Lib.hid (B1.out.below hb)
  clear hb
  go_wp2_with fail
  refine (HA.out _ W2.out B2.out).mono ?_
  rintro e w3 ⟨rfl, hb⟩
  have W3 := Lib.hid (blw_trans W2.out hb)
  clear hb
  go_wp2_with fail
  go_ret2
  exact ⟨rfl, W3.out⟩
end Go.Proofs.YtoglgcjdjbjlmaaDoor
namespace Go.Proofs.YtoglgcjdjbjlmaaDoor
open Go.RowKit
open Dcm (P10 okD nrm)


set_option maxHeartbeats 400000 in
theorem dchk_yes (c s : Int) (w : World) (h : okD c s) :
    Calls Tryd.prog 19 #[.agg #[.int .i64 c, .int .i64 s]] w fun e w' => e = .returned .nilIface ∧ Below w.heap.size w w' := by
  obtain ⟨h1, h2, h3, h4⟩ := h
  have d1 : decide (s < 0) = false := dec_no (by omega)
  have d2 : decide (9 < s) = false := dec_no (by omega)
  have d3 : decide (c < -1000000000000000) = false := dec_no (by omega)
  have d4 : decide (1000000000000000 < c) = false := dec_no (by omega)
  go_enter Tryd.func19, Tryd.ntmps19
  go_wp2
  go_ret
  exact ⟨rfl, blw_alloc _ _⟩
set_option maxHeartbeats 1000000 in
theorem dchk_no (c s : Int) (w : World) (h : ¬ okD c s) :
    Calls Tryd.prog 19 #[.agg #[.int .i64 c, .int .i64 s]] w fun e w' => e = .returned (errV 1) ∧ Below w.heap.size w w' := by
  by_cases h1 : s < 0
  · go_enter Tryd.func19, Tryd.ntmps19
    go_wp2
    go_ret
    exact ⟨rfl, blw_alloc _ _⟩
  by_cases h2 : 9 < s
  · go_enter Tryd.func19, Tryd.ntmps19
    go_wp2
    go_ret
    exact ⟨rfl, blw_alloc _ _⟩
  by_cases h3 : c < -1000000000000000
  · go_enter Tryd.func19, Tryd.ntmps19
    go_wp2
    go_ret
    exact ⟨rfl, blw_alloc _ _⟩
  by_cases h4 : 1000000000000000 < c
  · go_enter Tryd.func19, Tryd.ntmps19
    go_wp2
    go_ret
    exact ⟨rfl, blw_alloc _ _⟩
  exact absurd ⟨by omega, by omega, by omega, by omega⟩ h

set_option maxHeartbeats 400000 in
theorem ten_any (n : Int) (w : World) (h0 : 0 ≤ n) (h1 : n ≤ 9) :
    Calls Tryd.prog 21 #[.int .i64 n] w fun e w' => e = .returned (.int .i64 (P10 n)) ∧ w = w' := by
  go_enter Tryd.func21, Tryd.ntmps21
  go_wp2
  go_loop [3, 4] (fun t i => ∃ k : Int, 0 ≤ k ∧ k ≤ n ∧ i = .int .i64 k ∧ t = .int .i64 (P10 k)) (fun _ i => (n - intOf i).toNat)
  case atStart => exact ⟨0, by omega, by omega, rfl, rfl⟩
  case round =>
    obtain ⟨k, k0, k1, rfl, rfl⟩ := hrel
    have hb := Dcm.P10_bd k
    by_cases hlt : k < n
    · have hs := Lib.hid (Dcm.P10_succ k k0 (by omega))
      go_wp2
      go_round
      case rel => exact ⟨k + 1, by omega, by omega, by go_num, by rw [hs.out]⟩
      case measure => simp [intOf]; omega
    · obtain rfl : k = n := by omega
      go_wp2
      go_ret
      exact ⟨rfl, rfl⟩
set_option maxHeartbeats 400000 in
theorem size_any (n : Int) (w : World) (h0 : -9223372036854775807 ≤ n) (h1 : n ≤ 9223372036854775807) :
    Calls Tryd.prog 20 #[.int .i64 n] w fun e w' => e = .returned (.int .i64 (Dcm.mag n)) ∧ w = w' := by
  by_cases h : n < 0
  · have e : Dcm.mag n = -n := by unfold Dcm.mag; rw [if_pos h]
    have E := Lib.hid e
    clear e
    go_enter Tryd.func20, Tryd.ntmps20
    go_wp2
    go_ret
    exact ⟨ret_int (by rw [E.out]), rfl⟩
  · have e : Dcm.mag n = n := by unfold Dcm.mag; rw [if_neg h]
    have E := Lib.hid e
    clear e
    go_enter Tryd.func20, Tryd.ntmps20
    go_wp2
    go_ret
    exact ⟨ret_int (by rw [E.out]), rfl⟩

end Go.Proofs.YtoglgcjdjbjlmaaDoor
namespace Go.Proofs.YtoglgcjdjbjlmaaDoor
open Go.RowKit
open Dcm (P10 okD nrm)

set_option maxRecDepth 100000 in
set_option maxHeartbeats 1000000 in
theorem ops_no (c s : Int) (w : World) (h : ¬ okD c s) :
    Calls Tryd.prog 15 #[.agg #[.int .i64 c, .int .i64 s]] w fun e w' => e = .returned (.tuple #[.agg #[.int .i64 0, .int .i64 0, .int .i64 0, .int .i64 0, .int .i64 0], errV 1]) ∧ Below w.heap.size w w' := by
  have C0 := Lib.hid fun w => dchk_no c s w h
  clear h
  go_enter Tryd.func15, Tryd.ntmps15
  go_wp2_with fail
  refine (C0.out _).mono ?_
  rintro e w1 ⟨rfl, hb⟩
  have Z1 := Boxed.at (q := w.heap.size + 1) (Boxed.below (Boxed.made _ #[.int .i64 0, .int .i64 0, .int .i64 0, .int .i64 0, .int .i64 0] 33) hb) (by simp)
  have W1 := Lib.hid (blw_trans (blw_trans (blw_alloc w _) (blw_alloc _ _)) hb)
  have k0 := Z1.cell 0 _ rfl
  have k1 := Z1.cell 1 _ rfl
  have k2 := Z1.cell 2 _ rfl
  have k3 := Z1.cell 3 _ rfl
  have k4 := Z1.cell 4 _ rfl
  have f0 := Z1.free 0 (by simp)
  have f1 := Z1.free 1 (by simp)
  have f2 := Z1.free 2 (by simp)
  have f3 := Z1.free 3 (by simp)
  have f4 := Z1.free 4 (by simp)
  clear hb C0 Z1
  go_wp2
  refine bodyPost_ret (v := .tuple #[.agg #[.int .i64 0, .int .i64 0, .int .i64 0, .int .i64 0, .int .i64 0], errV 1]) (by simp [results, Tryd.results15, go_sem, k0, k1, k2, k3, k4]) rfl ⟨rfl, ?_⟩
  repeat (first | exact W1.out | refine Below.setCell ?_ (by simp) _)

set_option maxRecDepth 100000 in
set_option maxHeartbeats 1000000 in
theorem ops_yes (c s : Int) (w : World) (h : okD c s) :
    Calls Tryd.prog 15 #[.agg #[.int .i64 c, .int .i64 s]] w fun e w' => e = .returned (.tuple #[.agg #[.int .i64 (Dcm.mag c / P10 s), .int .i64 s, .int .i64 ((Dcm.strip s.toNat (Dcm.mag c % P10 s)).1 : Int), .int .i64 (Dcm.mag c % P10 s), .int .i64 (Dcm.strip s.toNat (Dcm.mag c % P10 s)).2], .nilIface]) ∧ Below w.heap.size w w' := by
  have C0 := Lib.hid fun w => dchk_yes c s w h
  obtain ⟨s0, s1, c0, c1⟩ := h
  go_enter Tryd.func15, Tryd.ntmps15
  go_wp2_with fail
  refine (C0.out _).mono ?_
  rintro e w1 ⟨rfl, hb⟩
  have A1 := Boxed.below (Boxed.alloc (Boxed.made _ #[.int .i64 c, .int .i64 s] 41) _) hb
  have A1 := A1.at (q := w.heap.size) rfl
  have Z1 := Boxed.at (q := w.heap.size + 1) (Boxed.below (Boxed.made _ #[.int .i64 0, .int .i64 0, .int .i64 0, .int .i64 0, .int .i64 0] 33) hb) (by simp)
  have W1 := Lib.hid (blw_trans (blw_trans (blw_alloc w _) (blw_alloc _ _)) hb)
  have k0 := A1.cell 0 _ rfl
  have k1 := A1.cell 1 _ rfl
  clear hb C0
  go_wp2_with fail
  go_loop [5, 16] (fun t i => ∃ k : Int, 0 ≤ k ∧ k ≤ s ∧ i = .int .i64 k ∧ t = .int .i64 (P10 k)) (fun _ i => (s - intOf i).toNat)
  case atStart => exact ⟨0, by omega, by omega, rfl, rfl⟩
  case round =>
    obtain ⟨k, q0, q1, rfl, rfl⟩ := hrel
    have hb := Dcm.P10_bd k
    by_cases hlt : k < s
    · have hs := Lib.hid (Dcm.P10_succ k q0 (by omega))
      go_wp2
      go_round
      case rel => exact ⟨k + 1, by omega, by omega, by go_num, by rw [hs.out]⟩
      case measure => simp [intOf]; omega
    · obtain rfl : k = s := by omega
      go_wp2_with fail
      have em : max c (-c) = Dcm.mag c := by unfold Dcm.mag; split <;> omega
      have m0 := Dcm.mag_bd c
      have m1 : Dcm.mag c ≤ 1000000000000000 := by unfold Dcm.mag; split <;> omega
      rw [em]
      clear em q1 s0 hlt
      generalize gm : Dcm.mag c = m at *
      have Gm := Lib.hid gm
      clear gm
      generalize gU : P10 k = U at *
      have GU := Lib.hid gU
      clear gU
      have e0 : (U == 0) = false := beq_no (by omega)
      have e1 : ¬ U = 0 := by omega
      have e2 : IntKind.i64.wrap (m.tdiv U) = m / U := IntWalk.i64_quo m U ⟨m0, by omega, hb.1⟩
      have e3 : m.tmod U = m % U := IntWalk.rem_in m U m0
      have n1 := World.new_ne w1 _ k0
      have n2 := World.new_ne w1 _ k1
      go_region_held3 (fun w' => w'.cell? ⟨w.heap.size, 0, none⟩ = some (.int .i64 c) ∧ w'.cell? ⟨w.heap.size, 1, none⟩ = some (.int .i64 k)) (go_keep) (fail)
      have B2 := Boxed.drew (Boxed.made w1 #[.int .i64 (m / U), .int .i64 k, .int .i64 k, .int .i64 (m % U), .int .i64 (m % U)] 33)
      have Z2 := (Z1.alloc (.cells #[.int .i64 (m / U), .int .i64 k, .int .i64 k, .int .i64 (m % U), .int .i64 (m % U)] 33)).drew
      have W2 := Lib.hid (Below.drew (blw_trans W1.out (blw_alloc w1 (.cells #[.int .i64 (m / U), .int .i64 k, .int .i64 k, .int .i64 (m % U), .int .i64 (m % U)] 33))))
      have HR : Hid (Dcm.strip k.toNat (m % U) = Dcm.strip k.toNat (m % U)) := rfl
      have hne : w1.heap.size ≠ w.heap.size + 1 := Nat.ne_of_gt Z1.lt
      have hge : w.heap.size ≤ w1.heap.size := W1.out.size
      have r0 := Int.emod_nonneg m (by omega : U ≠ 0)
      have r1 := Int.emod_lt_of_pos m (by omega : 0 < U)
      generalize gF : m % U = F at *
      have GF := Lib.hid gF
      clear gF
      generalize gI : m / U = I at *
      have GI := Lib.hid gI
      clear gI
      clear e0 e1 e2 e3 n1 n2 A1 Z1 W1 k0 k1
      rename_i hHeld
      clear hHeld
      generalize hR : Dcm.strip k.toNat F = R at *
      clear HR
      have HR := Lib.hid hR
      clear hR
      generalize (w1.alloc (.cells #[.int .i64 I, .int .i64 k, .int .i64 k, .int .i64 F, .int .i64 F] 33)).drew = w2 at *
      go_wp2_with fail
      go_loopg [41] k.toNat (fun gk _p wr => ∃ wi td : Int, 0 ≤ wi ∧ wi ≤ k ∧ gk = wi.toNat ∧ 0 ≤ td ∧ td ≤ 1000000000000000 ∧ Boxed wr w1.heap.size #[.int .i64 I, .int .i64 k, .int .i64 wi, .int .i64 F, .int .i64 td] ∧ Boxed wr (w.heap.size + 1) #[.int .i64 0, .int .i64 0, .int .i64 0, .int .i64 0, .int .i64 0] ∧ Hid (Below w.heap.size w wr) ∧ Hid (Dcm.strip wi.toNat td = R))
      case atStart => exact ⟨k, F, by omega, by omega, rfl, by omega, by omega, B2, Z2, W2, HR⟩
      case round =>
        obtain ⟨wi, td, i0, i1, rfl, t0, t1, B3, Z3, W3, H3⟩ := hrel
        have q0 := B3.cell 0 _ rfl
        have q1 := B3.cell 1 _ rfl
        have q2 := B3.cell 2 _ rfl
        have q3 := B3.cell 3 _ rfl
        have q4 := B3.cell 4 _ rfl
        have f2 := B3.free 2 (by simp)
        have f4 := B3.free 4 (by simp)
        by_cases hw : 0 < wi
        · by_cases ht : td % 10 = 0
          · have d1 : decide (0 < wi) = true := dec_yes hw
            have d2 : (td % 10 == 0) = true := beq_yes ht
            have HT := Lib.hid ht
            clear ht
            have B4 := (B3.set 2 (.int .i64 (wi - 1)) (by simp)).set 4 (.int .i64 (td / 10)) (by simp)
            have Z4 := (Z3.far (q := w1.heap.size) hne 2 (.int .i64 (wi - 1))).far (q := w1.heap.size) hne 4 (.int .i64 (td / 10))
            have W4 := Lib.hid ((W3.out.setCell (p := ⟨w1.heap.size, 2, none⟩) hge (.int .i64 (wi - 1))).setCell (p := ⟨w1.heap.size, 4, none⟩) hge (.int .i64 (td / 10)))
            have H4 : Hid (Dcm.strip (wi - 1).toNat (td / 10) = R) := by
              have h := H3.out
              have e : wi.toNat = (wi - 1).toNat + 1 := by omega
              rw [e] at h
              unfold Dcm.strip at h
              rw [if_pos HT.out] at h
              exact h
            clear B3 Z3 W3 H3
            go_wp2
            go_roundg (wi - 1).toNat
            case measure => omega
            case rel => exact ⟨wi - 1, td / 10, by omega, by omega, rfl, by omega, by omega, B4, Z4, W4, H4⟩
          · have d1 : decide (0 < wi) = true := dec_yes hw
            have d2 : (td % 10 == 0) = false := beq_no ht
            have e : R = (wi.toNat, td) := by
              rw [← H3.out]
              have e : wi.toNat = (wi - 1).toNat + 1 := by omega
              rw [e]; unfold Dcm.strip; rw [if_neg ht]
            have ew : ((wi.toNat : Nat) : Int) = wi := by omega
            subst e
            have EW := Lib.hid ew
            clear ew H3 B3
            have k0 := Z3.cell 0 _ rfl
            have k1 := Z3.cell 1 _ rfl
            have k2 := Z3.cell 2 _ rfl
            have k3 := Z3.cell 3 _ rfl
            have k4 := Z3.cell 4 _ rfl
            have g0 := Z3.free 0 (by simp)
            have g1 := Z3.free 1 (by simp)
            have g2 := Z3.free 2 (by simp)
            have g3 := Z3.free 3 (by simp)
            have g4 := Z3.free 4 (by simp)
            go_wp2
            refine bodyPost_ret (v := .tuple #[.agg #[.int .i64 I, .int .i64 k, .int .i64 wi, .int .i64 F, .int .i64 td], .nilIface]) (by simp [results, Tryd.results15, go_sem, k0, k1, k2, k3, k4]) rfl ⟨by simp [EW.out, Gm.out, GU.out, GF.out, GI.out, HR.out], ?_⟩
            repeat (first | exact W3.out | refine Below.setCell ?_ (by simp) _)
        · have d1 : decide (0 < wi) = false := dec_no hw
          have e : R = (wi.toNat, td) := by
            rw [← H3.out]
            have e : wi.toNat = 0 := by omega
            rw [e]; rfl
          have ew : ((wi.toNat : Nat) : Int) = wi := by omega
          subst e
          have EW := Lib.hid ew
          clear ew H3 B3
          have k0 := Z3.cell 0 _ rfl
          have k1 := Z3.cell 1 _ rfl
          have k2 := Z3.cell 2 _ rfl
          have k3 := Z3.cell 3 _ rfl
          have k4 := Z3.cell 4 _ rfl
          have g0 := Z3.free 0 (by simp)
          have g1 := Z3.free 1 (by simp)
          have g2 := Z3.free 2 (by simp)
          have g3 := Z3.free 3 (by simp)
          have g4 := Z3.free 4 (by simp)
          go_wp2
          refine bodyPost_ret (v := .tuple #[.agg #[.int .i64 I, .int .i64 k, .int .i64 wi, .int .i64 F, .int .i64 td], .nilIface]) (by simp [results, Tryd.results15, go_sem, k0, k1, k2, k3, k4]) rfl ⟨by simp [EW.out, Gm.out, GU.out, GF.out, GI.out, HR.out], ?_⟩
          repeat (first | exact W3.out | refine Below.setCell ?_ (by simp) _)
end Go.Proofs.YtoglgcjdjbjlmaaDoor
namespace Rul
open Go Go.Lib Go.Proofs.YtoglgcjdjbjlmaaDoor

/-- the operands of a right number -/
def opsD (c s : Int) : Op5 := ⟨Dcm.mag c / Dcm.P10 s, s, ((Dcm.strip s.toNat (Dcm.mag c % Dcm.P10 s)).1 : Int), Dcm.mag c % Dcm.P10 s, (Dcm.strip s.toNat (Dcm.mag c % Dcm.P10 s)).2⟩
/-- a text that is none, or a rule's -/
def textOk (t : List UInt8) : Bool := t.isEmpty || parseOk t
def setOk (l : List (List UInt8)) : Bool := l.all textOk
/-- a text that is a rule that holds -/
def hits (o : Op5) (t : List UInt8) : Bool := !t.isEmpty && ruleH (ruleP t) o
def kindL : List (List UInt8) := [[122, 101, 114, 111], [111, 110, 101], [116, 119, 111], [102, 101, 119], [109, 97, 110, 121]]
def other : List UInt8 := [111, 116, 104, 101, 114]
def kindAt (i : Nat) : List UInt8 := (kindL[i]?).getD other
/-- the first kind whose text holds -/
def kindS : List (List UInt8) → Op5 → Nat → List UInt8
  | [], _, _ => other
  | t :: r, o, i => if hits o t then kindAt i else kindS r o (i + 1)
theorem kindS_hit {o : Op5} {x : List UInt8} : ∀ {l : List (List UInt8)} {k i : Nat}, l[k]? = some x → (∀ y ∈ l.take k, hits o y = false) → hits o x = true → kindS l o i = kindAt (i + k)
  | [], k, i, h, _, _ => by simp at h
  | t :: r, 0, i, h, _, hx => by
    simp at h
    subst h
    unfold kindS
    rw [hx]
    rfl
  | t :: r, k + 1, i, h, ha, hx => by
    have h0 := ha t (by simp)
    unfold kindS
    rw [h0]
    have := kindS_hit (l := r) (k := k) (i := i + 1) (by simpa using h) (fun y hy => ha y (by simp [hy])) hx
    rw [show i + 1 + k = i + (k + 1) by omega] at this
    simpa using this
theorem kindS_none {o : Op5} : ∀ {l : List (List UInt8)} {i : Nat}, (∀ y ∈ l, hits o y = false) → kindS l o i = other
  | [], _, _ => rfl
  | t :: r, i, h => by
    unfold kindS
    rw [h t (by simp)]
    simpa using kindS_none (l := r) (i := i + 1) (fun y hy => h y (by simp [hy]))
theorem take_hits {o : Op5} {l : List (List UInt8)} {k : Nat} {x : List UInt8} (h : l[k]? = some x) (ha : ∀ y ∈ l.take k, hits o y = false) (hx : hits o x = false) : ∀ y ∈ l.take (k + 1), hits o y = false := by
  intro y hy
  rw [List.take_add_one, h] at hy
  rcases List.mem_append.1 hy with hy | hy
  · exact ha y hy
  · simp at hy; subst hy; exact hx
theorem take_ok {l : List (List UInt8)} {k : Nat} {x : List UInt8} (h : l[k]? = some x) (ha : (l.take k).all textOk = true) (hx : textOk x = true) : (l.take (k + 1)).all textOk = true := by
  rw [List.take_add_one, h, List.all_append, ha]
  simp [hx]
theorem not_ok {l : List (List UInt8)} {x : List UInt8} (h : x ∈ l) (hx : textOk x = false) : setOk l = false := by
  unfold setOk
  rw [List.all_eq_false]
  exact ⟨x, h, by rw [hx]; decide⟩
theorem mem_ok {l : List (List UInt8)} {x : List UInt8} (h : setOk l = true) (hx : x ∈ l) : textOk x = true := List.all_eq_true.1 h x hx
end Rul
namespace Go.Proofs.YtoglgcjdjbjlmaaDoor
open Go.RowKit

set_option maxRecDepth 100000 in
set_option maxHeartbeats 1000000 in
theorem ptexts_any (t0 t1 t2 t3 t4 : List UInt8) (w : World) :
    Calls Tryd.prog 36 #[.agg #[.string ⟨t0.toArray⟩, .string ⟨t1.toArray⟩, .string ⟨t2.toArray⟩, .string ⟨t3.toArray⟩, .string ⟨t4.toArray⟩]] w fun e w' => e = .returned (.agg #[.string ⟨t0.toArray⟩, .string ⟨t1.toArray⟩, .string ⟨t2.toArray⟩, .string ⟨t3.toArray⟩, .string ⟨t4.toArray⟩]) ∧ Below w.heap.size w w' := by
  go_enter Tryd.func36, Tryd.ntmps36
  go_wp2
  refine bodyPost_ret (v := .agg #[.string ⟨t0.toArray⟩, .string ⟨t1.toArray⟩, .string ⟨t2.toArray⟩, .string ⟨t3.toArray⟩, .string ⟨t4.toArray⟩]) (by simp [results, Tryd.results36, go_sem]) rfl ⟨rfl, ?_⟩
  repeat (first | exact Below.refl _ _ | exact blw_alloc _ _ | refine Below.setCell ?_ (by first | (simp; done) | omega | (simp; omega)) _ | refine Below.alloc ?_ (by first | (simp; done) | omega | (simp; omega)) _)

/-- an element of an array of five texts -/
theorem ix_five (t0 t1 t2 t3 t4 x : List UInt8) (k : Nat) (h : [t0, t1, t2, t3, t4][k]? = some x) (w : World) :
    (Instr.index 75 (.agg #[.string ⟨t0.toArray⟩, .string ⟨t1.toArray⟩, .string ⟨t2.toArray⟩, .string ⟨t3.toArray⟩, .string ⟨t4.toArray⟩]) (.int .i64 (k : Int))).run Tryd.prog w = .ok (.string ⟨x.toArray⟩) w := by
  have u := Tryd.underlying75
  have z := Tryd.sizeOf9
  have a9 := Tryd.isAgg9
  match k, h with
  | 0, h => simp at h; subst h; simp [Instr.index, run_underlying u, go_sem, z, a9, Result.andThen]
  | 1, h => simp at h; subst h; simp [Instr.index, run_underlying u, go_sem, z, a9, Result.andThen]
  | 2, h => simp at h; subst h; simp [Instr.index, run_underlying u, go_sem, z, a9, Result.andThen]
  | 3, h => simp at h; subst h; simp [Instr.index, run_underlying u, go_sem, z, a9, Result.andThen]
  | 4, h => simp at h; subst h; simp [Instr.index, run_underlying u, go_sem, z, a9, Result.andThen]
  | k + 5, h => simp at h

set_option maxRecDepth 100000 in
set_option maxHeartbeats 4000000 in
theorem pcheck_any (t0 t1 t2 t3 t4 : List UInt8) (w : World) (hT : TR w) (hl : ∀ t ∈ [t0, t1, t2, t3, t4], t.length ≤ 100000000) :
    Calls Tryd.prog 35 #[.agg #[.string ⟨t0.toArray⟩, .string ⟨t1.toArray⟩, .string ⟨t2.toArray⟩, .string ⟨t3.toArray⟩, .string ⟨t4.toArray⟩]] w fun e w' => e = .returned (if Rul.setOk [t0, t1, t2, t3, t4] = true then .nilIface else errV 3) ∧ Below w.heap.size w w' := by
  have HT := Lib.hid hT
  have HL := Lib.hid hl
  obtain ⟨E, hE⟩ : ∃ E, (if Rul.setOk [t0, t1, t2, t3, t4] = true then Value.nilIface else errV 3) = E := ⟨_, rfl⟩
  rw [hE]
  have HE := Lib.hid hE
  clear hE hl hT
  have CT := Lib.hid fun w => ptexts_any t0 t1 t2 t3 t4 w
  have IX := fun k x h w => ix_five t0 t1 t2 t3 t4 x k h w
  have HIX := Lib.hid IX
  clear IX
  have W0 := Lib.hid (blw_alloc w (.cells #[.string ⟨t0.toArray⟩, .string ⟨t1.toArray⟩, .string ⟨t2.toArray⟩, .string ⟨t3.toArray⟩, .string ⟨t4.toArray⟩] 39))
  obtain ⟨L, hLL⟩ : ∃ L, [t0, t1, t2, t3, t4] = L := ⟨_, rfl⟩
  have HN := Lib.hid (show L.length = 5 by rw [← hLL]; rfl)
  rw [hLL] at HL HE HIX
  clear hLL
  go_enter Tryd.func35, Tryd.ntmps35
  go_wp2_with fail
  refine (CT.out _).mono ?_
  rintro e v ⟨rfl, hb⟩
  have W1 := Lib.hid (blw_trans W0.out hb)
  clear hb CT W0
  generalize Value.agg #[.string ⟨t0.toArray⟩, .string ⟨t1.toArray⟩, .string ⟨t2.toArray⟩, .string ⟨t3.toArray⟩, .string ⟨t4.toArray⟩] = AG at *
  go_wp2_with fail
  go_loopw [9] (fun i wr => ∃ k : Nat, i = .int .i64 k ∧ k ≤ 5 ∧ Hid ((L.take k).all Rul.textOk = true) ∧ Hid (Below w.heap.size w wr)) (fun i _ => 5 - (RowKit.intOf i).toNat)
  case atStart => exact ⟨0, rfl, by omega, Lib.hid (by simp), W1⟩
  case round =>
    obtain ⟨k, rfl, hk, HA, HB⟩ := hrel
    by_cases hlt : k < 5
    · obtain ⟨x, hx⟩ : ∃ x, L[k]? = some x := ⟨L[k]'(by have := HN.out; omega), List.getElem?_eq_getElem (by have := HN.out; omega)⟩
      have IXk := fun w => HIX.out k x hx w
      have HX := Lib.hid hx
      have hxl := HL.out x (List.mem_of_getElem? hx)
      have CP := Lib.hid (rparse_any x wr (HT.out.below HB.out).m (HT.out.below HB.out).n (HT.out.below HB.out).p hxl)
      have k5 : (k : Int) < 5 := by omega
      clear hx
      by_cases he : x = []
      · subst he
        have HA2 := Lib.hid (Rul.take_ok HX.out HA.out rfl)
        go_wp2_with fail
        go_roundw
        case rel => exact ⟨k + 1, by go_num, by omega, HA2, HB⟩
        case measure => simp [RowKit.intOf]; omega
      · have e0 : (x == []) = false := beq_eq_false_iff_ne.2 he
        have he' : x.isEmpty = false := by cases x <;> simp at he ⊢
        go_wp2_with fail
        refine CP.out.mono ?_
        rintro e w2 ⟨v2, f2, rfl, hP, hb⟩
        have W2 := Lib.hid (blw_trans HB.out hb)
        rcases hP with ⟨hok, rfl, _⟩ | ⟨hno, rfl, rfl⟩
        · have HA2 := Lib.hid (Rul.take_ok HX.out HA.out (show Rul.textOk x = true by unfold Rul.textOk; rw [he', hok]; rfl))
          clear hb hok
          go_wp2_with fail
          go_roundw
          case rel => exact ⟨k + 1, by go_num, by omega, HA2, W2⟩
          case measure => simp [RowKit.intOf]; omega
        · have HF := Lib.hid (Rul.not_ok (List.mem_of_getElem? HX.out) (show Rul.textOk x = false by unfold Rul.textOk; rw [he', hno]; rfl))
          have HEE := HE.out
          rw [HF.out, if_neg (by decide)] at HEE
          subst HEE
          clear hb hno
          go_wp2_with fail
          go_ret
          exact ⟨rfl, W2.out⟩
    · have e : k = 5 := by omega
      subst e
      have HEE := HE.out
      have h5 := HA.out
      rw [List.take_of_length_le (by have := HN.out; omega)] at h5
      rw [if_pos (show Rul.setOk L = true from h5)] at HEE
      subst HEE
      go_wp2_with fail
      go_ret
      exact ⟨rfl, HB.out⟩
end Go.Proofs.YtoglgcjdjbjlmaaDoor
namespace Go.Proofs.YtoglgcjdjbjlmaaDoor
open Go.RowKit
open Dcm (P10 okD)

/-- the package's array of kinds -/
def KindsW (w : World) : Prop := ∀ (i : Nat) (s : List UInt8), Rul.kindL[i]? = some s → w.cell? ⟨0, i, none⟩ = some (.string ⟨s.toArray⟩)
theorem KindsW.below {w w' : World} (h : KindsW w) (hb : Below w.heap.size w w') : KindsW w' := fun i s hs => cell_keep (h i s hs) hb

set_option maxRecDepth 100000 in
set_option maxHeartbeats 2000000 in
theorem kind_bad (t0 t1 t2 t3 t4 : List UInt8) (c s : Int) (w : World) (hT : TR w) (hl : ∀ t ∈ [t0, t1, t2, t3, t4], t.length ≤ 100000000) (hs : Rul.setOk [t0, t1, t2, t3, t4] = false) :
    Calls Tryd.prog 14 #[.agg #[.string ⟨t0.toArray⟩, .string ⟨t1.toArray⟩, .string ⟨t2.toArray⟩, .string ⟨t3.toArray⟩, .string ⟨t4.toArray⟩], .agg #[.int .i64 c, .int .i64 s]] w fun e w' => e = .returned (.tuple #[.string ⟨#[]⟩, errV 3]) ∧ Below w.heap.size w w' := by
  have CK := Lib.hid fun (wx : World) (hb : Below w.heap.size w wx) => pcheck_any t0 t1 t2 t3 t4 wx (hT.below hb) hl
  rw [hs, if_neg (by decide)] at CK
  have W0 := Lib.hid ((blw_alloc w (.cells #[.string ⟨t0.toArray⟩, .string ⟨t1.toArray⟩, .string ⟨t2.toArray⟩, .string ⟨t3.toArray⟩, .string ⟨t4.toArray⟩] 39)).alloc (by simp) (.cells #[.int .i64 c, .int .i64 s] 41))
  clear hT hl hs
  go_enter Tryd.func14, Tryd.ntmps14
  go_wp2_with fail
  refine (CK.out _ W0.out).mono ?_
  rintro e w1 ⟨rfl, hb⟩
  have W1 := Lib.hid (blw_trans W0.out hb)
  clear hb CK W0
  go_wp2_with fail
  go_ret2
  exact ⟨rfl, W1.out⟩

set_option maxRecDepth 100000 in
set_option maxHeartbeats 2000000 in
theorem kind_num (t0 t1 t2 t3 t4 : List UInt8) (c s : Int) (w : World) (hT : TR w) (hl : ∀ t ∈ [t0, t1, t2, t3, t4], t.length ≤ 100000000) (hs : Rul.setOk [t0, t1, t2, t3, t4] = true) (hd : ¬ okD c s) :
    Calls Tryd.prog 14 #[.agg #[.string ⟨t0.toArray⟩, .string ⟨t1.toArray⟩, .string ⟨t2.toArray⟩, .string ⟨t3.toArray⟩, .string ⟨t4.toArray⟩], .agg #[.int .i64 c, .int .i64 s]] w fun e w' => e = .returned (.tuple #[.string ⟨#[]⟩, errV 1]) ∧ Below w.heap.size w w' := by
  have CK := Lib.hid fun (wx : World) (hb : Below w.heap.size w wx) => pcheck_any t0 t1 t2 t3 t4 wx (hT.below hb) hl
  rw [hs, if_pos rfl] at CK
  have CO := Lib.hid fun (wx : World) => ops_no c s wx hd
  have W0 := Lib.hid ((blw_alloc w (.cells #[.string ⟨t0.toArray⟩, .string ⟨t1.toArray⟩, .string ⟨t2.toArray⟩, .string ⟨t3.toArray⟩, .string ⟨t4.toArray⟩] 39)).alloc (by simp) (.cells #[.int .i64 c, .int .i64 s] 41))
  have BD := Lib.hid (Boxed.made (w.alloc (.cells #[.string ⟨t0.toArray⟩, .string ⟨t1.toArray⟩, .string ⟨t2.toArray⟩, .string ⟨t3.toArray⟩, .string ⟨t4.toArray⟩] 39)) #[.int .i64 c, .int .i64 s] 41)
  simp only [World.size_alloc] at BD
  clear hT hl hs hd
  go_enter Tryd.func14, Tryd.ntmps14
  go_wp2_with fail
  refine (CK.out _ W0.out).mono ?_
  rintro e w1 ⟨rfl, hb⟩
  have W1 := Lib.hid (blw_trans W0.out hb)
  have B1 := Lib.hid (BD.out.below hb)
  have k0 := B1.out.cell 0 _ rfl
  have k1 := B1.out.cell 1 _ rfl
  have kl := B1.out.lt
  clear hb CK W0 BD
  go_wp2_with fail
  refine (CO.out _).mono ?_
  rintro e w2 ⟨rfl, hb⟩
  have W2 := Lib.hid (blw_trans W1.out hb)
  clear hb CO W1
  go_wp2_with fail
  go_ret2
  exact ⟨rfl, W2.out.trans ((blw_alloc _ _).mono W2.out.size)⟩

set_option maxRecDepth 100000 in
set_option maxHeartbeats 4000000 in
theorem kind_ok (t0 t1 t2 t3 t4 : List UInt8) (c s : Int) (w : World) (hT : TR w) (hK : KindsW w) (hl : ∀ t ∈ [t0, t1, t2, t3, t4], t.length ≤ 100000000) (hs : Rul.setOk [t0, t1, t2, t3, t4] = true) (hd : okD c s) :
    Calls Tryd.prog 14 #[.agg #[.string ⟨t0.toArray⟩, .string ⟨t1.toArray⟩, .string ⟨t2.toArray⟩, .string ⟨t3.toArray⟩, .string ⟨t4.toArray⟩], .agg #[.int .i64 c, .int .i64 s]] w fun e w' => e = .returned (.tuple #[.string ⟨(Rul.kindS [t0, t1, t2, t3, t4] (Rul.opsD c s) 0).toArray⟩, .nilIface]) ∧ Below w.heap.size w w' := by
  have CK := Lib.hid fun (wx : World) (hb : Below w.heap.size w wx) => pcheck_any t0 t1 t2 t3 t4 wx (hT.below hb) hl
  rw [hs, if_pos rfl] at CK
  have CO : Hid (∀ wx : World, Calls Tryd.prog 15 #[.agg #[.int .i64 c, .int .i64 s]] wx fun e w' => e = .returned (.tuple #[.agg #[.int .i64 (Rul.opsD c s).i, .int .i64 (Rul.opsD c s).v, .int .i64 (Rul.opsD c s).w, .int .i64 (Rul.opsD c s).f, .int .i64 (Rul.opsD c s).t], .nilIface]) ∧ Below wx.heap.size wx w') := Lib.hid fun wx => ops_yes c s wx hd
  generalize Rul.opsD c s = O at *
  have CT := Lib.hid fun w => ptexts_any t0 t1 t2 t3 t4 w
  have HIX := Lib.hid fun k x h w => ix_five t0 t1 t2 t3 t4 x k h w
  have W0 := Lib.hid ((blw_alloc w (.cells #[.string ⟨t0.toArray⟩, .string ⟨t1.toArray⟩, .string ⟨t2.toArray⟩, .string ⟨t3.toArray⟩, .string ⟨t4.toArray⟩] 39)).alloc (by simp) (.cells #[.int .i64 c, .int .i64 s] 41))
  have BS := Lib.hid ((Boxed.made w #[.string ⟨t0.toArray⟩, .string ⟨t1.toArray⟩, .string ⟨t2.toArray⟩, .string ⟨t3.toArray⟩, .string ⟨t4.toArray⟩] 39).alloc (.cells #[.int .i64 c, .int .i64 s] 41))
  have BD := Lib.hid (Boxed.made (w.alloc (.cells #[.string ⟨t0.toArray⟩, .string ⟨t1.toArray⟩, .string ⟨t2.toArray⟩, .string ⟨t3.toArray⟩, .string ⟨t4.toArray⟩] 39)) #[.int .i64 c, .int .i64 s] 41)
  simp only [World.size_alloc] at BD
  obtain ⟨L, hLL⟩ : ∃ L, [t0, t1, t2, t3, t4] = L := ⟨_, rfl⟩
  have HN := Lib.hid (show L.length = 5 by rw [← hLL]; rfl)
  rw [hLL] at hl hs HIX ⊢
  have HL := Lib.hid hl
  have HS := Lib.hid hs
  have HT := Lib.hid hT
  have HK := Lib.hid hK
  obtain ⟨KS, hKS⟩ : ∃ KS, Rul.kindS L O 0 = KS := ⟨_, rfl⟩
  rw [hKS]
  have HKS := Lib.hid hKS
  clear hLL hT hK hl hs hd hKS
  go_enter Tryd.func14, Tryd.ntmps14
  go_wp2_with fail
  refine (CK.out _ W0.out).mono ?_
  rintro e w1 ⟨rfl, hb⟩
  have W1 := Lib.hid (blw_trans W0.out hb)
  have B1 := Lib.hid (BD.out.below hb)
  have B2 := Lib.hid (BS.out.below hb)
  have k0 := B1.out.cell 0 _ rfl
  have k1 := B1.out.cell 1 _ rfl
  have kl := B1.out.lt
  clear hb CK W0 BD BS
  go_wp2_with fail
  refine (CO.out _).mono ?_
  rintro e w2 ⟨rfl, hb⟩
  have W2 := Lib.hid (blw_trans W1.out hb)
  have B3 := Lib.hid ((B2.out.below hb).alloc (.cells #[.int .i64 O.i, .int .i64 O.v, .int .i64 O.w, .int .i64 O.f, .int .i64 O.t] 33))
  have B4 := Lib.hid (Boxed.made w2 (opsC O) 33)
  have W3 := Lib.hid (W2.out.trans ((blw_alloc w2 (.cells #[.int .i64 O.i, .int .i64 O.v, .int .i64 O.w, .int .i64 O.f, .int .i64 O.t] 33)).mono W2.out.size))
  have s0 := (B2.out.below hb).cell 0 _ rfl
  have s1 := (B2.out.below hb).cell 1 _ rfl
  have s2 := (B2.out.below hb).cell 2 _ rfl
  have s3 := (B2.out.below hb).cell 3 _ rfl
  have s4 := (B2.out.below hb).cell 4 _ rfl
  have sl := (B2.out.below hb).lt
  clear hb CO W1 B1 B2 k0 k1 kl
  go_wp2_with fail
  refine (CT.out _).mono ?_
  rintro e v ⟨rfl, hb⟩
  have W4 := Lib.hid (W3.out.trans (hb.mono W3.out.size))
  have BO := Lib.hid (B4.out.below hb)
  clear hb CT W3 B3 B4 s0 s1 s2 s3 s4 sl W2
  generalize Value.agg #[.string ⟨t0.toArray⟩, .string ⟨t1.toArray⟩, .string ⟨t2.toArray⟩, .string ⟨t3.toArray⟩, .string ⟨t4.toArray⟩] = AG at *
  go_wp2_with fail
  go_loopw [30] (fun i wr => ∃ k : Nat, i = .int .i64 k ∧ k ≤ 5 ∧ Hid (∀ y ∈ L.take k, Rul.hits O y = false) ∧ Hid (Below v.heap.size v wr)) (fun i _ => 5 - (RowKit.intOf i).toNat)
  case atStart => exact ⟨0, rfl, by omega, Lib.hid (by simp), Lib.hid (Below.refl _ _)⟩
  case round =>
    obtain ⟨k, rfl, hk, HA, HB⟩ := hrel
    have WR := Lib.hid (W4.out.trans (HB.out.mono W4.out.size))
    by_cases hlt : k < 5
    · obtain ⟨x, hx⟩ : ∃ x, L[k]? = some x := ⟨L[k]'(by have := HN.out; omega), List.getElem?_eq_getElem (by have := HN.out; omega)⟩
      have IXk := fun w => HIX.out k x hx w
      have HX := Lib.hid hx
      have hxl := HL.out x (List.mem_of_getElem? hx)
      have CP := Lib.hid (rparse_any x wr (HT.out.below WR.out).m (HT.out.below WR.out).n (HT.out.below WR.out).p hxl)
      have k5 : (k : Int) < 5 := by omega
      have k0 : 0 ≤ (k : Int) := by omega
      clear hx
      by_cases he : x = []
      · subst he
        have HA2 := Lib.hid (Rul.take_hits HX.out HA.out (by unfold Rul.hits; rfl))
        go_wp2_with fail
        go_roundw
        case rel => exact ⟨k + 1, by go_num, by omega, HA2, HB⟩
        case measure => simp [RowKit.intOf]; omega
      · have e0 : (x == []) = false := beq_eq_false_iff_ne.2 he
        have he' : x.isEmpty = false := by cases x <;> simp at he ⊢
        have hok : Rul.parseOk x = true := by
          have := Rul.mem_ok HS.out (List.mem_of_getElem? HX.out)
          unfold Rul.textOk at this
          rwa [he', Bool.false_or] at this
        have HOK := Lib.hid hok
        have HHX := Lib.hid (show Rul.hits O x = Rul.ruleH (Rul.ruleP x) O by unfold Rul.hits; rw [he']; rfl)
        clear hok
        go_wp2_with fail
        refine CP.out.mono ?_
        rintro e w5 ⟨v2, f2, rfl, hP, hb⟩
        have HB5 := Lib.hid (blw_trans HB.out hb)
        rcases hP with ⟨_, rfl, pa, pn, pc, rfl, hs⟩ | ⟨hno, _⟩
        · have hcnt := Rul.count_P x
          have hrs := Rul.rs_P x
          have CH := Lib.hid (rholds_yes (Rul.ruleP x) pa pn pc O w5 hs (by omega) (by omega) (fun l hl y hy => by have := hrs l hl y hy; omega) (Rul.parseOk_iff.1 HOK.out).1)
          have o0 := (BO.out.below HB5.out).cell 0 _ rfl
          have o1 := (BO.out.below HB5.out).cell 1 _ rfl
          have o2 := (BO.out.below HB5.out).cell 2 _ rfl
          have o3 := (BO.out.below HB5.out).cell 3 _ rfl
          have o4 := (BO.out.below HB5.out).cell 4 _ rfl
          have ol := (BO.out.below HB5.out).lt
          clear hb hs hcnt hrs CP
          generalize Rul.ruleH (Rul.ruleP x) O = H at *
          go_wp2_with fail
          refine CH.out.mono ?_
          rintro e w6 ⟨rfl, hb⟩
          have HB6 := Lib.hid (blw_trans HB5.out hb)
          have W6 := Lib.hid (W4.out.trans (HB6.out.mono W4.out.size))
          clear hb CH o0 o1 o2 o3 o4 ol
          cases H with
          | true =>
            obtain ⟨kt, hkt⟩ : ∃ kt, Rul.kindL[k]? = some kt := ⟨Rul.kindL[k]'(by show k < 5; omega), List.getElem?_eq_getElem _⟩
            have kc := HK.out.below W6.out k kt hkt
            have kg := World.block_lt_of_cell? _ _ kc
            have hfin : KS = kt := by
              have := Rul.kindS_hit (i := 0) HX.out HA.out HHX.out
              rw [← HKS.out, this, Nat.zero_add]
              unfold Rul.kindAt
              rw [hkt]; rfl
            subst hfin
            clear hkt
            go_wp2_with fail
            go_ret2
            exact ⟨rfl, W6.out⟩
          | false =>
            have HA2 := Lib.hid (Rul.take_hits HX.out HA.out HHX.out)
            go_wp2_with fail
            go_roundw
            case rel => exact ⟨k + 1, by go_num, by omega, HA2, HB6⟩
            case measure => simp [RowKit.intOf]; omega
        · rw [HOK.out] at hno; cases hno
    · have e : k = 5 := by omega
      subst e
      have h5 := HA.out
      rw [List.take_of_length_le (by have := HN.out; omega)] at h5
      obtain rfl : KS = [111, 116, 104, 101, 114] := by rw [← HKS.out, Rul.kindS_none h5]; rfl
      clear h5
      go_wp2_with fail
      go_ret2
      exact ⟨rfl, WR.out⟩
end Go.Proofs.YtoglgcjdjbjlmaaDoor
namespace Go.Proofs.YtoglgcjdjbjlmaaDoor
open Go.RowKit Go.MapKept

theorem map_new {P : Program} (T K E : TypeId) (hT : P.underlying T = some (.map K E)) (hK : P.underlying K = some .string) (es : Array MapEntry) (c : Nat) (k : ByteArray) (v : Value)
    (hf : Instr.findNow .string (.string k) es.toList 0 = some none) (w : World) :
    (Instr.mapUpdate T (.map (some w.heap.size)) (.string k) v).run P (w.alloc (.map es c)) = .ok () (w.alloc (.map (es.push { key := .string k, val := v, born := c }) (c + 1))) := by
  have hb : (w.alloc (.map es c)).heap[w.heap.size]? = some (.map es c) := by show (w.heap.push _)[w.heap.size]? = _; simp
  have e : ({ (w.alloc (.map es c)) with heap := (w.alloc (.map es c)).heap.setIfInBounds w.heap.size (.map (es.push { key := .string k, val := v, born := c }) (c + 1)) } : World) = w.alloc (.map (es.push { key := .string k, val := v, born := c }) (c + 1)) := by
    show ({ w with heap := (w.heap.push _).setIfInBounds w.heap.size _ } : World) = { w with heap := w.heap.push _ }
    congr 1
    apply Array.ext_getElem?
    intro i
    rw [Array.getElem?_setIfInBounds]
    simp only [Array.getElem?_push, Array.size_push]
    by_cases h : w.heap.size = i
    · subst h; simp
    · simp [h, Ne.symm h]
  rw [← e]
  simp [Instr.mapUpdate, run_underlying hT, MapKept.run_getObj_map hb, run_checkKey hK (show IsKey .string (.string k) from trivial), run_findKey hK hf, MapKept.run_setObj_map _ hb, Result.andThen]
theorem map_look {P : Program} (T K E : TypeId) (hT : P.underlying T = some (.map K E)) (hK : P.underlying K = some .string) (es : Array MapEntry) (c r i : Nat) (k : ByteArray) (v : Value) (w : World)
    (hb : w.heap[r]? = some (.map es c)) (hf : Instr.findNow .string (.string k) es.toList 0 = some (some (i, v))) :
    (Instr.lookup T (.map (some r)) (.string k) true).run P w = .ok (.tuple #[v, .bool true]) w := by
  simp [Instr.lookup, run_underlying hT, MapKept.run_getObj_map hb, run_checkKey hK (show IsKey .string (.string k) from trivial), run_findKey hK hf, Result.andThen]
theorem map_none {P : Program} (T K E : TypeId) (hT : P.underlying T = some (.map K E)) (hK : P.underlying K = some .string) (es : Array MapEntry) (c r : Nat) (k : ByteArray) (z : Value) (w : World)
    (hz : (zeroValue E).run P w = .ok z w) (hb : w.heap[r]? = some (.map es c)) (hf : Instr.findNow .string (.string k) es.toList 0 = some none) :
    (Instr.lookup T (.map (some r)) (.string k) true).run P w = .ok (.tuple #[z, .bool false]) w := by
  simp [Instr.lookup, run_underlying hT, MapKept.run_getObj_map hb, run_checkKey hK (show IsKey .string (.string k) from trivial), run_findKey hK hf, hz, Result.andThen]
theorem top_alloc (w : World) (o : Obj) (n : Nat) (h : n = w.heap.size) : (w.alloc o).heap[n]? = some o := by subst h; show (w.heap.push _)[w.heap.size]? = _; simp
end Go.Proofs.YtoglgcjdjbjlmaaDoor
namespace Go.Proofs.YtoglgcjdjbjlmaaDoor
open Go.RowKit

/-- the map's first entries -/
def lgE0 : Array MapEntry := #[]
def lgE1 : Array MapEntry := lgE0.push { key := .string ⟨#[101, 110]⟩, val := .agg #[.string ⟨#[]⟩, .string ⟨#[105, 32, 61, 32, 49, 32, 97, 110, 100, 32, 118, 32, 61, 32, 48]⟩, .string ⟨#[]⟩, .string ⟨#[]⟩, .string ⟨#[]⟩], born := 0 }
def lgE2 : Array MapEntry := lgE1.push { key := .string ⟨#[100, 101]⟩, val := .agg #[.string ⟨#[]⟩, .string ⟨#[105, 32, 61, 32, 49, 32, 97, 110, 100, 32, 118, 32, 61, 32, 48]⟩, .string ⟨#[]⟩, .string ⟨#[]⟩, .string ⟨#[]⟩], born := 1 }
def lgE3 : Array MapEntry := lgE2.push { key := .string ⟨#[102, 114]⟩, val := .agg #[.string ⟨#[]⟩, .string ⟨#[105, 32, 61, 32, 48, 44, 49]⟩, .string ⟨#[]⟩, .string ⟨#[]⟩, .string ⟨#[]⟩], born := 2 }
def lgE4 : Array MapEntry := lgE3.push { key := .string ⟨#[106, 97]⟩, val := .agg #[.string ⟨#[]⟩, .string ⟨#[]⟩, .string ⟨#[]⟩, .string ⟨#[]⟩, .string ⟨#[]⟩], born := 3 }
def lgE5 : Array MapEntry := lgE4.push { key := .string ⟨#[112, 108]⟩, val := .agg #[.string ⟨#[]⟩, .string ⟨#[105, 32, 61, 32, 49, 32, 97, 110, 100, 32, 118, 32, 61, 32, 48]⟩, .string ⟨#[]⟩, .string ⟨#[118, 32, 61, 32, 48, 32, 97, 110, 100, 32, 105, 32, 37, 32, 49, 48, 32, 61, 32, 50, 46, 46, 52, 32, 97, 110, 100, 32, 105, 32, 37, 32, 49, 48, 48, 32, 33, 61, 32, 49, 50, 46, 46, 49, 52]⟩, .string ⟨#[118, 32, 61, 32, 48, 32, 97, 110, 100, 32, 105, 32, 33, 61, 32, 49, 32, 97, 110, 100, 32, 105, 32, 37, 32, 49, 48, 32, 61, 32, 48, 46, 46, 49, 32, 111, 114, 32, 118, 32, 61, 32, 48, 32, 97, 110, 100, 32, 105, 32, 37, 32, 49, 48, 32, 61, 32, 53, 46, 46, 57, 32, 111, 114, 32, 118, 32, 61, 32, 48, 32, 97, 110, 100, 32, 105, 32, 37, 32, 49, 48, 48, 32, 61, 32, 49, 50, 46, 46, 49, 52]⟩], born := 4 }
def lgE6 : Array MapEntry := lgE5.push { key := .string ⟨#[114, 117]⟩, val := .agg #[.string ⟨#[]⟩, .string ⟨#[118, 32, 61, 32, 48, 32, 97, 110, 100, 32, 105, 32, 37, 32, 49, 48, 32, 61, 32, 49, 32, 97, 110, 100, 32, 105, 32, 37, 32, 49, 48, 48, 32, 33, 61, 32, 49, 49]⟩, .string ⟨#[]⟩, .string ⟨#[118, 32, 61, 32, 48, 32, 97, 110, 100, 32, 105, 32, 37, 32, 49, 48, 32, 61, 32, 50, 46, 46, 52, 32, 97, 110, 100, 32, 105, 32, 37, 32, 49, 48, 48, 32, 33, 61, 32, 49, 50, 46, 46, 49, 52]⟩, .string ⟨#[118, 32, 61, 32, 48, 32, 97, 110, 100, 32, 105, 32, 37, 32, 49, 48, 32, 61, 32, 48, 32, 111, 114, 32, 118, 32, 61, 32, 48, 32, 97, 110, 100, 32, 105, 32, 37, 32, 49, 48, 32, 61, 32, 53, 46, 46, 57, 32, 111, 114, 32, 118, 32, 61, 32, 48, 32, 97, 110, 100, 32, 105, 32, 37, 32, 49, 48, 48, 32, 61, 32, 49, 49, 46, 46, 49, 52]⟩], born := 5 }
def lgE7 : Array MapEntry := lgE6.push { key := .string ⟨#[97, 114]⟩, val := .agg #[.string ⟨#[110, 32, 61, 32, 48]⟩, .string ⟨#[110, 32, 61, 32, 49]⟩, .string ⟨#[110, 32, 61, 32, 50]⟩, .string ⟨#[110, 32, 37, 32, 49, 48, 48, 32, 61, 32, 51, 46, 46, 49, 48]⟩, .string ⟨#[110, 32, 37, 32, 49, 48, 48, 32, 61, 32, 49, 49, 46, 46, 57, 57]⟩], born := 6 }
def lgE8 : Array MapEntry := lgE7.push { key := .string ⟨#[108, 118]⟩, val := .agg #[.string ⟨#[110, 32, 37, 32, 49, 48, 32, 61, 32, 48, 32, 111, 114, 32, 110, 32, 37, 32, 49, 48, 48, 32, 61, 32, 49, 49, 46, 46, 49, 57, 32, 111, 114, 32, 118, 32, 61, 32, 50, 32, 97, 110, 100, 32, 102, 32, 37, 32, 49, 48, 48, 32, 61, 32, 49, 49, 46, 46, 49, 57]⟩, .string ⟨#[110, 32, 37, 32, 49, 48, 32, 61, 32, 49, 32, 97, 110, 100, 32, 110, 32, 37, 32, 49, 48, 48, 32, 33, 61, 32, 49, 49, 32, 111, 114, 32, 118, 32, 61, 32, 50, 32, 97, 110, 100, 32, 102, 32, 37, 32, 49, 48, 32, 61, 32, 49, 32, 97, 110, 100, 32, 102, 32, 37, 32, 49, 48, 48, 32, 33, 61, 32, 49, 49, 32, 111, 114, 32, 118, 32, 33, 61, 32, 50, 32, 97, 110, 100, 32, 102, 32, 37, 32, 49, 48, 32, 61, 32, 49]⟩, .string ⟨#[]⟩, .string ⟨#[]⟩, .string ⟨#[]⟩], born := 7 }

set_option maxRecDepth 100000 in
set_option maxHeartbeats 1000000 in
theorem rules_any (w : World) : Calls Tryd.prog 37 #[] w fun e w' => e = .returned (.map (some (w.heap.size + 1))) ∧ w' = (w.alloc (.cells #[.string ⟨#[]⟩, .string ⟨#[105, 32, 61, 32, 49, 32, 97, 110, 100, 32, 118, 32, 61, 32, 48]⟩, .string ⟨#[]⟩, .string ⟨#[]⟩, .string ⟨#[]⟩] 39)).alloc (.map lgE8 8) := by
  have I0 : (Instr.mapUpdate 77 (.map (some (w.heap.size + 1))) (.string ⟨#[101, 110]⟩) (.agg #[.string ⟨#[]⟩, .string ⟨#[105, 32, 61, 32, 49, 32, 97, 110, 100, 32, 118, 32, 61, 32, 48]⟩, .string ⟨#[]⟩, .string ⟨#[]⟩, .string ⟨#[]⟩])).run Tryd.prog ((w.alloc (.cells #[.string ⟨#[]⟩, .string ⟨#[105, 32, 61, 32, 49, 32, 97, 110, 100, 32, 118, 32, 61, 32, 48]⟩, .string ⟨#[]⟩, .string ⟨#[]⟩, .string ⟨#[]⟩] 39)).alloc (.map lgE0 0)) = .ok () ((w.alloc (.cells #[.string ⟨#[]⟩, .string ⟨#[105, 32, 61, 32, 49, 32, 97, 110, 100, 32, 118, 32, 61, 32, 48]⟩, .string ⟨#[]⟩, .string ⟨#[]⟩, .string ⟨#[]⟩] 39)).alloc (.map lgE1 1)) := by
    have h := map_new (P := Tryd.prog) 77 9 39 Tryd.underlying77 Tryd.underlying9 lgE0 0 ⟨#[101, 110]⟩ (.agg #[.string ⟨#[]⟩, .string ⟨#[105, 32, 61, 32, 49, 32, 97, 110, 100, 32, 118, 32, 61, 32, 48]⟩, .string ⟨#[]⟩, .string ⟨#[]⟩, .string ⟨#[]⟩]) (by kernel_rfl) (w.alloc (.cells #[.string ⟨#[]⟩, .string ⟨#[105, 32, 61, 32, 49, 32, 97, 110, 100, 32, 118, 32, 61, 32, 48]⟩, .string ⟨#[]⟩, .string ⟨#[]⟩, .string ⟨#[]⟩] 39))
    rw [show (w.alloc (.cells #[.string ⟨#[]⟩, .string ⟨#[105, 32, 61, 32, 49, 32, 97, 110, 100, 32, 118, 32, 61, 32, 48]⟩, .string ⟨#[]⟩, .string ⟨#[]⟩, .string ⟨#[]⟩] 39)).heap.size = w.heap.size + 1 by simp] at h
    exact h
  have I1 : (Instr.mapUpdate 77 (.map (some (w.heap.size + 1))) (.string ⟨#[100, 101]⟩) (.agg #[.string ⟨#[]⟩, .string ⟨#[105, 32, 61, 32, 49, 32, 97, 110, 100, 32, 118, 32, 61, 32, 48]⟩, .string ⟨#[]⟩, .string ⟨#[]⟩, .string ⟨#[]⟩])).run Tryd.prog ((w.alloc (.cells #[.string ⟨#[]⟩, .string ⟨#[105, 32, 61, 32, 49, 32, 97, 110, 100, 32, 118, 32, 61, 32, 48]⟩, .string ⟨#[]⟩, .string ⟨#[]⟩, .string ⟨#[]⟩] 39)).alloc (.map lgE1 1)) = .ok () ((w.alloc (.cells #[.string ⟨#[]⟩, .string ⟨#[105, 32, 61, 32, 49, 32, 97, 110, 100, 32, 118, 32, 61, 32, 48]⟩, .string ⟨#[]⟩, .string ⟨#[]⟩, .string ⟨#[]⟩] 39)).alloc (.map lgE2 2)) := by
    have h := map_new (P := Tryd.prog) 77 9 39 Tryd.underlying77 Tryd.underlying9 lgE1 1 ⟨#[100, 101]⟩ (.agg #[.string ⟨#[]⟩, .string ⟨#[105, 32, 61, 32, 49, 32, 97, 110, 100, 32, 118, 32, 61, 32, 48]⟩, .string ⟨#[]⟩, .string ⟨#[]⟩, .string ⟨#[]⟩]) (by kernel_rfl) (w.alloc (.cells #[.string ⟨#[]⟩, .string ⟨#[105, 32, 61, 32, 49, 32, 97, 110, 100, 32, 118, 32, 61, 32, 48]⟩, .string ⟨#[]⟩, .string ⟨#[]⟩, .string ⟨#[]⟩] 39))
    rw [show (w.alloc (.cells #[.string ⟨#[]⟩, .string ⟨#[105, 32, 61, 32, 49, 32, 97, 110, 100, 32, 118, 32, 61, 32, 48]⟩, .string ⟨#[]⟩, .string ⟨#[]⟩, .string ⟨#[]⟩] 39)).heap.size = w.heap.size + 1 by simp] at h
    exact h
  have I2 : (Instr.mapUpdate 77 (.map (some (w.heap.size + 1))) (.string ⟨#[102, 114]⟩) (.agg #[.string ⟨#[]⟩, .string ⟨#[105, 32, 61, 32, 48, 44, 49]⟩, .string ⟨#[]⟩, .string ⟨#[]⟩, .string ⟨#[]⟩])).run Tryd.prog ((w.alloc (.cells #[.string ⟨#[]⟩, .string ⟨#[105, 32, 61, 32, 49, 32, 97, 110, 100, 32, 118, 32, 61, 32, 48]⟩, .string ⟨#[]⟩, .string ⟨#[]⟩, .string ⟨#[]⟩] 39)).alloc (.map lgE2 2)) = .ok () ((w.alloc (.cells #[.string ⟨#[]⟩, .string ⟨#[105, 32, 61, 32, 49, 32, 97, 110, 100, 32, 118, 32, 61, 32, 48]⟩, .string ⟨#[]⟩, .string ⟨#[]⟩, .string ⟨#[]⟩] 39)).alloc (.map lgE3 3)) := by
    have h := map_new (P := Tryd.prog) 77 9 39 Tryd.underlying77 Tryd.underlying9 lgE2 2 ⟨#[102, 114]⟩ (.agg #[.string ⟨#[]⟩, .string ⟨#[105, 32, 61, 32, 48, 44, 49]⟩, .string ⟨#[]⟩, .string ⟨#[]⟩, .string ⟨#[]⟩]) (by kernel_rfl) (w.alloc (.cells #[.string ⟨#[]⟩, .string ⟨#[105, 32, 61, 32, 49, 32, 97, 110, 100, 32, 118, 32, 61, 32, 48]⟩, .string ⟨#[]⟩, .string ⟨#[]⟩, .string ⟨#[]⟩] 39))
    rw [show (w.alloc (.cells #[.string ⟨#[]⟩, .string ⟨#[105, 32, 61, 32, 49, 32, 97, 110, 100, 32, 118, 32, 61, 32, 48]⟩, .string ⟨#[]⟩, .string ⟨#[]⟩, .string ⟨#[]⟩] 39)).heap.size = w.heap.size + 1 by simp] at h
    exact h
  have I3 : (Instr.mapUpdate 77 (.map (some (w.heap.size + 1))) (.string ⟨#[106, 97]⟩) (.agg #[.string ⟨#[]⟩, .string ⟨#[]⟩, .string ⟨#[]⟩, .string ⟨#[]⟩, .string ⟨#[]⟩])).run Tryd.prog ((w.alloc (.cells #[.string ⟨#[]⟩, .string ⟨#[105, 32, 61, 32, 49, 32, 97, 110, 100, 32, 118, 32, 61, 32, 48]⟩, .string ⟨#[]⟩, .string ⟨#[]⟩, .string ⟨#[]⟩] 39)).alloc (.map lgE3 3)) = .ok () ((w.alloc (.cells #[.string ⟨#[]⟩, .string ⟨#[105, 32, 61, 32, 49, 32, 97, 110, 100, 32, 118, 32, 61, 32, 48]⟩, .string ⟨#[]⟩, .string ⟨#[]⟩, .string ⟨#[]⟩] 39)).alloc (.map lgE4 4)) := by
    have h := map_new (P := Tryd.prog) 77 9 39 Tryd.underlying77 Tryd.underlying9 lgE3 3 ⟨#[106, 97]⟩ (.agg #[.string ⟨#[]⟩, .string ⟨#[]⟩, .string ⟨#[]⟩, .string ⟨#[]⟩, .string ⟨#[]⟩]) (by kernel_rfl) (w.alloc (.cells #[.string ⟨#[]⟩, .string ⟨#[105, 32, 61, 32, 49, 32, 97, 110, 100, 32, 118, 32, 61, 32, 48]⟩, .string ⟨#[]⟩, .string ⟨#[]⟩, .string ⟨#[]⟩] 39))
    rw [show (w.alloc (.cells #[.string ⟨#[]⟩, .string ⟨#[105, 32, 61, 32, 49, 32, 97, 110, 100, 32, 118, 32, 61, 32, 48]⟩, .string ⟨#[]⟩, .string ⟨#[]⟩, .string ⟨#[]⟩] 39)).heap.size = w.heap.size + 1 by simp] at h
    exact h
  have I4 : (Instr.mapUpdate 77 (.map (some (w.heap.size + 1))) (.string ⟨#[112, 108]⟩) (.agg #[.string ⟨#[]⟩, .string ⟨#[105, 32, 61, 32, 49, 32, 97, 110, 100, 32, 118, 32, 61, 32, 48]⟩, .string ⟨#[]⟩, .string ⟨#[118, 32, 61, 32, 48, 32, 97, 110, 100, 32, 105, 32, 37, 32, 49, 48, 32, 61, 32, 50, 46, 46, 52, 32, 97, 110, 100, 32, 105, 32, 37, 32, 49, 48, 48, 32, 33, 61, 32, 49, 50, 46, 46, 49, 52]⟩, .string ⟨#[118, 32, 61, 32, 48, 32, 97, 110, 100, 32, 105, 32, 33, 61, 32, 49, 32, 97, 110, 100, 32, 105, 32, 37, 32, 49, 48, 32, 61, 32, 48, 46, 46, 49, 32, 111, 114, 32, 118, 32, 61, 32, 48, 32, 97, 110, 100, 32, 105, 32, 37, 32, 49, 48, 32, 61, 32, 53, 46, 46, 57, 32, 111, 114, 32, 118, 32, 61, 32, 48, 32, 97, 110, 100, 32, 105, 32, 37, 32, 49, 48, 48, 32, 61, 32, 49, 50, 46, 46, 49, 52]⟩])).run Tryd.prog ((w.alloc (.cells #[.string ⟨#[]⟩, .string ⟨#[105, 32, 61, 32, 49, 32, 97, 110, 100, 32, 118, 32, 61, 32, 48]⟩, .string ⟨#[]⟩, .string ⟨#[]⟩, .string ⟨#[]⟩] 39)).alloc (.map lgE4 4)) = .ok () ((w.alloc (.cells #[.string ⟨#[]⟩, .string ⟨#[105, 32, 61, 32, 49, 32, 97, 110, 100, 32, 118, 32, 61, 32, 48]⟩, .string ⟨#[]⟩, .string ⟨#[]⟩, .string ⟨#[]⟩] 39)).alloc (.map lgE5 5)) := by
    have h := map_new (P := Tryd.prog) 77 9 39 Tryd.underlying77 Tryd.underlying9 lgE4 4 ⟨#[112, 108]⟩ (.agg #[.string ⟨#[]⟩, .string ⟨#[105, 32, 61, 32, 49, 32, 97, 110, 100, 32, 118, 32, 61, 32, 48]⟩, .string ⟨#[]⟩, .string ⟨#[118, 32, 61, 32, 48, 32, 97, 110, 100, 32, 105, 32, 37, 32, 49, 48, 32, 61, 32, 50, 46, 46, 52, 32, 97, 110, 100, 32, 105, 32, 37, 32, 49, 48, 48, 32, 33, 61, 32, 49, 50, 46, 46, 49, 52]⟩, .string ⟨#[118, 32, 61, 32, 48, 32, 97, 110, 100, 32, 105, 32, 33, 61, 32, 49, 32, 97, 110, 100, 32, 105, 32, 37, 32, 49, 48, 32, 61, 32, 48, 46, 46, 49, 32, 111, 114, 32, 118, 32, 61, 32, 48, 32, 97, 110, 100, 32, 105, 32, 37, 32, 49, 48, 32, 61, 32, 53, 46, 46, 57, 32, 111, 114, 32, 118, 32, 61, 32, 48, 32, 97, 110, 100, 32, 105, 32, 37, 32, 49, 48, 48, 32, 61, 32, 49, 50, 46, 46, 49, 52]⟩]) (by kernel_rfl) (w.alloc (.cells #[.string ⟨#[]⟩, .string ⟨#[105, 32, 61, 32, 49, 32, 97, 110, 100, 32, 118, 32, 61, 32, 48]⟩, .string ⟨#[]⟩, .string ⟨#[]⟩, .string ⟨#[]⟩] 39))
    rw [show (w.alloc (.cells #[.string ⟨#[]⟩, .string ⟨#[105, 32, 61, 32, 49, 32, 97, 110, 100, 32, 118, 32, 61, 32, 48]⟩, .string ⟨#[]⟩, .string ⟨#[]⟩, .string ⟨#[]⟩] 39)).heap.size = w.heap.size + 1 by simp] at h
    exact h
  have I5 : (Instr.mapUpdate 77 (.map (some (w.heap.size + 1))) (.string ⟨#[114, 117]⟩) (.agg #[.string ⟨#[]⟩, .string ⟨#[118, 32, 61, 32, 48, 32, 97, 110, 100, 32, 105, 32, 37, 32, 49, 48, 32, 61, 32, 49, 32, 97, 110, 100, 32, 105, 32, 37, 32, 49, 48, 48, 32, 33, 61, 32, 49, 49]⟩, .string ⟨#[]⟩, .string ⟨#[118, 32, 61, 32, 48, 32, 97, 110, 100, 32, 105, 32, 37, 32, 49, 48, 32, 61, 32, 50, 46, 46, 52, 32, 97, 110, 100, 32, 105, 32, 37, 32, 49, 48, 48, 32, 33, 61, 32, 49, 50, 46, 46, 49, 52]⟩, .string ⟨#[118, 32, 61, 32, 48, 32, 97, 110, 100, 32, 105, 32, 37, 32, 49, 48, 32, 61, 32, 48, 32, 111, 114, 32, 118, 32, 61, 32, 48, 32, 97, 110, 100, 32, 105, 32, 37, 32, 49, 48, 32, 61, 32, 53, 46, 46, 57, 32, 111, 114, 32, 118, 32, 61, 32, 48, 32, 97, 110, 100, 32, 105, 32, 37, 32, 49, 48, 48, 32, 61, 32, 49, 49, 46, 46, 49, 52]⟩])).run Tryd.prog ((w.alloc (.cells #[.string ⟨#[]⟩, .string ⟨#[105, 32, 61, 32, 49, 32, 97, 110, 100, 32, 118, 32, 61, 32, 48]⟩, .string ⟨#[]⟩, .string ⟨#[]⟩, .string ⟨#[]⟩] 39)).alloc (.map lgE5 5)) = .ok () ((w.alloc (.cells #[.string ⟨#[]⟩, .string ⟨#[105, 32, 61, 32, 49, 32, 97, 110, 100, 32, 118, 32, 61, 32, 48]⟩, .string ⟨#[]⟩, .string ⟨#[]⟩, .string ⟨#[]⟩] 39)).alloc (.map lgE6 6)) := by
    have h := map_new (P := Tryd.prog) 77 9 39 Tryd.underlying77 Tryd.underlying9 lgE5 5 ⟨#[114, 117]⟩ (.agg #[.string ⟨#[]⟩, .string ⟨#[118, 32, 61, 32, 48, 32, 97, 110, 100, 32, 105, 32, 37, 32, 49, 48, 32, 61, 32, 49, 32, 97, 110, 100, 32, 105, 32, 37, 32, 49, 48, 48, 32, 33, 61, 32, 49, 49]⟩, .string ⟨#[]⟩, .string ⟨#[118, 32, 61, 32, 48, 32, 97, 110, 100, 32, 105, 32, 37, 32, 49, 48, 32, 61, 32, 50, 46, 46, 52, 32, 97, 110, 100, 32, 105, 32, 37, 32, 49, 48, 48, 32, 33, 61, 32, 49, 50, 46, 46, 49, 52]⟩, .string ⟨#[118, 32, 61, 32, 48, 32, 97, 110, 100, 32, 105, 32, 37, 32, 49, 48, 32, 61, 32, 48, 32, 111, 114, 32, 118, 32, 61, 32, 48, 32, 97, 110, 100, 32, 105, 32, 37, 32, 49, 48, 32, 61, 32, 53, 46, 46, 57, 32, 111, 114, 32, 118, 32, 61, 32, 48, 32, 97, 110, 100, 32, 105, 32, 37, 32, 49, 48, 48, 32, 61, 32, 49, 49, 46, 46, 49, 52]⟩]) (by kernel_rfl) (w.alloc (.cells #[.string ⟨#[]⟩, .string ⟨#[105, 32, 61, 32, 49, 32, 97, 110, 100, 32, 118, 32, 61, 32, 48]⟩, .string ⟨#[]⟩, .string ⟨#[]⟩, .string ⟨#[]⟩] 39))
    rw [show (w.alloc (.cells #[.string ⟨#[]⟩, .string ⟨#[105, 32, 61, 32, 49, 32, 97, 110, 100, 32, 118, 32, 61, 32, 48]⟩, .string ⟨#[]⟩, .string ⟨#[]⟩, .string ⟨#[]⟩] 39)).heap.size = w.heap.size + 1 by simp] at h
    exact h
  have I6 : (Instr.mapUpdate 77 (.map (some (w.heap.size + 1))) (.string ⟨#[97, 114]⟩) (.agg #[.string ⟨#[110, 32, 61, 32, 48]⟩, .string ⟨#[110, 32, 61, 32, 49]⟩, .string ⟨#[110, 32, 61, 32, 50]⟩, .string ⟨#[110, 32, 37, 32, 49, 48, 48, 32, 61, 32, 51, 46, 46, 49, 48]⟩, .string ⟨#[110, 32, 37, 32, 49, 48, 48, 32, 61, 32, 49, 49, 46, 46, 57, 57]⟩])).run Tryd.prog ((w.alloc (.cells #[.string ⟨#[]⟩, .string ⟨#[105, 32, 61, 32, 49, 32, 97, 110, 100, 32, 118, 32, 61, 32, 48]⟩, .string ⟨#[]⟩, .string ⟨#[]⟩, .string ⟨#[]⟩] 39)).alloc (.map lgE6 6)) = .ok () ((w.alloc (.cells #[.string ⟨#[]⟩, .string ⟨#[105, 32, 61, 32, 49, 32, 97, 110, 100, 32, 118, 32, 61, 32, 48]⟩, .string ⟨#[]⟩, .string ⟨#[]⟩, .string ⟨#[]⟩] 39)).alloc (.map lgE7 7)) := by
    have h := map_new (P := Tryd.prog) 77 9 39 Tryd.underlying77 Tryd.underlying9 lgE6 6 ⟨#[97, 114]⟩ (.agg #[.string ⟨#[110, 32, 61, 32, 48]⟩, .string ⟨#[110, 32, 61, 32, 49]⟩, .string ⟨#[110, 32, 61, 32, 50]⟩, .string ⟨#[110, 32, 37, 32, 49, 48, 48, 32, 61, 32, 51, 46, 46, 49, 48]⟩, .string ⟨#[110, 32, 37, 32, 49, 48, 48, 32, 61, 32, 49, 49, 46, 46, 57, 57]⟩]) (by kernel_rfl) (w.alloc (.cells #[.string ⟨#[]⟩, .string ⟨#[105, 32, 61, 32, 49, 32, 97, 110, 100, 32, 118, 32, 61, 32, 48]⟩, .string ⟨#[]⟩, .string ⟨#[]⟩, .string ⟨#[]⟩] 39))
    rw [show (w.alloc (.cells #[.string ⟨#[]⟩, .string ⟨#[105, 32, 61, 32, 49, 32, 97, 110, 100, 32, 118, 32, 61, 32, 48]⟩, .string ⟨#[]⟩, .string ⟨#[]⟩, .string ⟨#[]⟩] 39)).heap.size = w.heap.size + 1 by simp] at h
    exact h
  have I7 : (Instr.mapUpdate 77 (.map (some (w.heap.size + 1))) (.string ⟨#[108, 118]⟩) (.agg #[.string ⟨#[110, 32, 37, 32, 49, 48, 32, 61, 32, 48, 32, 111, 114, 32, 110, 32, 37, 32, 49, 48, 48, 32, 61, 32, 49, 49, 46, 46, 49, 57, 32, 111, 114, 32, 118, 32, 61, 32, 50, 32, 97, 110, 100, 32, 102, 32, 37, 32, 49, 48, 48, 32, 61, 32, 49, 49, 46, 46, 49, 57]⟩, .string ⟨#[110, 32, 37, 32, 49, 48, 32, 61, 32, 49, 32, 97, 110, 100, 32, 110, 32, 37, 32, 49, 48, 48, 32, 33, 61, 32, 49, 49, 32, 111, 114, 32, 118, 32, 61, 32, 50, 32, 97, 110, 100, 32, 102, 32, 37, 32, 49, 48, 32, 61, 32, 49, 32, 97, 110, 100, 32, 102, 32, 37, 32, 49, 48, 48, 32, 33, 61, 32, 49, 49, 32, 111, 114, 32, 118, 32, 33, 61, 32, 50, 32, 97, 110, 100, 32, 102, 32, 37, 32, 49, 48, 32, 61, 32, 49]⟩, .string ⟨#[]⟩, .string ⟨#[]⟩, .string ⟨#[]⟩])).run Tryd.prog ((w.alloc (.cells #[.string ⟨#[]⟩, .string ⟨#[105, 32, 61, 32, 49, 32, 97, 110, 100, 32, 118, 32, 61, 32, 48]⟩, .string ⟨#[]⟩, .string ⟨#[]⟩, .string ⟨#[]⟩] 39)).alloc (.map lgE7 7)) = .ok () ((w.alloc (.cells #[.string ⟨#[]⟩, .string ⟨#[105, 32, 61, 32, 49, 32, 97, 110, 100, 32, 118, 32, 61, 32, 48]⟩, .string ⟨#[]⟩, .string ⟨#[]⟩, .string ⟨#[]⟩] 39)).alloc (.map lgE8 8)) := by
    have h := map_new (P := Tryd.prog) 77 9 39 Tryd.underlying77 Tryd.underlying9 lgE7 7 ⟨#[108, 118]⟩ (.agg #[.string ⟨#[110, 32, 37, 32, 49, 48, 32, 61, 32, 48, 32, 111, 114, 32, 110, 32, 37, 32, 49, 48, 48, 32, 61, 32, 49, 49, 46, 46, 49, 57, 32, 111, 114, 32, 118, 32, 61, 32, 50, 32, 97, 110, 100, 32, 102, 32, 37, 32, 49, 48, 48, 32, 61, 32, 49, 49, 46, 46, 49, 57]⟩, .string ⟨#[110, 32, 37, 32, 49, 48, 32, 61, 32, 49, 32, 97, 110, 100, 32, 110, 32, 37, 32, 49, 48, 48, 32, 33, 61, 32, 49, 49, 32, 111, 114, 32, 118, 32, 61, 32, 50, 32, 97, 110, 100, 32, 102, 32, 37, 32, 49, 48, 32, 61, 32, 49, 32, 97, 110, 100, 32, 102, 32, 37, 32, 49, 48, 48, 32, 33, 61, 32, 49, 49, 32, 111, 114, 32, 118, 32, 33, 61, 32, 50, 32, 97, 110, 100, 32, 102, 32, 37, 32, 49, 48, 32, 61, 32, 49]⟩, .string ⟨#[]⟩, .string ⟨#[]⟩, .string ⟨#[]⟩]) (by kernel_rfl) (w.alloc (.cells #[.string ⟨#[]⟩, .string ⟨#[105, 32, 61, 32, 49, 32, 97, 110, 100, 32, 118, 32, 61, 32, 48]⟩, .string ⟨#[]⟩, .string ⟨#[]⟩, .string ⟨#[]⟩] 39))
    rw [show (w.alloc (.cells #[.string ⟨#[]⟩, .string ⟨#[105, 32, 61, 32, 49, 32, 97, 110, 100, 32, 118, 32, 61, 32, 48]⟩, .string ⟨#[]⟩, .string ⟨#[]⟩, .string ⟨#[]⟩] 39)).heap.size = w.heap.size + 1 by simp] at h
    exact h
  have hmm : ∀ w, (Instr.makeMap 77 none).run Tryd.prog w = .ok (.map (some w.heap.size)) (w.alloc (.map lgE0 0)) := fun w => @run_makeMap Tryd.prog 77 w
  go_enter Tryd.func37, Tryd.ntmps37
  go_wp2_with fail
  go_ret
  exact ⟨rfl, rfl⟩

set_option maxRecDepth 100000 in
set_option maxHeartbeats 1000000 in
theorem langRules_en (w : World) : Calls Tryd.prog 18 #[.string ⟨#[101, 110]⟩] w fun e w' => e = .returned (.tuple #[.agg #[.string ⟨#[]⟩, .string ⟨#[105, 32, 61, 32, 49, 32, 97, 110, 100, 32, 118, 32, 61, 32, 48]⟩, .string ⟨#[]⟩, .string ⟨#[]⟩, .string ⟨#[]⟩], .nilIface]) ∧ Below w.heap.size w w' := by
  have LK : (Instr.lookup 77 (.map (some (w.heap.size + 1 + 1))) (.string ⟨#[101, 110]⟩) true).run Tryd.prog (((w.alloc (.cells #[.string ⟨#[]⟩, .string ⟨#[]⟩, .string ⟨#[]⟩, .string ⟨#[]⟩, .string ⟨#[]⟩] 39)).alloc (.cells #[.string ⟨#[]⟩, .string ⟨#[105, 32, 61, 32, 49, 32, 97, 110, 100, 32, 118, 32, 61, 32, 48]⟩, .string ⟨#[]⟩, .string ⟨#[]⟩, .string ⟨#[]⟩] 39)).alloc (.map lgE8 8)) = .ok (.tuple #[.agg #[.string ⟨#[]⟩, .string ⟨#[105, 32, 61, 32, 49, 32, 97, 110, 100, 32, 118, 32, 61, 32, 48]⟩, .string ⟨#[]⟩, .string ⟨#[]⟩, .string ⟨#[]⟩], .bool true]) (((w.alloc (.cells #[.string ⟨#[]⟩, .string ⟨#[]⟩, .string ⟨#[]⟩, .string ⟨#[]⟩, .string ⟨#[]⟩] 39)).alloc (.cells #[.string ⟨#[]⟩, .string ⟨#[105, 32, 61, 32, 49, 32, 97, 110, 100, 32, 118, 32, 61, 32, 48]⟩, .string ⟨#[]⟩, .string ⟨#[]⟩, .string ⟨#[]⟩] 39)).alloc (.map lgE8 8)) :=
    map_look (P := Tryd.prog) 77 9 39 Tryd.underlying77 Tryd.underlying9 lgE8 8 (w.heap.size + 1 + 1) 0 ⟨#[101, 110]⟩ (.agg #[.string ⟨#[]⟩, .string ⟨#[105, 32, 61, 32, 49, 32, 97, 110, 100, 32, 118, 32, 61, 32, 48]⟩, .string ⟨#[]⟩, .string ⟨#[]⟩, .string ⟨#[]⟩]) _ (top_alloc _ _ _ (by simp)) (by kernel_rfl)
  go_enter Tryd.func18, Tryd.ntmps18
  go_wp2_with fail
  refine (rules_any _).mono ?_
  rintro e w1 ⟨rfl, rfl⟩
  go_wp2_with fail
  refine bodyPost_ret (v := .tuple #[.agg #[.string ⟨#[]⟩, .string ⟨#[105, 32, 61, 32, 49, 32, 97, 110, 100, 32, 118, 32, 61, 32, 48]⟩, .string ⟨#[]⟩, .string ⟨#[]⟩, .string ⟨#[]⟩], .nilIface]) (by simp [results, Tryd.results18, go_sem]) rfl ⟨rfl, ?_⟩
  repeat (first | exact Below.refl _ _ | refine Below.setCell ?_ (by simp) _ | refine Below.alloc ?_ (by first | (simp; done) | (simp; omega)) _)

set_option maxRecDepth 100000 in
set_option maxHeartbeats 1000000 in
theorem langRules_fr (w : World) : Calls Tryd.prog 18 #[.string ⟨#[102, 114]⟩] w fun e w' => e = .returned (.tuple #[.agg #[.string ⟨#[]⟩, .string ⟨#[105, 32, 61, 32, 48, 44, 49]⟩, .string ⟨#[]⟩, .string ⟨#[]⟩, .string ⟨#[]⟩], .nilIface]) ∧ Below w.heap.size w w' := by
  have LK : (Instr.lookup 77 (.map (some (w.heap.size + 1 + 1))) (.string ⟨#[102, 114]⟩) true).run Tryd.prog (((w.alloc (.cells #[.string ⟨#[]⟩, .string ⟨#[]⟩, .string ⟨#[]⟩, .string ⟨#[]⟩, .string ⟨#[]⟩] 39)).alloc (.cells #[.string ⟨#[]⟩, .string ⟨#[105, 32, 61, 32, 49, 32, 97, 110, 100, 32, 118, 32, 61, 32, 48]⟩, .string ⟨#[]⟩, .string ⟨#[]⟩, .string ⟨#[]⟩] 39)).alloc (.map lgE8 8)) = .ok (.tuple #[.agg #[.string ⟨#[]⟩, .string ⟨#[105, 32, 61, 32, 48, 44, 49]⟩, .string ⟨#[]⟩, .string ⟨#[]⟩, .string ⟨#[]⟩], .bool true]) (((w.alloc (.cells #[.string ⟨#[]⟩, .string ⟨#[]⟩, .string ⟨#[]⟩, .string ⟨#[]⟩, .string ⟨#[]⟩] 39)).alloc (.cells #[.string ⟨#[]⟩, .string ⟨#[105, 32, 61, 32, 49, 32, 97, 110, 100, 32, 118, 32, 61, 32, 48]⟩, .string ⟨#[]⟩, .string ⟨#[]⟩, .string ⟨#[]⟩] 39)).alloc (.map lgE8 8)) :=
    map_look (P := Tryd.prog) 77 9 39 Tryd.underlying77 Tryd.underlying9 lgE8 8 (w.heap.size + 1 + 1) 2 ⟨#[102, 114]⟩ (.agg #[.string ⟨#[]⟩, .string ⟨#[105, 32, 61, 32, 48, 44, 49]⟩, .string ⟨#[]⟩, .string ⟨#[]⟩, .string ⟨#[]⟩]) _ (top_alloc _ _ _ (by simp)) (by kernel_rfl)
  go_enter Tryd.func18, Tryd.ntmps18
  go_wp2_with fail
  refine (rules_any _).mono ?_
  rintro e w1 ⟨rfl, rfl⟩
  go_wp2_with fail
  refine bodyPost_ret (v := .tuple #[.agg #[.string ⟨#[]⟩, .string ⟨#[105, 32, 61, 32, 48, 44, 49]⟩, .string ⟨#[]⟩, .string ⟨#[]⟩, .string ⟨#[]⟩], .nilIface]) (by simp [results, Tryd.results18, go_sem]) rfl ⟨rfl, ?_⟩
  repeat (first | exact Below.refl _ _ | refine Below.setCell ?_ (by simp) _ | refine Below.alloc ?_ (by first | (simp; done) | (simp; omega)) _)

set_option maxRecDepth 100000 in
set_option maxHeartbeats 1000000 in
theorem langRules_ja (w : World) : Calls Tryd.prog 18 #[.string ⟨#[106, 97]⟩] w fun e w' => e = .returned (.tuple #[.agg #[.string ⟨#[]⟩, .string ⟨#[]⟩, .string ⟨#[]⟩, .string ⟨#[]⟩, .string ⟨#[]⟩], .nilIface]) ∧ Below w.heap.size w w' := by
  have LK : (Instr.lookup 77 (.map (some (w.heap.size + 1 + 1))) (.string ⟨#[106, 97]⟩) true).run Tryd.prog (((w.alloc (.cells #[.string ⟨#[]⟩, .string ⟨#[]⟩, .string ⟨#[]⟩, .string ⟨#[]⟩, .string ⟨#[]⟩] 39)).alloc (.cells #[.string ⟨#[]⟩, .string ⟨#[105, 32, 61, 32, 49, 32, 97, 110, 100, 32, 118, 32, 61, 32, 48]⟩, .string ⟨#[]⟩, .string ⟨#[]⟩, .string ⟨#[]⟩] 39)).alloc (.map lgE8 8)) = .ok (.tuple #[.agg #[.string ⟨#[]⟩, .string ⟨#[]⟩, .string ⟨#[]⟩, .string ⟨#[]⟩, .string ⟨#[]⟩], .bool true]) (((w.alloc (.cells #[.string ⟨#[]⟩, .string ⟨#[]⟩, .string ⟨#[]⟩, .string ⟨#[]⟩, .string ⟨#[]⟩] 39)).alloc (.cells #[.string ⟨#[]⟩, .string ⟨#[105, 32, 61, 32, 49, 32, 97, 110, 100, 32, 118, 32, 61, 32, 48]⟩, .string ⟨#[]⟩, .string ⟨#[]⟩, .string ⟨#[]⟩] 39)).alloc (.map lgE8 8)) :=
    map_look (P := Tryd.prog) 77 9 39 Tryd.underlying77 Tryd.underlying9 lgE8 8 (w.heap.size + 1 + 1) 3 ⟨#[106, 97]⟩ (.agg #[.string ⟨#[]⟩, .string ⟨#[]⟩, .string ⟨#[]⟩, .string ⟨#[]⟩, .string ⟨#[]⟩]) _ (top_alloc _ _ _ (by simp)) (by kernel_rfl)
  go_enter Tryd.func18, Tryd.ntmps18
  go_wp2_with fail
  refine (rules_any _).mono ?_
  rintro e w1 ⟨rfl, rfl⟩
  go_wp2_with fail
  refine bodyPost_ret (v := .tuple #[.agg #[.string ⟨#[]⟩, .string ⟨#[]⟩, .string ⟨#[]⟩, .string ⟨#[]⟩, .string ⟨#[]⟩], .nilIface]) (by simp [results, Tryd.results18, go_sem]) rfl ⟨rfl, ?_⟩
  repeat (first | exact Below.refl _ _ | refine Below.setCell ?_ (by simp) _ | refine Below.alloc ?_ (by first | (simp; done) | (simp; omega)) _)

set_option maxRecDepth 100000 in
set_option maxHeartbeats 1000000 in
theorem langRules_pl (w : World) : Calls Tryd.prog 18 #[.string ⟨#[112, 108]⟩] w fun e w' => e = .returned (.tuple #[.agg #[.string ⟨#[]⟩, .string ⟨#[105, 32, 61, 32, 49, 32, 97, 110, 100, 32, 118, 32, 61, 32, 48]⟩, .string ⟨#[]⟩, .string ⟨#[118, 32, 61, 32, 48, 32, 97, 110, 100, 32, 105, 32, 37, 32, 49, 48, 32, 61, 32, 50, 46, 46, 52, 32, 97, 110, 100, 32, 105, 32, 37, 32, 49, 48, 48, 32, 33, 61, 32, 49, 50, 46, 46, 49, 52]⟩, .string ⟨#[118, 32, 61, 32, 48, 32, 97, 110, 100, 32, 105, 32, 33, 61, 32, 49, 32, 97, 110, 100, 32, 105, 32, 37, 32, 49, 48, 32, 61, 32, 48, 46, 46, 49, 32, 111, 114, 32, 118, 32, 61, 32, 48, 32, 97, 110, 100, 32, 105, 32, 37, 32, 49, 48, 32, 61, 32, 53, 46, 46, 57, 32, 111, 114, 32, 118, 32, 61, 32, 48, 32, 97, 110, 100, 32, 105, 32, 37, 32, 49, 48, 48, 32, 61, 32, 49, 50, 46, 46, 49, 52]⟩], .nilIface]) ∧ Below w.heap.size w w' := by
  have LK : (Instr.lookup 77 (.map (some (w.heap.size + 1 + 1))) (.string ⟨#[112, 108]⟩) true).run Tryd.prog (((w.alloc (.cells #[.string ⟨#[]⟩, .string ⟨#[]⟩, .string ⟨#[]⟩, .string ⟨#[]⟩, .string ⟨#[]⟩] 39)).alloc (.cells #[.string ⟨#[]⟩, .string ⟨#[105, 32, 61, 32, 49, 32, 97, 110, 100, 32, 118, 32, 61, 32, 48]⟩, .string ⟨#[]⟩, .string ⟨#[]⟩, .string ⟨#[]⟩] 39)).alloc (.map lgE8 8)) = .ok (.tuple #[.agg #[.string ⟨#[]⟩, .string ⟨#[105, 32, 61, 32, 49, 32, 97, 110, 100, 32, 118, 32, 61, 32, 48]⟩, .string ⟨#[]⟩, .string ⟨#[118, 32, 61, 32, 48, 32, 97, 110, 100, 32, 105, 32, 37, 32, 49, 48, 32, 61, 32, 50, 46, 46, 52, 32, 97, 110, 100, 32, 105, 32, 37, 32, 49, 48, 48, 32, 33, 61, 32, 49, 50, 46, 46, 49, 52]⟩, .string ⟨#[118, 32, 61, 32, 48, 32, 97, 110, 100, 32, 105, 32, 33, 61, 32, 49, 32, 97, 110, 100, 32, 105, 32, 37, 32, 49, 48, 32, 61, 32, 48, 46, 46, 49, 32, 111, 114, 32, 118, 32, 61, 32, 48, 32, 97, 110, 100, 32, 105, 32, 37, 32, 49, 48, 32, 61, 32, 53, 46, 46, 57, 32, 111, 114, 32, 118, 32, 61, 32, 48, 32, 97, 110, 100, 32, 105, 32, 37, 32, 49, 48, 48, 32, 61, 32, 49, 50, 46, 46, 49, 52]⟩], .bool true]) (((w.alloc (.cells #[.string ⟨#[]⟩, .string ⟨#[]⟩, .string ⟨#[]⟩, .string ⟨#[]⟩, .string ⟨#[]⟩] 39)).alloc (.cells #[.string ⟨#[]⟩, .string ⟨#[105, 32, 61, 32, 49, 32, 97, 110, 100, 32, 118, 32, 61, 32, 48]⟩, .string ⟨#[]⟩, .string ⟨#[]⟩, .string ⟨#[]⟩] 39)).alloc (.map lgE8 8)) :=
    map_look (P := Tryd.prog) 77 9 39 Tryd.underlying77 Tryd.underlying9 lgE8 8 (w.heap.size + 1 + 1) 4 ⟨#[112, 108]⟩ (.agg #[.string ⟨#[]⟩, .string ⟨#[105, 32, 61, 32, 49, 32, 97, 110, 100, 32, 118, 32, 61, 32, 48]⟩, .string ⟨#[]⟩, .string ⟨#[118, 32, 61, 32, 48, 32, 97, 110, 100, 32, 105, 32, 37, 32, 49, 48, 32, 61, 32, 50, 46, 46, 52, 32, 97, 110, 100, 32, 105, 32, 37, 32, 49, 48, 48, 32, 33, 61, 32, 49, 50, 46, 46, 49, 52]⟩, .string ⟨#[118, 32, 61, 32, 48, 32, 97, 110, 100, 32, 105, 32, 33, 61, 32, 49, 32, 97, 110, 100, 32, 105, 32, 37, 32, 49, 48, 32, 61, 32, 48, 46, 46, 49, 32, 111, 114, 32, 118, 32, 61, 32, 48, 32, 97, 110, 100, 32, 105, 32, 37, 32, 49, 48, 32, 61, 32, 53, 46, 46, 57, 32, 111, 114, 32, 118, 32, 61, 32, 48, 32, 97, 110, 100, 32, 105, 32, 37, 32, 49, 48, 48, 32, 61, 32, 49, 50, 46, 46, 49, 52]⟩]) _ (top_alloc _ _ _ (by simp)) (by kernel_rfl)
  go_enter Tryd.func18, Tryd.ntmps18
  go_wp2_with fail
  refine (rules_any _).mono ?_
  rintro e w1 ⟨rfl, rfl⟩
  go_wp2_with fail
  refine bodyPost_ret (v := .tuple #[.agg #[.string ⟨#[]⟩, .string ⟨#[105, 32, 61, 32, 49, 32, 97, 110, 100, 32, 118, 32, 61, 32, 48]⟩, .string ⟨#[]⟩, .string ⟨#[118, 32, 61, 32, 48, 32, 97, 110, 100, 32, 105, 32, 37, 32, 49, 48, 32, 61, 32, 50, 46, 46, 52, 32, 97, 110, 100, 32, 105, 32, 37, 32, 49, 48, 48, 32, 33, 61, 32, 49, 50, 46, 46, 49, 52]⟩, .string ⟨#[118, 32, 61, 32, 48, 32, 97, 110, 100, 32, 105, 32, 33, 61, 32, 49, 32, 97, 110, 100, 32, 105, 32, 37, 32, 49, 48, 32, 61, 32, 48, 46, 46, 49, 32, 111, 114, 32, 118, 32, 61, 32, 48, 32, 97, 110, 100, 32, 105, 32, 37, 32, 49, 48, 32, 61, 32, 53, 46, 46, 57, 32, 111, 114, 32, 118, 32, 61, 32, 48, 32, 97, 110, 100, 32, 105, 32, 37, 32, 49, 48, 48, 32, 61, 32, 49, 50, 46, 46, 49, 52]⟩], .nilIface]) (by simp [results, Tryd.results18, go_sem]) rfl ⟨rfl, ?_⟩
  repeat (first | exact Below.refl _ _ | refine Below.setCell ?_ (by simp) _ | refine Below.alloc ?_ (by first | (simp; done) | (simp; omega)) _)

set_option maxRecDepth 100000 in
set_option maxHeartbeats 1000000 in
theorem langRules_ru (w : World) : Calls Tryd.prog 18 #[.string ⟨#[114, 117]⟩] w fun e w' => e = .returned (.tuple #[.agg #[.string ⟨#[]⟩, .string ⟨#[118, 32, 61, 32, 48, 32, 97, 110, 100, 32, 105, 32, 37, 32, 49, 48, 32, 61, 32, 49, 32, 97, 110, 100, 32, 105, 32, 37, 32, 49, 48, 48, 32, 33, 61, 32, 49, 49]⟩, .string ⟨#[]⟩, .string ⟨#[118, 32, 61, 32, 48, 32, 97, 110, 100, 32, 105, 32, 37, 32, 49, 48, 32, 61, 32, 50, 46, 46, 52, 32, 97, 110, 100, 32, 105, 32, 37, 32, 49, 48, 48, 32, 33, 61, 32, 49, 50, 46, 46, 49, 52]⟩, .string ⟨#[118, 32, 61, 32, 48, 32, 97, 110, 100, 32, 105, 32, 37, 32, 49, 48, 32, 61, 32, 48, 32, 111, 114, 32, 118, 32, 61, 32, 48, 32, 97, 110, 100, 32, 105, 32, 37, 32, 49, 48, 32, 61, 32, 53, 46, 46, 57, 32, 111, 114, 32, 118, 32, 61, 32, 48, 32, 97, 110, 100, 32, 105, 32, 37, 32, 49, 48, 48, 32, 61, 32, 49, 49, 46, 46, 49, 52]⟩], .nilIface]) ∧ Below w.heap.size w w' := by
  have LK : (Instr.lookup 77 (.map (some (w.heap.size + 1 + 1))) (.string ⟨#[114, 117]⟩) true).run Tryd.prog (((w.alloc (.cells #[.string ⟨#[]⟩, .string ⟨#[]⟩, .string ⟨#[]⟩, .string ⟨#[]⟩, .string ⟨#[]⟩] 39)).alloc (.cells #[.string ⟨#[]⟩, .string ⟨#[105, 32, 61, 32, 49, 32, 97, 110, 100, 32, 118, 32, 61, 32, 48]⟩, .string ⟨#[]⟩, .string ⟨#[]⟩, .string ⟨#[]⟩] 39)).alloc (.map lgE8 8)) = .ok (.tuple #[.agg #[.string ⟨#[]⟩, .string ⟨#[118, 32, 61, 32, 48, 32, 97, 110, 100, 32, 105, 32, 37, 32, 49, 48, 32, 61, 32, 49, 32, 97, 110, 100, 32, 105, 32, 37, 32, 49, 48, 48, 32, 33, 61, 32, 49, 49]⟩, .string ⟨#[]⟩, .string ⟨#[118, 32, 61, 32, 48, 32, 97, 110, 100, 32, 105, 32, 37, 32, 49, 48, 32, 61, 32, 50, 46, 46, 52, 32, 97, 110, 100, 32, 105, 32, 37, 32, 49, 48, 48, 32, 33, 61, 32, 49, 50, 46, 46, 49, 52]⟩, .string ⟨#[118, 32, 61, 32, 48, 32, 97, 110, 100, 32, 105, 32, 37, 32, 49, 48, 32, 61, 32, 48, 32, 111, 114, 32, 118, 32, 61, 32, 48, 32, 97, 110, 100, 32, 105, 32, 37, 32, 49, 48, 32, 61, 32, 53, 46, 46, 57, 32, 111, 114, 32, 118, 32, 61, 32, 48, 32, 97, 110, 100, 32, 105, 32, 37, 32, 49, 48, 48, 32, 61, 32, 49, 49, 46, 46, 49, 52]⟩], .bool true]) (((w.alloc (.cells #[.string ⟨#[]⟩, .string ⟨#[]⟩, .string ⟨#[]⟩, .string ⟨#[]⟩, .string ⟨#[]⟩] 39)).alloc (.cells #[.string ⟨#[]⟩, .string ⟨#[105, 32, 61, 32, 49, 32, 97, 110, 100, 32, 118, 32, 61, 32, 48]⟩, .string ⟨#[]⟩, .string ⟨#[]⟩, .string ⟨#[]⟩] 39)).alloc (.map lgE8 8)) :=
    map_look (P := Tryd.prog) 77 9 39 Tryd.underlying77 Tryd.underlying9 lgE8 8 (w.heap.size + 1 + 1) 5 ⟨#[114, 117]⟩ (.agg #[.string ⟨#[]⟩, .string ⟨#[118, 32, 61, 32, 48, 32, 97, 110, 100, 32, 105, 32, 37, 32, 49, 48, 32, 61, 32, 49, 32, 97, 110, 100, 32, 105, 32, 37, 32, 49, 48, 48, 32, 33, 61, 32, 49, 49]⟩, .string ⟨#[]⟩, .string ⟨#[118, 32, 61, 32, 48, 32, 97, 110, 100, 32, 105, 32, 37, 32, 49, 48, 32, 61, 32, 50, 46, 46, 52, 32, 97, 110, 100, 32, 105, 32, 37, 32, 49, 48, 48, 32, 33, 61, 32, 49, 50, 46, 46, 49, 52]⟩, .string ⟨#[118, 32, 61, 32, 48, 32, 97, 110, 100, 32, 105, 32, 37, 32, 49, 48, 32, 61, 32, 48, 32, 111, 114, 32, 118, 32, 61, 32, 48, 32, 97, 110, 100, 32, 105, 32, 37, 32, 49, 48, 32, 61, 32, 53, 46, 46, 57, 32, 111, 114, 32, 118, 32, 61, 32, 48, 32, 97, 110, 100, 32, 105, 32, 37, 32, 49, 48, 48, 32, 61, 32, 49, 49, 46, 46, 49, 52]⟩]) _ (top_alloc _ _ _ (by simp)) (by kernel_rfl)
  go_enter Tryd.func18, Tryd.ntmps18
  go_wp2_with fail
  refine (rules_any _).mono ?_
  rintro e w1 ⟨rfl, rfl⟩
  go_wp2_with fail
  refine bodyPost_ret (v := .tuple #[.agg #[.string ⟨#[]⟩, .string ⟨#[118, 32, 61, 32, 48, 32, 97, 110, 100, 32, 105, 32, 37, 32, 49, 48, 32, 61, 32, 49, 32, 97, 110, 100, 32, 105, 32, 37, 32, 49, 48, 48, 32, 33, 61, 32, 49, 49]⟩, .string ⟨#[]⟩, .string ⟨#[118, 32, 61, 32, 48, 32, 97, 110, 100, 32, 105, 32, 37, 32, 49, 48, 32, 61, 32, 50, 46, 46, 52, 32, 97, 110, 100, 32, 105, 32, 37, 32, 49, 48, 48, 32, 33, 61, 32, 49, 50, 46, 46, 49, 52]⟩, .string ⟨#[118, 32, 61, 32, 48, 32, 97, 110, 100, 32, 105, 32, 37, 32, 49, 48, 32, 61, 32, 48, 32, 111, 114, 32, 118, 32, 61, 32, 48, 32, 97, 110, 100, 32, 105, 32, 37, 32, 49, 48, 32, 61, 32, 53, 46, 46, 57, 32, 111, 114, 32, 118, 32, 61, 32, 48, 32, 97, 110, 100, 32, 105, 32, 37, 32, 49, 48, 48, 32, 61, 32, 49, 49, 46, 46, 49, 52]⟩], .nilIface]) (by simp [results, Tryd.results18, go_sem]) rfl ⟨rfl, ?_⟩
  repeat (first | exact Below.refl _ _ | refine Below.setCell ?_ (by simp) _ | refine Below.alloc ?_ (by first | (simp; done) | (simp; omega)) _)

set_option maxRecDepth 100000 in
set_option maxHeartbeats 1000000 in
theorem langRules_ar (w : World) : Calls Tryd.prog 18 #[.string ⟨#[97, 114]⟩] w fun e w' => e = .returned (.tuple #[.agg #[.string ⟨#[110, 32, 61, 32, 48]⟩, .string ⟨#[110, 32, 61, 32, 49]⟩, .string ⟨#[110, 32, 61, 32, 50]⟩, .string ⟨#[110, 32, 37, 32, 49, 48, 48, 32, 61, 32, 51, 46, 46, 49, 48]⟩, .string ⟨#[110, 32, 37, 32, 49, 48, 48, 32, 61, 32, 49, 49, 46, 46, 57, 57]⟩], .nilIface]) ∧ Below w.heap.size w w' := by
  have LK : (Instr.lookup 77 (.map (some (w.heap.size + 1 + 1))) (.string ⟨#[97, 114]⟩) true).run Tryd.prog (((w.alloc (.cells #[.string ⟨#[]⟩, .string ⟨#[]⟩, .string ⟨#[]⟩, .string ⟨#[]⟩, .string ⟨#[]⟩] 39)).alloc (.cells #[.string ⟨#[]⟩, .string ⟨#[105, 32, 61, 32, 49, 32, 97, 110, 100, 32, 118, 32, 61, 32, 48]⟩, .string ⟨#[]⟩, .string ⟨#[]⟩, .string ⟨#[]⟩] 39)).alloc (.map lgE8 8)) = .ok (.tuple #[.agg #[.string ⟨#[110, 32, 61, 32, 48]⟩, .string ⟨#[110, 32, 61, 32, 49]⟩, .string ⟨#[110, 32, 61, 32, 50]⟩, .string ⟨#[110, 32, 37, 32, 49, 48, 48, 32, 61, 32, 51, 46, 46, 49, 48]⟩, .string ⟨#[110, 32, 37, 32, 49, 48, 48, 32, 61, 32, 49, 49, 46, 46, 57, 57]⟩], .bool true]) (((w.alloc (.cells #[.string ⟨#[]⟩, .string ⟨#[]⟩, .string ⟨#[]⟩, .string ⟨#[]⟩, .string ⟨#[]⟩] 39)).alloc (.cells #[.string ⟨#[]⟩, .string ⟨#[105, 32, 61, 32, 49, 32, 97, 110, 100, 32, 118, 32, 61, 32, 48]⟩, .string ⟨#[]⟩, .string ⟨#[]⟩, .string ⟨#[]⟩] 39)).alloc (.map lgE8 8)) :=
    map_look (P := Tryd.prog) 77 9 39 Tryd.underlying77 Tryd.underlying9 lgE8 8 (w.heap.size + 1 + 1) 6 ⟨#[97, 114]⟩ (.agg #[.string ⟨#[110, 32, 61, 32, 48]⟩, .string ⟨#[110, 32, 61, 32, 49]⟩, .string ⟨#[110, 32, 61, 32, 50]⟩, .string ⟨#[110, 32, 37, 32, 49, 48, 48, 32, 61, 32, 51, 46, 46, 49, 48]⟩, .string ⟨#[110, 32, 37, 32, 49, 48, 48, 32, 61, 32, 49, 49, 46, 46, 57, 57]⟩]) _ (top_alloc _ _ _ (by simp)) (by kernel_rfl)
  go_enter Tryd.func18, Tryd.ntmps18
  go_wp2_with fail
  refine (rules_any _).mono ?_
  rintro e w1 ⟨rfl, rfl⟩
  go_wp2_with fail
  refine bodyPost_ret (v := .tuple #[.agg #[.string ⟨#[110, 32, 61, 32, 48]⟩, .string ⟨#[110, 32, 61, 32, 49]⟩, .string ⟨#[110, 32, 61, 32, 50]⟩, .string ⟨#[110, 32, 37, 32, 49, 48, 48, 32, 61, 32, 51, 46, 46, 49, 48]⟩, .string ⟨#[110, 32, 37, 32, 49, 48, 48, 32, 61, 32, 49, 49, 46, 46, 57, 57]⟩], .nilIface]) (by simp [results, Tryd.results18, go_sem]) rfl ⟨rfl, ?_⟩
  repeat (first | exact Below.refl _ _ | refine Below.setCell ?_ (by simp) _ | refine Below.alloc ?_ (by first | (simp; done) | (simp; omega)) _)
end Go.Proofs.YtoglgcjdjbjlmaaDoor
namespace Rul
open Go Go.Lib Go.Proofs.YtoglgcjdjbjlmaaDoor

def ruOneR : Rule := [[⟨118, 0, false, [(0, 0)]⟩, ⟨105, 10, false, [(1, 1)]⟩, ⟨105, 100, true, [(11, 11)]⟩]]
def ruOneS : List UInt8 := [118, 32, 61, 32, 48, 32, 97, 110, 100, 32, 105, 32, 37, 32, 49, 48, 32, 61, 32, 49, 32, 97, 110, 100, 32, 105, 32, 37, 32, 49, 48, 48, 32, 33, 61, 32, 49, 49]
theorem ruOne_p : parseOk ruOneS = true ∧ ruleP ruOneS = ruOneR := by
  have := parse_text (r := ruOneR) (by decide)
  rwa [show ruleT ruOneR = ruOneS by decide +kernel] at this
def slavR : Rule := [[⟨118, 0, false, [(0, 0)]⟩, ⟨105, 10, false, [(2, 4)]⟩, ⟨105, 100, true, [(12, 14)]⟩]]
def slavS : List UInt8 := [118, 32, 61, 32, 48, 32, 97, 110, 100, 32, 105, 32, 37, 32, 49, 48, 32, 61, 32, 50, 46, 46, 52, 32, 97, 110, 100, 32, 105, 32, 37, 32, 49, 48, 48, 32, 33, 61, 32, 49, 50, 46, 46, 49, 52]
theorem slav_p : parseOk slavS = true ∧ ruleP slavS = slavR := by
  have := parse_text (r := slavR) (by decide)
  rwa [show ruleT slavR = slavS by decide +kernel] at this
def ruManyR : Rule := [[⟨118, 0, false, [(0, 0)]⟩, ⟨105, 10, false, [(0, 0)]⟩], [⟨118, 0, false, [(0, 0)]⟩, ⟨105, 10, false, [(5, 9)]⟩], [⟨118, 0, false, [(0, 0)]⟩, ⟨105, 100, false, [(11, 14)]⟩]]
def ruManyS : List UInt8 := [118, 32, 61, 32, 48, 32, 97, 110, 100, 32, 105, 32, 37, 32, 49, 48, 32, 61, 32, 48, 32, 111, 114, 32, 118, 32, 61, 32, 48, 32, 97, 110, 100, 32, 105, 32, 37, 32, 49, 48, 32, 61, 32, 53, 46, 46, 57, 32, 111, 114, 32, 118, 32, 61, 32, 48, 32, 97, 110, 100, 32, 105, 32, 37, 32, 49, 48, 48, 32, 61, 32, 49, 49, 46, 46, 49, 52]
theorem ruMany_p : parseOk ruManyS = true ∧ ruleP ruManyS = ruManyR := by
  have := parse_text (r := ruManyR) (by decide)
  rwa [show ruleT ruManyR = ruManyS by decide +kernel] at this
def plManyR : Rule := [[⟨118, 0, false, [(0, 0)]⟩, ⟨105, 0, true, [(1, 1)]⟩, ⟨105, 10, false, [(0, 1)]⟩], [⟨118, 0, false, [(0, 0)]⟩, ⟨105, 10, false, [(5, 9)]⟩], [⟨118, 0, false, [(0, 0)]⟩, ⟨105, 100, false, [(12, 14)]⟩]]
def plManyS : List UInt8 := [118, 32, 61, 32, 48, 32, 97, 110, 100, 32, 105, 32, 33, 61, 32, 49, 32, 97, 110, 100, 32, 105, 32, 37, 32, 49, 48, 32, 61, 32, 48, 46, 46, 49, 32, 111, 114, 32, 118, 32, 61, 32, 48, 32, 97, 110, 100, 32, 105, 32, 37, 32, 49, 48, 32, 61, 32, 53, 46, 46, 57, 32, 111, 114, 32, 118, 32, 61, 32, 48, 32, 97, 110, 100, 32, 105, 32, 37, 32, 49, 48, 48, 32, 61, 32, 49, 50, 46, 46, 49, 52]
theorem plMany_p : parseOk plManyS = true ∧ ruleP plManyS = plManyR := by
  have := parse_text (r := plManyR) (by decide)
  rwa [show ruleT plManyR = plManyS by decide +kernel] at this
def enOneR : Rule := [[⟨105, 0, false, [(1, 1)]⟩, ⟨118, 0, false, [(0, 0)]⟩]]
def enOneS : List UInt8 := [105, 32, 61, 32, 49, 32, 97, 110, 100, 32, 118, 32, 61, 32, 48]
theorem enOne_p : parseOk enOneS = true ∧ ruleP enOneS = enOneR := by
  have := parse_text (r := enOneR) (by decide)
  rwa [show ruleT enOneR = enOneS by decide +kernel] at this
def frOneR : Rule := [[⟨105, 0, false, [(0, 0), (1, 1)]⟩]]
def frOneS : List UInt8 := [105, 32, 61, 32, 48, 44, 49]
theorem frOne_p : parseOk frOneS = true ∧ ruleP frOneS = frOneR := by
  have := parse_text (r := frOneR) (by decide)
  rwa [show ruleT frOneR = frOneS by decide +kernel] at this
def arZeroR : Rule := [[⟨110, 0, false, [(0, 0)]⟩]]
def arZeroS : List UInt8 := [110, 32, 61, 32, 48]
theorem arZero_p : parseOk arZeroS = true ∧ ruleP arZeroS = arZeroR := by
  have := parse_text (r := arZeroR) (by decide)
  rwa [show ruleT arZeroR = arZeroS by decide +kernel] at this
def arOneR : Rule := [[⟨110, 0, false, [(1, 1)]⟩]]
def arOneS : List UInt8 := [110, 32, 61, 32, 49]
theorem arOne_p : parseOk arOneS = true ∧ ruleP arOneS = arOneR := by
  have := parse_text (r := arOneR) (by decide)
  rwa [show ruleT arOneR = arOneS by decide +kernel] at this
def arTwoR : Rule := [[⟨110, 0, false, [(2, 2)]⟩]]
def arTwoS : List UInt8 := [110, 32, 61, 32, 50]
theorem arTwo_p : parseOk arTwoS = true ∧ ruleP arTwoS = arTwoR := by
  have := parse_text (r := arTwoR) (by decide)
  rwa [show ruleT arTwoR = arTwoS by decide +kernel] at this
def arFewR : Rule := [[⟨110, 100, false, [(3, 10)]⟩]]
def arFewS : List UInt8 := [110, 32, 37, 32, 49, 48, 48, 32, 61, 32, 51, 46, 46, 49, 48]
theorem arFew_p : parseOk arFewS = true ∧ ruleP arFewS = arFewR := by
  have := parse_text (r := arFewR) (by decide)
  rwa [show ruleT arFewR = arFewS by decide +kernel] at this
def arManyR : Rule := [[⟨110, 100, false, [(11, 99)]⟩]]
def arManyS : List UInt8 := [110, 32, 37, 32, 49, 48, 48, 32, 61, 32, 49, 49, 46, 46, 57, 57]
theorem arMany_p : parseOk arManyS = true ∧ ruleP arManyS = arManyR := by
  have := parse_text (r := arManyR) (by decide)
  rwa [show ruleT arManyR = arManyS by decide +kernel] at this

theorem hits_of {t : List UInt8} {R : Rule} (h : parseOk t = true ∧ ruleP t = R) (hn : t ≠ []) (o : Op5) : hits o t = ruleH R o := by
  unfold hits
  rw [h.2]
  cases t with
  | nil => exact absurd rfl hn
  | cons => rfl
theorem hits_nil (o : Op5) : hits o [] = false := rfl
theorem text_ok {t : List UInt8} {R : Rule} (h : parseOk t = true ∧ ruleP t = R) : textOk t = true := by
  unfold textOk
  rw [h.1, Bool.or_true]
def ruL : List (List UInt8) := [[], ruOneS, [], slavS, ruManyS]
def plL : List (List UInt8) := [[], enOneS, [], slavS, plManyS]
def arL : List (List UInt8) := [arZeroS, arOneS, arTwoS, arFewS, arManyS]
def enL : List (List UInt8) := [[], enOneS, [], [], []]
def frL : List (List UInt8) := [[], frOneS, [], [], []]
def jaL : List (List UInt8) := [[], [], [], [], []]
theorem none_ok : textOk [] = true := rfl
theorem ru_ok : setOk ruL = true := by simp [setOk, ruL, text_ok ruOne_p, text_ok slav_p, text_ok ruMany_p, none_ok]
theorem pl_ok : setOk plL = true := by simp [setOk, plL, text_ok enOne_p, text_ok slav_p, text_ok plMany_p, none_ok]
theorem ar_ok : setOk arL = true := by simp [setOk, arL, text_ok arZero_p, text_ok arOne_p, text_ok arTwo_p, text_ok arFew_p, text_ok arMany_p]
theorem en_ok : setOk enL = true := by simp [setOk, enL, text_ok enOne_p, none_ok]
theorem fr_ok : setOk frL = true := by simp [setOk, frL, text_ok frOne_p, none_ok]
theorem ja_ok : setOk jaL = true := by simp [setOk, jaL, none_ok]
def kOne : List UInt8 := [111, 110, 101]
def kFew : List UInt8 := [102, 101, 119]
def kMany : List UInt8 := [109, 97, 110, 121]
def kZero : List UInt8 := [122, 101, 114, 111]
def kTwo : List UInt8 := [116, 119, 111]
theorem tm (m : Int) (h : 0 ≤ m) (k : Int) : m.tmod k = m % k := Int.tmod_eq_emod_of_nonneg h

theorem ru_kind (o : Op5) (m : Int) (h : 0 ≤ m) (hi : o.i = m) (hv : o.v = 0) :
    kindS ruL o 0 = if 2 ≤ m % 10 ∧ m % 10 ≤ 4 ∧ ¬ (11 ≤ m % 100 ∧ m % 100 ≤ 14) then kFew else if m % 10 = 1 ∧ ¬ (11 ≤ m % 100 ∧ m % 100 ≤ 14) then kOne else kMany := by
  have e1 : ruleH ruOneR o = decide (m % 10 = 1 ∧ m % 100 ≠ 11) := by
    rw [Bool.eq_iff_iff]; simp [ruOneR, ruleH, partH, relH, opx, opv, rngHas, hi, hv, tm m h]; omega
  have e2 : ruleH slavR o = decide (2 ≤ m % 10 ∧ m % 10 ≤ 4 ∧ ¬ (12 ≤ m % 100 ∧ m % 100 ≤ 14)) := by
    rw [Bool.eq_iff_iff]; simp [slavR, ruleH, partH, relH, opx, opv, rngHas, hi, hv, tm m h]; omega
  have e3 : ruleH ruManyR o = decide (m % 10 = 0 ∨ 5 ≤ m % 10 ∨ (11 ≤ m % 100 ∧ m % 100 ≤ 14)) := by
    rw [Bool.eq_iff_iff]; simp [ruManyR, ruleH, partH, relH, opx, opv, rngHas, hi, hv, tm m h]; omega
  simp only [ruL, kindS, hits_nil, hits_of ruOne_p (by decide), hits_of slav_p (by decide), hits_of ruMany_p (by decide), e1, e2, e3, decide_eq_true_eq, kindAt, kindL, other, kFew, kOne, kMany]
  split <;> split <;> (try split) <;> (try split) <;> (try split) <;> first | rfl | (exfalso; omega) | (exfalso; simp_all; omega) | simp_all
theorem pl_kind (o : Op5) (m : Int) (h : 0 ≤ m) (hi : o.i = m) (hv : o.v = 0) :
    kindS plL o 0 = if m = 1 then kOne else if 2 ≤ m % 10 ∧ m % 10 ≤ 4 ∧ ¬ (11 ≤ m % 100 ∧ m % 100 ≤ 14) then kFew else kMany := by
  have e1 : ruleH enOneR o = decide (m = 1) := by
    rw [Bool.eq_iff_iff]; simp [enOneR, ruleH, partH, relH, opx, opv, rngHas, hi, hv]; omega
  have e2 : ruleH slavR o = decide (2 ≤ m % 10 ∧ m % 10 ≤ 4 ∧ ¬ (12 ≤ m % 100 ∧ m % 100 ≤ 14)) := by
    rw [Bool.eq_iff_iff]; simp [slavR, ruleH, partH, relH, opx, opv, rngHas, hi, hv, tm m h]; omega
  have e3 : ruleH plManyR o = decide ((m ≠ 1 ∧ m % 10 ≤ 1) ∨ 5 ≤ m % 10 ∨ (12 ≤ m % 100 ∧ m % 100 ≤ 14)) := by
    rw [Bool.eq_iff_iff]; simp [plManyR, ruleH, partH, relH, opx, opv, rngHas, hi, hv, tm m h]; omega
  simp only [plL, kindS, hits_nil, hits_of enOne_p (by decide), hits_of slav_p (by decide), hits_of plMany_p (by decide), e1, e2, e3, decide_eq_true_eq, kindAt, kindL, other, kFew, kOne, kMany]
  split <;> split <;> (try split) <;> (try split) <;> (try split) <;> first | rfl | (exfalso; omega) | (exfalso; simp_all; omega) | simp_all
theorem ar_kind (o : Op5) (m : Int) (h : 0 ≤ m) (hi : o.i = m) :
    kindS arL o 0 = if o.t = 0 then (if m = 0 then kZero else if m = 1 then kOne else if m = 2 then kTwo else if 3 ≤ m % 100 ∧ m % 100 ≤ 10 then kFew else if 11 ≤ m % 100 then kMany else other) else other := by
  have e0 : ruleH arZeroR o = decide (m = 0 ∧ o.t = 0) := by
    rw [Bool.eq_iff_iff]; simp [arZeroR, ruleH, partH, relH, opx, opv, rngHas, hi]; omega
  have e1 : ruleH arOneR o = decide (m = 1 ∧ o.t = 0) := by
    rw [Bool.eq_iff_iff]; simp [arOneR, ruleH, partH, relH, opx, opv, rngHas, hi]; omega
  have e2 : ruleH arTwoR o = decide (m = 2 ∧ o.t = 0) := by
    rw [Bool.eq_iff_iff]; simp [arTwoR, ruleH, partH, relH, opx, opv, rngHas, hi]; omega
  have e3 : ruleH arFewR o = decide (3 ≤ m % 100 ∧ m % 100 ≤ 10 ∧ o.t = 0) := by
    rw [Bool.eq_iff_iff]; simp [arFewR, ruleH, partH, relH, opx, opv, rngHas, hi, tm m h]; omega
  have e4 : ruleH arManyR o = decide (11 ≤ m % 100 ∧ o.t = 0) := by
    rw [Bool.eq_iff_iff]; simp [arManyR, ruleH, partH, relH, opx, opv, rngHas, hi, tm m h]; omega
  simp only [arL, kindS, hits_of arZero_p (by decide), hits_of arOne_p (by decide), hits_of arTwo_p (by decide), hits_of arFew_p (by decide), hits_of arMany_p (by decide), e0, e1, e2, e3, e4, decide_eq_true_eq, kindAt, kindL, other, kFew, kOne, kMany, kZero, kTwo]
  by_cases ht : o.t = 0
  · simp only [ht, and_true, if_true]
    by_cases h0 : m = 0
    · simp [h0]
    · by_cases h1 : m = 1
      · simp [h1]
      · by_cases h2 : m = 2
        · simp [h2]
        · by_cases h3 : 3 ≤ m % 100 ∧ m % 100 ≤ 10
          · simp [h0, h1, h2, h3]
          · by_cases h4 : 11 ≤ m % 100
            · simp [h0, h1, h2, h3, h4]
            · simp [h0, h1, h2, h3, h4]
  · simp [ht]
theorem en_kind (o : Op5) : kindS enL o 0 = if o.i = 1 ∧ o.v = 0 then kOne else other := by
  have e1 : ruleH enOneR o = decide (o.i = 1 ∧ o.v = 0) := by
    rw [Bool.eq_iff_iff]; simp [enOneR, ruleH, partH, relH, opx, opv, rngHas]; omega
  simp only [enL, kindS, hits_nil, hits_of enOne_p (by decide), e1, decide_eq_true_eq]
  split
  · rename_i hh
    first | rfl | simp_all [kindAt, kindL, kOne]
  · simp_all [kindAt, kindL, kOne, other]
theorem fr_kind (o : Op5) : kindS frL o 0 = if o.i = 0 ∨ o.i = 1 then kOne else other := by
  have e1 : ruleH frOneR o = decide (o.i = 0 ∨ o.i = 1) := by
    rw [Bool.eq_iff_iff]; simp [frOneR, ruleH, partH, relH, opx, opv, rngHas]; omega
  simp only [frL, kindS, hits_nil, hits_of frOne_p (by decide), e1, decide_eq_true_eq]
  split
  · rename_i hh
    first | rfl | simp_all [kindAt, kindL, kOne]
  · simp_all [kindAt, kindL, kOne, other]
theorem ja_kind (o : Op5) : kindS jaL o 0 = other := rfl
end Rul
namespace Go.Proofs.YtoglgcjdjbjlmaaDoor
open Go.RowKit
open Dcm (P10 okD)

theorem en_len : ∀ t ∈ [[], Rul.enOneS, [], [], []], t.length ≤ 100000000 := by decide
theorem fr_len : ∀ t ∈ [[], Rul.frOneS, [], [], []], t.length ≤ 100000000 := by decide
theorem ja_len : ∀ t ∈ ([[], [], [], [], []] : List (List UInt8)), t.length ≤ 100000000 := by decide
/-- nearer to nought than two -/
theorem near_two (m p : Int) (h0 : 0 ≤ m) (hp : 0 < p) : (m / p = 0 ∨ m / p = 1) ↔ m < 2 * p := by
  have h1 := Int.ediv_nonneg h0 (by omega : 0 ≤ p)
  have h2 : m / p < 2 ↔ m < 2 * p := Int.ediv_lt_iff_lt_mul hp
  omega

set_option maxRecDepth 100000 in
set_option maxHeartbeats 8000000 in
theorem lenglish_any (c s : Int) (w : World) (hT : TR w) (hK : KindsW w) :
    Calls Tryd.prog 8 #[.agg #[.int .i64 c, .int .i64 s]] w fun e w' => e = .returned (.bool true) ∧ Below w.heap.size w w' := by
  have C1 : Hid (∀ wx : World, Calls Tryd.prog 18 #[.string ⟨#[101, 110]⟩] wx fun e w' => e = .returned (.tuple #[.agg #[.string ⟨#[]⟩, .string ⟨Rul.enOneS.toArray⟩, .string ⟨#[]⟩, .string ⟨#[]⟩, .string ⟨#[]⟩], .nilIface]) ∧ Below wx.heap.size wx w') := Lib.hid fun wx => langRules_en wx
  have C2 : Hid (∀ wx : World, Calls Tryd.prog 18 #[.string ⟨#[102, 114]⟩] wx fun e w' => e = .returned (.tuple #[.agg #[.string ⟨#[]⟩, .string ⟨Rul.frOneS.toArray⟩, .string ⟨#[]⟩, .string ⟨#[]⟩, .string ⟨#[]⟩], .nilIface]) ∧ Below wx.heap.size wx w') := Lib.hid fun wx => langRules_fr wx
  have C3 : Hid (∀ wx : World, Calls Tryd.prog 18 #[.string ⟨#[106, 97]⟩] wx fun e w' => e = .returned (.tuple #[.agg #[.string ⟨#[]⟩, .string ⟨#[]⟩, .string ⟨#[]⟩, .string ⟨#[]⟩, .string ⟨#[]⟩], .nilIface]) ∧ Below wx.heap.size wx w') := Lib.hid fun wx => langRules_ja wx
  by_cases hd : okD c s
  · obtain ⟨A, hA⟩ : ∃ A, Rul.kindS Rul.enL (Rul.opsD c s) 0 = A := ⟨_, rfl⟩
    obtain ⟨B, hB⟩ : ∃ B, Rul.kindS Rul.frL (Rul.opsD c s) 0 = B := ⟨_, rfl⟩
    have KA : Hid (∀ wx : World, Below w.heap.size w wx → Calls Tryd.prog 14 #[.agg #[.string ⟨#[]⟩, .string ⟨Rul.enOneS.toArray⟩, .string ⟨#[]⟩, .string ⟨#[]⟩, .string ⟨#[]⟩], .agg #[.int .i64 c, .int .i64 s]] wx fun e w' => e = .returned (.tuple #[.string ⟨A.toArray⟩, .nilIface]) ∧ Below wx.heap.size wx w') :=
      Lib.hid fun wx hb => hA ▸ kind_ok [] Rul.enOneS [] [] [] c s wx (hT.below hb) (hK.below hb) en_len Rul.en_ok hd
    have KB : Hid (∀ wx : World, Below w.heap.size w wx → Calls Tryd.prog 14 #[.agg #[.string ⟨#[]⟩, .string ⟨Rul.frOneS.toArray⟩, .string ⟨#[]⟩, .string ⟨#[]⟩, .string ⟨#[]⟩], .agg #[.int .i64 c, .int .i64 s]] wx fun e w' => e = .returned (.tuple #[.string ⟨B.toArray⟩, .nilIface]) ∧ Below wx.heap.size wx w') :=
      Lib.hid fun wx hb => hB ▸ kind_ok [] Rul.frOneS [] [] [] c s wx (hT.below hb) (hK.below hb) fr_len Rul.fr_ok hd
    have KC : Hid (∀ wx : World, Below w.heap.size w wx → Calls Tryd.prog 14 #[.agg #[.string ⟨#[]⟩, .string ⟨#[]⟩, .string ⟨#[]⟩, .string ⟨#[]⟩, .string ⟨#[]⟩], .agg #[.int .i64 c, .int .i64 s]] wx fun e w' => e = .returned (.tuple #[.string ⟨#[111, 116, 104, 101, 114]⟩, .nilIface]) ∧ Below wx.heap.size wx w') :=
      Lib.hid fun wx hb => kind_ok [] [] [] [] [] c s wx (hT.below hb) (hK.below hb) ja_len Rul.ja_ok hd
    have CS := Lib.hid fun (wx : World) => size_any c wx (by have := hd.2.2.1; omega) (by have := hd.2.2.2; omega)
    have CT := Lib.hid fun (wx : World) => ten_any s wx hd.1 hd.2.1
    have hM := Dcm.mag_bd c
    have hM2 : Dcm.mag c ≤ 1000000000000000 := by have := hd.2.2; unfold Dcm.mag; split <;> omega
    have hP := Dcm.P10_bd s
    have hN := near_two (Dcm.mag c) (P10 s) hM (by omega)
    rw [Rul.en_kind, show (Rul.opsD c s).i = Dcm.mag c / P10 s from rfl, show (Rul.opsD c s).v = s from rfl] at hA
    rw [Rul.fr_kind, show (Rul.opsD c s).i = Dcm.mag c / P10 s from rfl] at hB
    have hP0 : s = 0 → P10 s = 1 := by rintro rfl; rfl
    have hq : s = 0 → Dcm.mag c / P10 s = Dcm.mag c := fun h => by rw [hP0 h, Int.ediv_one]
    generalize Dcm.mag c / P10 s = Q at *
    generalize Dcm.mag c = M at *
    generalize P10 s = P at *
    have HA := Lib.hid hA
    have HB := Lib.hid hB
    have HN := Lib.hid hN
    have HQ := Lib.hid hq
    have HP0 := Lib.hid hP0
    clear hA hB hT hK hN hq hP0
    generalize Rul.enOneS = T1 at *
    generalize Rul.frOneS = U1 at *
    go_enter Tryd.func8, Tryd.ntmps8
    go_wp2_with fail
    refine (C1.out _).mono ?_
    rintro e w1 ⟨rfl, hb⟩
    have D1 := Lib.hid (((Boxed.made w #[.int .i64 c, .int .i64 s] 41).below hb).alloc (.cells #[.string ⟨#[]⟩, .string ⟨T1.toArray⟩, .string ⟨#[]⟩, .string ⟨#[]⟩, .string ⟨#[]⟩] 39))
    have E1 := Lib.hid (Boxed.made w1 #[.string ⟨#[]⟩, .string ⟨T1.toArray⟩, .string ⟨#[]⟩, .string ⟨#[]⟩, .string ⟨#[]⟩] 39)
    have W1 := Lib.hid ((blw_trans (blw_alloc w (.cells #[.int .i64 c, .int .i64 s] 41)) hb).trans ((blw_alloc w1 (.cells #[.string ⟨#[]⟩, .string ⟨T1.toArray⟩, .string ⟨#[]⟩, .string ⟨#[]⟩, .string ⟨#[]⟩] 39)).mono (blw_trans (blw_alloc w (.cells #[.int .i64 c, .int .i64 s] 41)) hb).size))
    clear hb C1
    go_wp2_with fail
    refine (C2.out _).mono ?_
    rintro e w2 ⟨rfl, hb⟩
    have D2 := Lib.hid ((D1.out.below hb).alloc (.cells #[.string ⟨#[]⟩, .string ⟨U1.toArray⟩, .string ⟨#[]⟩, .string ⟨#[]⟩, .string ⟨#[]⟩] 39))
    have E2 := Lib.hid ((E1.out.below hb).alloc (.cells #[.string ⟨#[]⟩, .string ⟨U1.toArray⟩, .string ⟨#[]⟩, .string ⟨#[]⟩, .string ⟨#[]⟩] 39))
    have F2 := Lib.hid (Boxed.made w2 #[.string ⟨#[]⟩, .string ⟨U1.toArray⟩, .string ⟨#[]⟩, .string ⟨#[]⟩, .string ⟨#[]⟩] 39)
    have W2 := Lib.hid ((blw_trans W1.out hb).trans ((blw_alloc w2 (.cells #[.string ⟨#[]⟩, .string ⟨U1.toArray⟩, .string ⟨#[]⟩, .string ⟨#[]⟩, .string ⟨#[]⟩] 39)).mono (blw_trans W1.out hb).size))
    clear hb C2 D1 E1 W1
    go_wp2_with fail
    refine (C3.out _).mono ?_
    rintro e w3 ⟨rfl, hb⟩
    have D3 := Lib.hid ((D2.out.below hb).alloc (.cells #[.string ⟨#[]⟩, .string ⟨#[]⟩, .string ⟨#[]⟩, .string ⟨#[]⟩, .string ⟨#[]⟩] 39))
    have E3 := Lib.hid (E2.out.below hb)
    have F3 := Lib.hid ((F2.out.below hb).alloc (.cells #[.string ⟨#[]⟩, .string ⟨#[]⟩, .string ⟨#[]⟩, .string ⟨#[]⟩, .string ⟨#[]⟩] 39))
    have J3 := Lib.hid (Boxed.made w3 #[.string ⟨#[]⟩, .string ⟨#[]⟩, .string ⟨#[]⟩, .string ⟨#[]⟩, .string ⟨#[]⟩] 39)
    have D0 := Lib.hid (D2.out.below hb)
    have W3 := Lib.hid ((blw_trans W2.out hb).trans ((blw_alloc w3 (.cells #[.string ⟨#[]⟩, .string ⟨#[]⟩, .string ⟨#[]⟩, .string ⟨#[]⟩, .string ⟨#[]⟩] 39)).mono (blw_trans W2.out hb).size))
    clear hb C3 D2 E2 F2 W2
    have e0 := E3.out.cell 0 _ rfl
    have e1 := E3.out.cell 1 _ rfl
    have e2 := E3.out.cell 2 _ rfl
    have e3 := E3.out.cell 3 _ rfl
    have e4 := E3.out.cell 4 _ rfl
    have el := E3.out.lt
    have d0 := D0.out.cell 0 _ rfl
    have d1 := D0.out.cell 1 _ rfl
    have dl := D0.out.lt
    go_wp2_with fail
    refine (KA.out _ W3.out).mono ?_
    rintro e w4 ⟨rfl, hb⟩
    have D4 := Lib.hid (D3.out.below hb)
    have F4 := Lib.hid (F3.out.below hb)
    have J4 := Lib.hid (J3.out.below hb)
    have W4 := Lib.hid (blw_trans W3.out hb)
    clear hb KA D3 E3 F3 J3 D0 W3 e0 e1 e2 e3 e4 el d0 d1 dl
    have f0 := F4.out.cell 0 _ rfl
    have f1 := F4.out.cell 1 _ rfl
    have f2 := F4.out.cell 2 _ rfl
    have f3 := F4.out.cell 3 _ rfl
    have f4 := F4.out.cell 4 _ rfl
    have fl := F4.out.lt
    have d0 := D4.out.cell 0 _ rfl
    have d1 := D4.out.cell 1 _ rfl
    have dl := D4.out.lt
    go_wp2_with fail
    refine (KB.out _ W4.out).mono ?_
    rintro e w5 ⟨rfl, hb⟩
    have D5 := Lib.hid (D4.out.below hb)
    have J5 := Lib.hid (J4.out.below hb)
    have W5 := Lib.hid (blw_trans W4.out hb)
    clear hb KB D4 F4 J4 W4 f0 f1 f2 f3 f4 fl d0 d1 dl
    have j0 := J5.out.cell 0 _ rfl
    have j1 := J5.out.cell 1 _ rfl
    have j2 := J5.out.cell 2 _ rfl
    have j3 := J5.out.cell 3 _ rfl
    have j4 := J5.out.cell 4 _ rfl
    have jl := J5.out.lt
    have d0 := D5.out.cell 0 _ rfl
    have d1 := D5.out.cell 1 _ rfl
    have dl := D5.out.lt
    go_wp2_with fail
    refine (KC.out _ W5.out).mono ?_
    rintro e w6 ⟨rfl, hb⟩
    have D6 := Lib.hid (D5.out.below hb)
    have W6 := Lib.hid (blw_trans W5.out hb)
    clear hb KC D5 J5 W5 j0 j1 j2 j3 j4 jl d0 d1 dl
    have d0 := D6.out.cell 0 _ rfl
    have d1 := D6.out.cell 1 _ rfl
    have dl := D6.out.lt
    have ca := HA.out
    have cb := HB.out
    simp only [Rul.kOne, Rul.other] at ca cb
    have hn := HN.out
    clear HA HB HN
    by_cases hs : s = 0
    · subst hs
      have hQM := HQ.out rfl
      have hP1 := HP0.out rfl
      by_cases h1 : M = 1
      · have m1 : (M == 1) = true := beq_yes h1
        obtain rfl : A = [111, 110, 101] := by rw [← ca]; (repeat' split) <;> first | rfl | (exfalso; omega)
        obtain rfl : B = [111, 110, 101] := by rw [← cb]; (repeat' split) <;> first | rfl | (exfalso; omega)
        have dn : decide (M < 2 * P) = true := dec_yes (by omega)
        clear ca cb hn
        go_wp2_with fail
        refine (CS.out _).mono ?_
        rintro e w7 ⟨rfl, rfl⟩
        go_wp2_with fail
        go_big_quiet (first | (go_at_call 21; with_reducible exact quiet_left (CT.out _)) | (go_at_call 20; with_reducible exact quiet_left (CS.out _)))
        go_wp2_with fail
        go_ret
        exact ⟨ret_bool (by simp <;> omega), blw_drewN W6.out _⟩
      · have m1 : (M == 1) = false := beq_no h1
        by_cases h2 : M = 0
        · skip
          obtain rfl : A = [111, 116, 104, 101, 114] := by rw [← ca]; (repeat' split) <;> first | rfl | (exfalso; omega)
          obtain rfl : B = [111, 110, 101] := by rw [← cb]; (repeat' split) <;> first | rfl | (exfalso; omega)
          have dn : decide (M < 2 * P) = true := dec_yes (by omega)
          clear ca cb hn
          go_wp2_with fail
          refine (CS.out _).mono ?_
          rintro e w7 ⟨rfl, rfl⟩
          go_wp2_with fail
          go_big_quiet (first | (go_at_call 21; with_reducible exact quiet_left (CT.out _)) | (go_at_call 20; with_reducible exact quiet_left (CS.out _)))
          go_wp2_with fail
          go_ret
          exact ⟨ret_bool (by simp <;> omega), blw_drewN W6.out _⟩
        · skip
          obtain rfl : A = [111, 116, 104, 101, 114] := by rw [← ca]; (repeat' split) <;> first | rfl | (exfalso; omega)
          obtain rfl : B = [111, 116, 104, 101, 114] := by rw [← cb]; (repeat' split) <;> first | rfl | (exfalso; omega)
          have dn : decide (M < 2 * P) = false := dec_no (by omega)
          clear ca cb hn
          go_wp2_with fail
          refine (CS.out _).mono ?_
          rintro e w7 ⟨rfl, rfl⟩
          go_wp2_with fail
          go_big_quiet (first | (go_at_call 21; with_reducible exact quiet_left (CT.out _)) | (go_at_call 20; with_reducible exact quiet_left (CS.out _)))
          go_wp2_with fail
          go_ret
          exact ⟨ret_bool (by simp <;> omega), blw_drewN W6.out _⟩
    · have s0 : (s == 0) = false := beq_no hs
      by_cases h2 : M < 2 * P
      · skip
        obtain rfl : A = [111, 116, 104, 101, 114] := by rw [← ca]; (repeat' split) <;> first | rfl | (exfalso; omega)
        obtain rfl : B = [111, 110, 101] := by rw [← cb]; (repeat' split) <;> first | rfl | (exfalso; omega)
        have dn : decide (M < 2 * P) = true := dec_yes (by omega)
        clear ca cb hn
        go_wp2_with fail
        go_big_quiet (first | (go_at_call 21; with_reducible exact quiet_left (CT.out _)) | (go_at_call 20; with_reducible exact quiet_left (CS.out _)))
        go_wp2_with fail
        go_ret
        exact ⟨ret_bool (by simp <;> omega), blw_drewN W6.out _⟩
      · skip
        obtain rfl : A = [111, 116, 104, 101, 114] := by rw [← ca]; (repeat' split) <;> first | rfl | (exfalso; omega)
        obtain rfl : B = [111, 116, 104, 101, 114] := by rw [← cb]; (repeat' split) <;> first | rfl | (exfalso; omega)
        have dn : decide (M < 2 * P) = false := dec_no (by omega)
        clear ca cb hn
        go_wp2_with fail
        go_big_quiet (first | (go_at_call 21; with_reducible exact quiet_left (CT.out _)) | (go_at_call 20; with_reducible exact quiet_left (CS.out _)))
        go_wp2_with fail
        go_ret
        exact ⟨ret_bool (by simp <;> omega), blw_drewN W6.out _⟩
  · skip
    have KA : Hid (∀ wx : World, Below w.heap.size w wx → Calls Tryd.prog 14 #[.agg #[.string ⟨#[]⟩, .string ⟨Rul.enOneS.toArray⟩, .string ⟨#[]⟩, .string ⟨#[]⟩, .string ⟨#[]⟩], .agg #[.int .i64 c, .int .i64 s]] wx fun e w' => e = .returned (.tuple #[.string ⟨#[]⟩, errV 1]) ∧ Below wx.heap.size wx w') :=
      Lib.hid fun wx hb => kind_num [] Rul.enOneS [] [] [] c s wx (hT.below hb) en_len Rul.en_ok hd
    have KB : Hid (∀ wx : World, Below w.heap.size w wx → Calls Tryd.prog 14 #[.agg #[.string ⟨#[]⟩, .string ⟨Rul.frOneS.toArray⟩, .string ⟨#[]⟩, .string ⟨#[]⟩, .string ⟨#[]⟩], .agg #[.int .i64 c, .int .i64 s]] wx fun e w' => e = .returned (.tuple #[.string ⟨#[]⟩, errV 1]) ∧ Below wx.heap.size wx w') :=
      Lib.hid fun wx hb => kind_num [] Rul.frOneS [] [] [] c s wx (hT.below hb) fr_len Rul.fr_ok hd
    have KC : Hid (∀ wx : World, Below w.heap.size w wx → Calls Tryd.prog 14 #[.agg #[.string ⟨#[]⟩, .string ⟨#[]⟩, .string ⟨#[]⟩, .string ⟨#[]⟩, .string ⟨#[]⟩], .agg #[.int .i64 c, .int .i64 s]] wx fun e w' => e = .returned (.tuple #[.string ⟨#[]⟩, errV 1]) ∧ Below wx.heap.size wx w') :=
      Lib.hid fun wx hb => kind_num [] [] [] [] [] c s wx (hT.below hb) ja_len Rul.ja_ok hd
    have CD := Lib.hid fun (wx : World) => dchk_no c s wx hd
    clear hd hT hK
    generalize Rul.enOneS = T1 at *
    generalize Rul.frOneS = U1 at *
    go_enter Tryd.func8, Tryd.ntmps8
    go_wp2_with fail
    refine (C1.out _).mono ?_
    rintro e w1 ⟨rfl, hb⟩
    have D1 := Lib.hid (((Boxed.made w #[.int .i64 c, .int .i64 s] 41).below hb).alloc (.cells #[.string ⟨#[]⟩, .string ⟨T1.toArray⟩, .string ⟨#[]⟩, .string ⟨#[]⟩, .string ⟨#[]⟩] 39))
    have E1 := Lib.hid (Boxed.made w1 #[.string ⟨#[]⟩, .string ⟨T1.toArray⟩, .string ⟨#[]⟩, .string ⟨#[]⟩, .string ⟨#[]⟩] 39)
    have W1 := Lib.hid ((blw_trans (blw_alloc w (.cells #[.int .i64 c, .int .i64 s] 41)) hb).trans ((blw_alloc w1 (.cells #[.string ⟨#[]⟩, .string ⟨T1.toArray⟩, .string ⟨#[]⟩, .string ⟨#[]⟩, .string ⟨#[]⟩] 39)).mono (blw_trans (blw_alloc w (.cells #[.int .i64 c, .int .i64 s] 41)) hb).size))
    clear hb C1
    go_wp2_with fail
    refine (C2.out _).mono ?_
    rintro e w2 ⟨rfl, hb⟩
    have D2 := Lib.hid ((D1.out.below hb).alloc (.cells #[.string ⟨#[]⟩, .string ⟨U1.toArray⟩, .string ⟨#[]⟩, .string ⟨#[]⟩, .string ⟨#[]⟩] 39))
    have E2 := Lib.hid ((E1.out.below hb).alloc (.cells #[.string ⟨#[]⟩, .string ⟨U1.toArray⟩, .string ⟨#[]⟩, .string ⟨#[]⟩, .string ⟨#[]⟩] 39))
    have F2 := Lib.hid (Boxed.made w2 #[.string ⟨#[]⟩, .string ⟨U1.toArray⟩, .string ⟨#[]⟩, .string ⟨#[]⟩, .string ⟨#[]⟩] 39)
    have W2 := Lib.hid ((blw_trans W1.out hb).trans ((blw_alloc w2 (.cells #[.string ⟨#[]⟩, .string ⟨U1.toArray⟩, .string ⟨#[]⟩, .string ⟨#[]⟩, .string ⟨#[]⟩] 39)).mono (blw_trans W1.out hb).size))
    clear hb C2 D1 E1 W1
    go_wp2_with fail
    refine (C3.out _).mono ?_
    rintro e w3 ⟨rfl, hb⟩
    have D3 := Lib.hid ((D2.out.below hb).alloc (.cells #[.string ⟨#[]⟩, .string ⟨#[]⟩, .string ⟨#[]⟩, .string ⟨#[]⟩, .string ⟨#[]⟩] 39))
    have E3 := Lib.hid (E2.out.below hb)
    have F3 := Lib.hid ((F2.out.below hb).alloc (.cells #[.string ⟨#[]⟩, .string ⟨#[]⟩, .string ⟨#[]⟩, .string ⟨#[]⟩, .string ⟨#[]⟩] 39))
    have J3 := Lib.hid (Boxed.made w3 #[.string ⟨#[]⟩, .string ⟨#[]⟩, .string ⟨#[]⟩, .string ⟨#[]⟩, .string ⟨#[]⟩] 39)
    have D0 := Lib.hid (D2.out.below hb)
    have W3 := Lib.hid ((blw_trans W2.out hb).trans ((blw_alloc w3 (.cells #[.string ⟨#[]⟩, .string ⟨#[]⟩, .string ⟨#[]⟩, .string ⟨#[]⟩, .string ⟨#[]⟩] 39)).mono (blw_trans W2.out hb).size))
    clear hb C3 D2 E2 F2 W2
    have e0 := E3.out.cell 0 _ rfl
    have e1 := E3.out.cell 1 _ rfl
    have e2 := E3.out.cell 2 _ rfl
    have e3 := E3.out.cell 3 _ rfl
    have e4 := E3.out.cell 4 _ rfl
    have el := E3.out.lt
    have d0 := D0.out.cell 0 _ rfl
    have d1 := D0.out.cell 1 _ rfl
    have dl := D0.out.lt
    go_wp2_with fail
    refine (KA.out _ W3.out).mono ?_
    rintro e w4 ⟨rfl, hb⟩
    have D4 := Lib.hid (D3.out.below hb)
    have F4 := Lib.hid (F3.out.below hb)
    have J4 := Lib.hid (J3.out.below hb)
    have W4 := Lib.hid (blw_trans W3.out hb)
    clear hb KA D3 E3 F3 J3 D0 W3 e0 e1 e2 e3 e4 el d0 d1 dl
    have f0 := F4.out.cell 0 _ rfl
    have f1 := F4.out.cell 1 _ rfl
    have f2 := F4.out.cell 2 _ rfl
    have f3 := F4.out.cell 3 _ rfl
    have f4 := F4.out.cell 4 _ rfl
    have fl := F4.out.lt
    have d0 := D4.out.cell 0 _ rfl
    have d1 := D4.out.cell 1 _ rfl
    have dl := D4.out.lt
    go_wp2_with fail
    refine (KB.out _ W4.out).mono ?_
    rintro e w5 ⟨rfl, hb⟩
    have D5 := Lib.hid (D4.out.below hb)
    have J5 := Lib.hid (J4.out.below hb)
    have W5 := Lib.hid (blw_trans W4.out hb)
    clear hb KB D4 F4 J4 W4 f0 f1 f2 f3 f4 fl d0 d1 dl
    have j0 := J5.out.cell 0 _ rfl
    have j1 := J5.out.cell 1 _ rfl
    have j2 := J5.out.cell 2 _ rfl
    have j3 := J5.out.cell 3 _ rfl
    have j4 := J5.out.cell 4 _ rfl
    have jl := J5.out.lt
    have d0 := D5.out.cell 0 _ rfl
    have d1 := D5.out.cell 1 _ rfl
    have dl := D5.out.lt
    go_wp2_with fail
    refine (KC.out _ W5.out).mono ?_
    rintro e w6 ⟨rfl, hb⟩
    have D6 := Lib.hid (D5.out.below hb)
    have W6 := Lib.hid (blw_trans W5.out hb)
    clear hb KC D5 J5 W5 j0 j1 j2 j3 j4 jl d0 d1 dl
    have d0 := D6.out.cell 0 _ rfl
    have d1 := D6.out.cell 1 _ rfl
    have dl := D6.out.lt
    go_wp2_with fail
    refine (CD.out _).mono ?_
    rintro e w7 ⟨rfl, hb⟩
    have W7 := Lib.hid (blw_trans W6.out hb)
    clear hb CD
    go_wp2_with fail
    go_ret
    exact ⟨rfl, W7.out⟩
end Go.Proofs.YtoglgcjdjbjlmaaDoor
namespace Go.Proofs.YtoglgcjdjbjlmaaDoor
open Go.RowKit

theorem gPowT : (Tryd.prog.globals[6]?).map (·.type) = some 144 := by kernel_rfl
theorem cellsPow : Tryd.prog.cellsOf 144 = 20 := by kernel_rfl
theorem cellsU64 : Tryd.prog.cellsOf 129 = 1 := by kernel_rfl
theorem powW_of {L : List (String × DataW Unit)} {W : World} (h : laidMetH Tryd.prog L W) (hf : L.filter (fun x => x.1 == "internal/strconv.uint64pow10") = [("internal/strconv.uint64pow10", Rows.laid_internal_strconv_uint64pow10)]) : PowW W := by
  have g := laidMetH.filter (fun x => x.1 == "internal/strconv.uint64pow10") h
  rw [hf, MakeChecks.laidMetH_plain _ _ _ (by kernel_rfl)] at g
  exact Lib.tabIs_of_head gPow gPowT Tryd.underlying144 Tryd.underlying129 cellsU64 cellsPow g
end Go.Proofs.YtoglgcjdjbjlmaaDoor
namespace Go.Proofs.YtoglgcjdjbjlmaaDoor
open Go.RowKit Go.ChangeShapes Go.WideShapes

theorem gKinds : Tryd.prog.globalNamed "linguister/plural.kinds" = some 0 := by kernel_rfl
theorem gKindsT : (Tryd.prog.globals[0]?).map (·.type) = some 75 := by kernel_rfl
theorem cellsKinds : Tryd.prog.cellsOf 75 = 5 := by kernel_rfl
theorem cellsText : Tryd.prog.cellsOf 9 = 1 := by kernel_rfl
theorem kindsW_of {L : List (String × DataW Unit)} {W : World} (h : laidMetH Tryd.prog L W) (hf : L.filter (fun x => x.1 == "linguister/plural.kinds") = [("linguister/plural.kinds", Rows.laid_linguister_plural_kinds)]) : KindsW W := by
  have g := laidMetH.filter (fun x => x.1 == "linguister/plural.kinds") h
  rw [hf, MakeChecks.laidMetH_plain _ _ _ (by kernel_rfl)] at g
  obtain ⟨ps, ⟨gg, t, cs, fuel, p, q, hg, ht, hvar, hd, _, _⟩, _⟩ := g
  obtain rfl := Option.some.inj (gKinds.symm.trans hg)
  obtain rfl := Option.some.inj (gKindsT.symm.trans ht)
  obtain ⟨xs, m, _, hx, hl, hxl, hel⟩ := DataW.trod_array Tryd.underlying75 hd
  rw [cellsKinds] at hl
  rw [cellsText] at hel
  intro i s hs
  have hi : i < 5 := (List.getElem?_eq_some_iff.1 hs).1
  have h1 := hel i hi
  have hcl : i < cs.toList.length := by omega
  have hone : (cs.toList.drop (i * 1)).take 1 = [cs.toList[i]'hcl] := by
    rw [Nat.mul_one, List.drop_eq_getElem_cons hcl]
    rfl
  rw [hone, List.getElem?_eq_getElem (by omega)] at h1
  obtain ⟨b, e, hb, _⟩ := DataW.trod_string Tryd.underlying9 h1
  have e2 : cs.toList[i]'hcl = .string b := by simpa using e
  have hv := World.var?_cell gKinds hvar i
  rw [hv]
  have hget : cs[i]? = some (cs.toList[i]'hcl) := by
    rw [← Array.getElem?_toList]; exact List.getElem?_eq_getElem hcl
  rw [hget, e2]
  have hx1 : (xs.map (·.1))[i]? = some (.lit (.string b.data.toList)) := by
    rw [List.getElem?_map, List.getElem?_eq_getElem (by omega)]
    simp [hb]
  have hk : xs.map (·.1) = Rul.kindL.map fun s => (.lit (.string s) : DataW Unit) := by
    have := congrArg Prod.fst hx
    simp only [Rows.laid_linguister_plural_kinds] at this
    injection this with this
    rw [← this]
    rfl
  rw [hk, List.getElem?_map, hs] at hx1
  have e3 : s = b.data.toList := by simpa using hx1
  rw [e3]
end Go.Proofs.YtoglgcjdjbjlmaaDoor
namespace Go.Proofs.YtoglgcjdjbjlmaaDoor.lawLangEnglish
open Go.ChangeShapes Go.WideShapes Go.ChangeAt Go.RowKit Go.Joins

theorem own : ownKnob Tryd.prog.godebug = none := by kernel_rfl
theorem laidOut : laidOutB Tryd.prog = true := by kernel_rfl
theorem cellsDec : Tryd.prog.cellsOf 41 = 2 := by kernel_rfl

set_option maxRecDepth 100000 in
theorem contract (H : Type) (enc : TypeId × Value → H) (W : World) (base : Nat) (args : Array Value) (ds gs : List (DataW H)) (before : List MemPlace)
    (hval : ∀ (j : Nat) t v, Tryd.f8.params[j]? = some t → args[j]? = some v → Value.okWide Tryd.prog W .any base t v)
    (hW : DataW.Whole enc Tryd.prog Tryd.f8.params.toList Rows.langEnglishSpec.vars false W args.toList ds gs before) (hL : laidMetH Tryd.prog Rows.langEnglishRow.laid W) (hS : W.ShapedOpen Tryd.prog) :
    Calls Tryd.prog 8 args W fun e W' => ∃ v, e = .returned v ∧ Rows.langEnglishSpec.post enc Tryd.prog Tryd.f8 false true false false W args v W' := by
  have hpost : ∀ W', Below W.heap.size W W' → Rows.langEnglishSpec.post enc Tryd.prog Tryd.f8 false true false false W args (.bool true) W' := fun W' hb =>
    law_post (tb := 4) laidOut rfl Tryd.underlying4 rfl (by kernel_rfl) (fun ds h => by match ds, h with | [x0], _ => rfl) hW hb
  obtain ⟨p, q, hA0, hV, _, hfz, hnd⟩ := hW
  have hA : DataW.TrodAll enc Tryd.prog W 0 (fun _ => true) true Tryd.f8.params.toList args.toList ds p := hA0
  obtain ⟨rfl, rfl⟩ := trodVars_none hV
  rw [Tryd.params8] at hA hval
  obtain ⟨v0, vs0, d0, ds0, p0, q0, hargs, rfl, hp0, h0, r0⟩ := trodAll_cons hA
  obtain ⟨rfl, rfl, hp⟩ := trodAll_nil r0
  obtain rfl : args = #[v0] := by cases args; simp_all
  obtain ⟨c0_0, c0_1, y0_0, y0_1, m0, rfl, rfl, rfl, hy0_0, hy0_1⟩ := open_agg2 Tryd.underlying41 (by kernel_rfl) cellsDec (hval 0 41 v0 rfl rfl) h0
  obtain ⟨d_c, e0_0, _, w_d_c⟩ := DataW.trod_int Tryd.underlying3 hy0_0
  obtain ⟨d_s, e0_1, _, w_d_s⟩ := DataW.trod_int Tryd.underlying3 hy0_1
  simp at e0_0 e0_1
  subst e0_0 e0_1
  have b_d_c := bounds_i64 w_d_c
  have b_d_s := bounds_i64 w_d_s
  clear hA0 hfz hnd hval
  have hm : MaxW W := Go.Proofs.cell_of_shapedOpen_int (zero := #[.int .i64 0]) (t := 3) hS (of_decide_eq_true (by kernel_rfl)) (by kernel_rfl) rfl (by kernel_rfl) (by kernel_rfl) Tryd.underlying3
  have hT : TR W := ⟨powW_of hL (by kernel_rfl), numW_of hL (by kernel_rfl) (by kernel_rfl), hm⟩
  have hK : KindsW W := kindsW_of hL (by kernel_rfl)
  refine Calls.mono (?_ : Calls Tryd.prog 8 #[.agg #[.int .i64 d_c, .int .i64 d_s]] W fun e w' => e = .returned (.bool true) ∧ Below W.heap.size W w') fun e W' ⟨he, hb⟩ => ⟨_, he, hpost W' hb⟩
  exact lenglish_any d_c d_s W hT hK

theorem start_met (os : Os) : laidMetH Tryd.prog Rows.langEnglishRow.laid ((World.laidAll Tryd.prog os Rows.langEnglishRow.laid).forCall (fun _ _ => 0) ⟨#[], #[.agg #[.int .i64 0, .int .i64 0]], []⟩).memory :=
  by rw [MakeChecks.laidMetH_plain _ _ _ (by kernel_rfl)]; exact laidMet_laidAll _ (by kernel_rfl) (by kernel_rfl)
theorem start_reads (os : Os) {H : Type} (enc : TypeId × Value → H) : ∃ places, DataW.whole enc Tryd.prog ((World.laidAll Tryd.prog os Rows.langEnglishRow.laid).forCall (fun _ _ => 0) ⟨#[], #[.agg #[.int .i64 0, .int .i64 0]], []⟩).memory Tryd.f8.params.toList Rows.langEnglishSpec.vars false (#[.agg #[.int .i64 0, .int .i64 0]] : Array Value).toList 8 = some ([.agg [.lit (.int .i64 0), .lit (.int .i64 0)]], [], places) :=
  ⟨[], by kernel_rfl⟩

set_option maxRecDepth 100000 in
theorem lifted (os : Os) (started : os.Started) (H : Type) (enc : TypeId × Value → H) (F : Stop.Interp) :
    ReturnsInHanded {} Tryd.checked os 8 .any ((OpenSpec.ofChange Rows.langEnglishSpec).preRow enc Tryd.prog Tryd.f8 Rows.langEnglishRow.domain false Rows.langEnglishRow.laid) (((OpenSpec.ofChange Rows.langEnglishSpec).at F).post enc Tryd.prog Tryd.f8 false true false false) := by
  obtain ⟨places, hx⟩ := start_reads os enc
  refine returnsInHanded_of_row (C := Tryd.checked) (s := OpenSpec.ofChange Rows.langEnglishSpec) own started (by kernel_rfl) Tryd.func8
    (witness_row_atRef (enc := enc) (C := Tryd.checked) false (World.laidAll Tryd.prog os Rows.langEnglishRow.laid) #[.agg #[.int .i64 0, .int .i64 0]] (World.laidAll_os _ _ _) (by kernel_rfl) (by kernel_rfl) (by kernel_rfl)
      (OpenSpec.preRow_of_cond 8 hx (by kernel_rfl) (fun k hk => by cases hk) (by kernel_rfl) (start_met os))) ?_
  intro W base args ds gs before hval hW _ _ _ hL hS _
  exact contract H enc W base args ds gs before hval hW hL hS

theorem said : Rows.LangEnglishSaid :=
  OpenClaim.holds_of_cond 8 Tryd.f8 rfl rfl rfl rfl rfl rfl rfl ⟨rfl, rfl, rfl, rfl, rfl⟩ rfl rfl rfl rfl rfl (by kernel_rfl) Tryd.func8 (by kernel_rfl)
    (of_decide_eq_true (by kernel_rfl)) (by unfold Func.isWrapper; first | (rw [if_pos (by decide +kernel)]; kernel_rfl) | (rw [if_neg (by decide +kernel)]; exact ⟨rfl, rfl⟩))
    (fun os started H enc _ F => by rw [OpenClaim.pre_eq_preRow]; exact lifted os started H enc F)

theorem plain (f : FuncId) (fn : Func) (hf : Tryd.pinned.checked.prog.funcNamed "linguister/linguisterlaw1.LangEnglish" = some f) (hfn : Tryd.pinned.checked.prog.funcs[f]? = some fn) :
    true = Tryd.pinned.checked.prog.looks [] ∧ ∀ (j : Nat) t, fn.params[j]? = some t → Tryd.pinned.checked.prog.wantsStandIn t = false := by
  obtain rfl : f = 8 := Option.some.inj ((show Tryd.prog.funcNamed "linguister/linguisterlaw1.LangEnglish" = some 8 by kernel_rfl).symm.trans hf) |>.symm
  obtain rfl : fn = Tryd.f8 := (Option.some.inj (Tryd.func8.symm.trans hfn)).symm
  refine ⟨by kernel_rfl, fun j t ht => ?_⟩
  rw [Tryd.params8] at ht
  have hm : t ∈ [41] := by simpa using Array.mem_of_getElem? ht
  have hall : ([41].all fun u => !Tryd.prog.wantsStandIn u) = true := by kernel_rfl
  exact (show Tryd.prog.wantsStandIn t = false by simpa using List.all_eq_true.1 hall t hm)

theorem proved : Rows.LangEnglishCardSaid :=
  Claim7.holds_tied_plain_at .later [] _ _ _ _ said (fun _ h => by cases h) (by kernel_rfl) (fun _ h => by cases h) langEnglish_row_tie rfl ⟨rfl, rfl⟩ (by kernel_rfl) rfl plain (by kernel_rfl)
#print axioms proved
end Go.Proofs.YtoglgcjdjbjlmaaDoor.lawLangEnglish
