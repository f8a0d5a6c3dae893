/- The walk of strings.SplitSeq's iterator: it hands over the pieces of a text, one by one. Conditions: the separator is not empty; the texts are short; the library's variable MaxLen is there, below what the loop's body keeps. -/
import Derived.Test.YtaijjffnamjhiaaGreatDoorRng
import Derived.Test.YtaijjffnamjhiaaGreatDoorShelfI
import Derived.Test.YtaijjffnamjhiaaGreatDoorMax
import Derived.Test.YtaijjffnamjhiaaGreatDoorCutP
import Derived.Test.YtaijjffnamjhiaaGreatDoorStr
import Derived.Test.YtaijjffnamjhiaaGreatDoorBox
import Derived.Lib.Hide
import Derived.RangeFuncBox
import Derived.Shelf.Abstract
import Derived.OwnWalkIn
import Derived.TacticsInMore
import Derived.LoopNIn
import Derived.LoopIn
namespace Go.Proofs.YtaijjffnamjhiaaGreatDoor
open Go.RowKit Go.Shelf

attribute [local go_sem] Oper.semAt_some

/-- what a round over pieces keeps: what lay below n₀, and the iterator's own three boxes -/
structure KpS (n₀ bp bs bv : Nat) (W W' : World) : Prop where
  low : Below n₀ W W'
  p : W'.heap[bp]? = W.heap[bp]?
  s : W'.heap[bs]? = W.heap[bs]?
  v : W'.heap[bv]? = W.heap[bv]?
theorem KpS.trans {n₀ bp bs bv : Nat} {A B C : World} (h : KpS n₀ bp bs bv A B) (k : KpS n₀ bp bs bv B C) : KpS n₀ bp bs bv A C :=
  ⟨h.low.trans k.low, k.p.trans h.p, k.s.trans h.s, k.v.trans h.v⟩
theorem KpS.put {n₀ bp bs bv : Nat} {w : World} (hn : n₀ ≤ w.heap.size) (hp : bp < w.heap.size) (hs : bs < w.heap.size) (hv : bv < w.heap.size) (W : World) (l : Nat) (o o' : Obj) (hl : w.heap.size ≤ l) (h : W.heap[l]? = some o) (ho : o.isCells = false) (hw : o.isWalk = false) : KpS n₀ bp bs bv W (W.putObj l o') :=
  ⟨belowK_b hn W l o o' hl h ho hw, World.putObj_heap_other (by omega), World.putObj_heap_other (by omega), World.putObj_heap_other (by omega)⟩
theorem max_low {n₀ : Nat} {W W' : World} (hg : 2 < n₀) (h : MaxW W) (hb : Below n₀ W W') : MaxW W' := by
  obtain ⟨m, hm⟩ := h
  exact ⟨m, (hb.cell (p := ⟨2, 0, none⟩) hg).trans hm⟩
/-- how much of the text is left -/
def leftS (b : Nat) (w : World) : Nat := match w.cell? ⟨b, 0, none⟩ with | some (.string x) => x.size | _ => 0
theorem leftS_eq {b : Nat} {w : World} {x : List UInt8} (h : w.cell? ⟨b, 0, none⟩ = some (.string ⟨x.toArray⟩)) : leftS b w = x.length := by
  unfold leftS; rw [h]; exact size_mkl x

set_option maxRecDepth 100000 in
set_option maxHeartbeats 2000000 in
theorem split_iter (s sep : List UInt8) (bp bs bv n₀ n : Nat) (w : World) (hn : 1 ≤ n) (hsep : sep ≠ []) (hs : s.length ≤ 4000000000) (hl : sep.length ≤ 1000)
    (hg : 2 < n₀) (h0 : n₀ ≤ bs) (hm : MaxW w) (hps : bp ≠ bs) (hvs : bv ≠ bs) (hbp : bp < w.heap.size) (hbs : bs < w.heap.size) (hbv : bv < w.heap.size)
    (cp : w.cell? ⟨bp, 0, none⟩ = some (.string ⟨sep.toArray⟩)) (cs : w.cell? ⟨bs, 0, none⟩ = some (.string ⟨s.toArray⟩)) (cv : w.cell? ⟨bv, 0, none⟩ = some (.int .i64 0)) (fs : w.frozen? ⟨bs, 0, none⟩ = false) :
    ListAt Fence.wide n Tryz.prog 162 #[.pointer (some ⟨bp, 0, none⟩), .pointer (some ⟨bs, 0, none⟩), .pointer (some ⟨bv, 0, none⟩)] (fun x : List UInt8 => #[.string ⟨x.toArray⟩]) (KpS n₀ bp bs bv) bs (Lib.split s sep) w := by
  intro l J W hW hJ hY hJ0
  have HY := Lib.hid hY
  have HJ := Lib.hid hJ
  have kp : W.cell? ⟨bp, 0, none⟩ = some (.string ⟨sep.toArray⟩) := (hW.cell (p := ⟨bp, 0, none⟩) hbp).trans cp
  have ks : W.cell? ⟨bs, 0, none⟩ = some (.string ⟨s.toArray⟩) := (hW.cell (p := ⟨bs, 0, none⟩) hbs).trans cs
  have kv : W.cell? ⟨bv, 0, none⟩ = some (.int .i64 0) := (hW.cell (p := ⟨bv, 0, none⟩) hbv).trans cv
  have gs : W.frozen? ⟨bs, 0, none⟩ = false := (hW.frozen (p := ⟨bs, 0, none⟩) hbs).trans fs
  have hM := Lib.hid (hm.below hW)
  have dl : ((sep.length : Int) == 0) = false := beq_no (by have := List.length_pos_iff.2 hsep; omega)
  clear hY hJ cp cs cv fs hW hm
  refine callsIn_of_wp Tryz.func162 rfl trivial ?_ rfl
  simp only [Tryz.ntmps162, List.size_toArray, List.length_cons, List.length_nil, Nat.reduceAdd, Nat.reduceSub, Array.replicate_succ, Array.replicate_zero, List.push_toArray, List.append_toArray, List.nil_append, List.cons_append]
  have KS := Lib.hid ks
  gi_wp2
  gi_loopw [7, 8] (fun _ _ wr => ∃ (pre : List (List UInt8)) (rest : List UInt8), Hid (Lib.split s sep = pre ++ Lib.split rest sep) ∧ rest.length ≤ s.length ∧ Hid (J pre wr) ∧ Hid (MaxW wr) ∧ Hid (wr.cell? ⟨bp, 0, none⟩ = some (.string ⟨sep.toArray⟩)) ∧ Hid (wr.cell? ⟨bs, 0, none⟩ = some (.string ⟨rest.toArray⟩)) ∧ Hid (wr.cell? ⟨bv, 0, none⟩ = some (.int .i64 0)) ∧ Hid (wr.frozen? ⟨bs, 0, none⟩ = false)) (fun _ _ wr => leftS bs wr)
  case atStart => exact ⟨[], s, Lib.hid rfl, Nat.le_refl _, Lib.hid hJ0, hM, Lib.hid kp, KS, Lib.hid kv, Lib.hid gs⟩
  case round =>
    obtain ⟨pre, rest, HL, hrl, HJ0, HM, HP, HS, HV, HF⟩ := hrel
    clear kp ks kv gs hM KS hJ0
    have kp := HP.out
    have ks := HS.out
    have kv := HV.out
    have gs := HF.out
    obtain ⟨m, hm⟩ := HM.out
    have CI := Lib.hid fun wx hm => Tryz.strings_Index ⟨rest.toArray⟩ ⟨sep.toArray⟩ m wx (by rw [size_mkl]; omega) hm
    have HLf := Lib.hid (leftS_eq ks)
    by_cases hi : Lib.index rest sep < 0
    · have HE := Lib.hid (show Lib.split s sep = pre ++ [rest] by rw [HL.out, Spl.split_miss (by have := Lib.index_ge rest sep; omega)])
      obtain ⟨fn, tmps, assign, body, hy, hR⟩ := HY.out pre rest wr HJ0.out (by rw [HE.out]; exact List.prefix_refl _)
      have HX := Lib.hid (show Lib.index (⟨rest.toArray⟩ : ByteArray).data.toList (⟨sep.toArray⟩ : ByteArray).data.toList = -1 from by have := Lib.index_ge rest sep; show Lib.index rest sep = -1; omega)
      rw [HX.out] at CI
      have HJE := Lib.hid (show pre ++ [rest] = Lib.split s sep from HE.out.symm)
      clear hi HL HLf
      gi_wp2_with (refine ⟨trivial, ?_⟩; gi_at_call 164; refine (callsIn_wide.2 (CI.out _ hm)).mono ?_; rintro e w' ⟨rfl, rfl⟩)
      refine hR.mono ?_
      rintro e W3 ⟨rfl, hJ3, hk3⟩
      gi_wp2
      go_end0
      exact ⟨⟨_, rfl⟩, by rw [← HJE.out]; exact hJ3⟩
    · obtain ⟨i, hi'⟩ : ∃ i : Nat, Lib.index rest sep = i := ⟨(Lib.index rest sep).toNat, by omega⟩
      have room := Lib.index_room rest sep (by omega)
      have HE := Lib.hid (show Lib.split s sep = (pre ++ [rest.take i]) ++ Lib.split (rest.drop (i + sep.length)) sep by rw [HL.out, Spl.split_hit hsep hi']; simp)
      have HX := Lib.hid (show Lib.index (⟨rest.toArray⟩ : ByteArray).data.toList (⟨sep.toArray⟩ : ByteArray).data.toList = (i : Int) from hi')
      rw [HX.out] at CI
      obtain ⟨fn, tmps, assign, body, hy, hR⟩ := HY.out pre (rest.take i) wr HJ0.out (by rw [HE.out]; exact List.prefix_append _ _)
      have hsl : 1 ≤ sep.length := List.length_pos_iff.2 hsep
      have S1 := fun w => slice_to (P := Tryz.prog) 9 Tryz.underlying9 rest .i64 i (by omega) w
      have S2 : ∀ w, (Instr.slice 9 (.string ⟨rest.toArray⟩) (some (.int .i64 ((i : Int) + (sep.length : Int)))) none none).run Tryz.prog w = .ok (.string ⟨(rest.drop (i + sep.length)).toArray⟩) w := fun w => slice_from (P := Tryz.prog) 9 Tryz.underlying9 rest .i64 (i + sep.length) (by omega) w
      have room' : (i : Int) + (sep.length : Int) ≤ (rest.length : Int) := by omega
      have hlen : (rest.drop (i + sep.length)).length < rest.length := by rw [List.length_drop]; omega
      clear hi hi' HL room
      generalize rest.drop (i + sep.length) = R2 at *
      generalize rest.take i = R1 at *
      gi_wp2_with (refine ⟨trivial, ?_⟩; gi_at_call 164; refine (callsIn_wide.2 (CI.out _ hm)).mono ?_; rintro e w' ⟨rfl, rfl⟩)
      refine hR.mono ?_
      rintro e W3 ⟨rfl, hJ3, hk3⟩
      have kp3 : W3.cell? ⟨bp, 0, none⟩ = some (.string ⟨sep.toArray⟩) := (World.cell?_of_block hk3.p).trans kp
      have ks3 : W3.cell? ⟨bs, 0, none⟩ = some (.string ⟨rest.toArray⟩) := (World.cell?_of_block hk3.s).trans ks
      have kv3 : W3.cell? ⟨bv, 0, none⟩ = some (.int .i64 0) := (World.cell?_of_block hk3.v).trans kv
      have gs3 : W3.frozen? ⟨bs, 0, none⟩ = false := (World.frozen?_of_block hk3.s).trans gs
      have HM3 := Lib.hid (max_low hg HM.out hk3.low)
      have HJ3 := Lib.hid hJ3
      clear kp ks kv gs hm hJ3 HJ0 HM HP HS HV HF CI hk3
      gi_wp2
      go_roundw
      case rel =>
        refine ⟨pre ++ [R1], R2, HE, by omega, Lib.hid (HJ.out _ _ _ HJ3.out (grownBy_setCell' W3 bs _)), Lib.hid ?_, Lib.hid ?_, Lib.hid (World.cell?_setCell_same _ _ _ ks3), Lib.hid ?_, Lib.hid (by rw [World.frozen?_setCell]; exact gs3)⟩
        · obtain ⟨m, hm⟩ := HM3.out
          exact ⟨m, by rw [World.cell?_setCell_other _ _ _ _ (fun e => by injection e with e; omega)]; exact hm⟩
        · rw [World.cell?_setCell_other _ _ _ _ (fun e => hps (by injection e with e; exact e.symm))]; exact kp3
        · rw [World.cell?_setCell_other _ _ _ _ (fun e => hvs (by injection e with e; exact e.symm))]; exact kv3
      case measure =>
        rw [HLf.out, leftS_eq (x := R2) (World.cell?_setCell_same _ _ _ ks3)]
        exact hlen

set_option maxHeartbeats 1000000 in
/-- strings.SplitSeq: the text, the separator and what it keeps of that are boxed; the function value captures the boxes -/
theorem splitseq_any (s sep : List UInt8) (w : World) :
    Calls Tryz.prog 60 #[.string ⟨s.toArray⟩, .string ⟨sep.toArray⟩] w fun e w' => e = .returned (.func (.func 162) #[] #[.pointer (some ⟨w.heap.size + 1, 0, none⟩), .pointer (some ⟨w.heap.size, 0, none⟩), .pointer (some ⟨w.heap.size + 2, 0, none⟩)]) ∧
      w' = ((w.alloc (.cells #[.string ⟨s.toArray⟩] 9)).alloc (.cells #[.string ⟨sep.toArray⟩] 9)).alloc (.cells #[.int .i64 0] 3) := by
  go_enter Tryz.func60, Tryz.ntmps60
  go_wp2
  go_ret
  exact ⟨rfl, rfl⟩
end Go.Proofs.YtaijjffnamjhiaaGreatDoor
