/- The walks of lang.rules and lang.Rules at some languages. -/
import Derived.Test.YtghohnbajbikjaaGreatDoorProg
import Derived.Shelf.Strings.BuilderK
import Derived.Below
import Derived.Test.YtghohnbajbikjaaGreatDoorShelf
import Derived.Test.YtghohnbajbikjaaGreatDoorTa1
import Derived.Test.YtghohnbajbikjaaGreatDoorTa0
import Derived.Lib.IndexLaws
import Derived.Shelf.Strings.MapGrows
import Derived.OwnWalk
import Derived.LoopTactic
import Derived.Deep.Draws
import Derived.Deep.LoopGhost
import Derived.WalkSmall
import Derived.Lib.LaidTab
namespace Go.Proofs.YtghohnbajbikjaaGreatDoor
open Go.Shelf Go.RowKit

def renB167 : Ren := ⟨fun | 167 => 152 | 240 => 68 | 276 => 102 | n => n, fun | 0 => 0 | 4 => 4 | 5 => 5 | 9 => 9 | 20 => 20 | 37 => 95 | 70 => 94 | 72 => 97 | 75 => 24 | 80 => 100 | 164 => 199 | n => n, fun n => n⟩
theorem laysB167 : Go.Proofs.Lays.n167 Tryz.prog renB167 := {
  mixed := by kernel_rfl
  f167 := Tryz.func152.trans (congrArg some (by kernel_rfl))
  f240 := Tryz.func68.trans (congrArg some (by kernel_rfl))
  f276 := Tryz.func102.trans (congrArg some (by kernel_rfl))
  t0 := Tryz.underlying0
  a0 := Tryz.isAgg0
  z0 := Tryz.sizeOf0
  v0 := Tryz.zeroValue0
  t4 := Tryz.underlying4
  a4 := Tryz.isAgg4
  z4 := Tryz.sizeOf4
  v4 := Tryz.zeroValue4
  t5 := Tryz.underlying5
  a5 := Tryz.isAgg5
  z5 := Tryz.sizeOf5
  v5 := Tryz.zeroValue5
  t9 := Tryz.underlying9
  a9 := Tryz.isAgg9
  z9 := Tryz.sizeOf9
  v9 := Tryz.zeroValue9
  t20 := Tryz.underlying20
  a20 := Tryz.isAgg20
  z20 := Tryz.sizeOf20
  v20 := Tryz.zeroValue20
  t37 := Tryz.underlying95
  a37 := Tryz.isAgg95
  z37 := Tryz.sizeOf95
  v37 := Tryz.zeroValue95
  t70 := Tryz.underlying94
  a70 := Tryz.isAgg94
  z70 := Tryz.sizeOf94
  v70 := Tryz.zeroValue94
  t72 := Tryz.underlying97
  a72 := Tryz.isAgg97
  z72 := Tryz.sizeOf97
  v72 := Tryz.zeroValue97
  t75 := Tryz.underlying24
  a75 := Tryz.isAgg24
  z75 := Tryz.sizeOf24
  v75 := Tryz.zeroValue24
  t164 := Tryz.underlying199
  a164 := Tryz.isAgg199
  z164 := Tryz.sizeOf199
  v164 := Tryz.zeroValue199
}
theorem extraB167 : Builder.Extra Tryz.prog renB167 := {
  sizeBuilder := by kernel_rfl
  liesBuilder := by kernel_rfl
  t5 := Tryz.underlying5
  a5 := Tryz.isAgg5
  z5 := Tryz.sizeOf5
  v5 := Tryz.zeroValue5
  infoByte := by kernel_rfl
  cellsByte := by kernel_rfl
  sizeByte := by kernel_rfl
  neB5 := by decide }
def renB166 : Ren := ⟨fun | 166 => 47 | 240 => 68 | 276 => 102 | n => n, fun | 0 => 0 | 3 => 3 | 4 => 4 | 5 => 5 | 9 => 9 | 20 => 20 | 37 => 95 | 70 => 94 | 72 => 97 | 75 => 24 | 80 => 100 | 164 => 199 | n => n, fun n => n⟩
theorem laysB166 : Go.Proofs.Lays.n166 Tryz.prog renB166 := {
  mixed := by kernel_rfl
  f166 := Tryz.func47.trans (congrArg some (by kernel_rfl))
  f240 := Tryz.func68.trans (congrArg some (by kernel_rfl))
  f276 := Tryz.func102.trans (congrArg some (by kernel_rfl))
  t0 := Tryz.underlying0
  a0 := Tryz.isAgg0
  z0 := Tryz.sizeOf0
  v0 := Tryz.zeroValue0
  t3 := Tryz.underlying3
  a3 := Tryz.isAgg3
  z3 := Tryz.sizeOf3
  v3 := Tryz.zeroValue3
  t4 := Tryz.underlying4
  a4 := Tryz.isAgg4
  z4 := Tryz.sizeOf4
  v4 := Tryz.zeroValue4
  t9 := Tryz.underlying9
  a9 := Tryz.isAgg9
  z9 := Tryz.sizeOf9
  v9 := Tryz.zeroValue9
  t20 := Tryz.underlying20
  a20 := Tryz.isAgg20
  z20 := Tryz.sizeOf20
  v20 := Tryz.zeroValue20
  t37 := Tryz.underlying95
  a37 := Tryz.isAgg95
  z37 := Tryz.sizeOf95
  v37 := Tryz.zeroValue95
  t70 := Tryz.underlying94
  a70 := Tryz.isAgg94
  z70 := Tryz.sizeOf94
  v70 := Tryz.zeroValue94
  t72 := Tryz.underlying97
  a72 := Tryz.isAgg97
  z72 := Tryz.sizeOf97
  v72 := Tryz.zeroValue97
  t75 := Tryz.underlying24
  a75 := Tryz.isAgg24
  z75 := Tryz.sizeOf24
  v75 := Tryz.zeroValue24
  t164 := Tryz.underlying199
  a164 := Tryz.isAgg199
  z164 := Tryz.sizeOf199
  v164 := Tryz.zeroValue199
}
theorem extraB166 : Builder.Extra Tryz.prog renB166 := {
  sizeBuilder := by kernel_rfl
  liesBuilder := by kernel_rfl
  t5 := Tryz.underlying5
  a5 := Tryz.isAgg5
  z5 := Tryz.sizeOf5
  v5 := Tryz.zeroValue5
  infoByte := by kernel_rfl
  cellsByte := by kernel_rfl
  sizeByte := by kernel_rfl
  neB5 := by decide }

/-- a builder of the call's own: what it holds -/
abbrev BuiltF (B b : Nat) (l : List UInt8) (w : World) : Prop := Lib.IsBuilderF 97 5 B b (Lib.byteCells l) w
theorem wbyte_any (B b : Nat) (l : List UInt8) (c : UInt8) (w : World) (h : BuiltF B b l w) (hlen : l.length + 1 ≤ 140737488355328) (hBw : B ≤ w.heap.size) :
    Calls Tryz.prog 152 #[.pointer (some ⟨b, 0, none⟩), .int .u8 (c.toNat : Int)] w fun e w' => e = .returned .nilIface ∧ BuiltF B b (l ++ [c]) w' ∧ Below B w w' ∧ Lib.OthersKept 5 (some b) w w' :=
  (Any.Builder_WriteByte_k laysB167 extraB167 B b (Lib.byteCells l) (c.toNat : Int) w h (by rw [Lib.byteCells_length]; exact hlen) hBw).mono fun e w' ⟨h1, h2, h3, h4⟩ => ⟨h1, by
    show Lib.IsBuilderF _ _ _ _ _ _
    rw [Lib.byteCells_append]; exact Or.inr h2, h3, h4⟩
theorem wstr_any (B b : Nat) (l x : List UInt8) (w : World) (h : BuiltF B b l w) (hlen : l.length + x.length ≤ 140737488355328) (hBw : B ≤ w.heap.size) :
    Calls Tryz.prog 47 #[.pointer (some ⟨b, 0, none⟩), .string ⟨x.toArray⟩] w fun e w' => e = .returned (.tuple #[.int .i64 x.length, .nilIface]) ∧ BuiltF B b (l ++ x) w' ∧ Below B w w' ∧ Lib.OthersKept 5 (some b) w w' :=
  (Any.Builder_WriteString_k laysB166 extraB166 B b (Lib.byteCells l) ⟨x.toArray⟩ w h (by rw [Lib.byteCells_length]; exact hlen) hBw).mono fun e w' ⟨h1, h2, h3, h4⟩ => ⟨h1, by
    show Lib.IsBuilderF _ _ _ _ _ _
    rw [Lib.byteCells_append]; exact Or.inr h2, h3, h4⟩
end Go.Proofs.YtghohnbajbikjaaGreatDoor
namespace Lx
/-- the signs -/
def sgs (m : Bool) : List UInt8 := if m then [123, 125, 35] else [123, 125]
def isS (m : Bool) (s : List UInt8) (i : Nat) : Bool := match s[i]? with | some c => (sgs m).contains c | none => false
def twoQ (s : List UInt8) (i : Nat) : Bool := decide (s[i]? = some 39) && decide (s[i + 1]? = some 39)
/-- quoted from i on -/
def quo : Nat → List UInt8 → Nat → List UInt8 → Option (List UInt8 × Nat)
  | 0, _, _, _ => none
  | f + 1, s, i, acc =>
    match s[i]? with
    | none => none
    | some c => if c = 39 then (if s[i + 1]? = some 39 then quo f s (i + 2) (acc ++ [39]) else some (acc, i + 1)) else quo f s (i + 1) (acc ++ [c])
/-- bare from i on -/
def bar (F : Nat) : Nat → List UInt8 → Bool → Nat → List UInt8 → Option (List UInt8 × Nat)
  | 0, _, _, _, _ => none
  | f + 1, s, m, i, acc =>
    match s[i]? with
    | none => some (acc, i)
    | some c =>
      if isS m s i then some (acc, i)
      else if twoQ s i then bar F f s m (i + 2) (acc ++ [39])
      else if c = 39 ∧ isS m s (i + 1) = true then
        (match quo F s (i + 1) [] with
        | none => none
        | some (t, e) => bar F f s m e (acc ++ t))
      else bar F f s m (i + 1) (acc ++ [c])
theorem quo_up : ∀ (f : Nat) (s : List UInt8) (i : Nat) (acc t : List UInt8) (e : Nat), quo f s i acc = some (t, e) → i < e ∧ e ≤ s.length ∧ t.length + i < acc.length + e
  | 0, s, i, acc, t, e, h => by simp [quo] at h
  | f + 1, s, i, acc, t, e, h => by
    unfold quo at h
    split at h
    · exact absurd h (by simp)
    · rename_i c hc
      have hi : i < s.length := (List.getElem?_eq_some_iff.1 hc).1
      split at h
      · split at h
        · rename_i h2
          have hi2 : i + 1 < s.length := (List.getElem?_eq_some_iff.1 h2).1
          have := quo_up f s (i + 2) _ t e h
          simp at this; omega
        · injection h with h
          injection h with h1 h2
          subst h1 h2
          omega
      · have := quo_up f s (i + 1) _ t e h
        simp at this; omega
theorem isS_lt {m : Bool} {s : List UInt8} {i : Nat} (h : isS m s i = true) : i < s.length := by
  unfold isS at h
  split at h
  · rename_i c hc; exact (List.getElem?_eq_some_iff.1 hc).1
  · simp at h
theorem twoQ_lt {s : List UInt8} {i : Nat} (h : twoQ s i = true) : i + 1 < s.length := by
  unfold twoQ at h
  simp only [Bool.and_eq_true, decide_eq_true_eq] at h
  exact (List.getElem?_eq_some_iff.1 h.2).1
theorem bar_quote {F f : Nat} {s : List UInt8} {m : Bool} {i : Nat} {acc : List UInt8} (hx : s[i]? = some 39) (h1 : ¬ isS m s i = true) (h2 : ¬ twoQ s i = true) (h3 : isS m s (i + 1) = true) :
    (quo F s (i + 1) [] = none → bar F (f + 1) s m i acc = none) ∧ ∀ t e, quo F s (i + 1) [] = some (t, e) → bar F (f + 1) s m i acc = bar F f s m e (acc ++ t) := by
  constructor
  · intro hq
    conv => lhs; unfold bar; rw [hx]
    simp only [hq]
    rw [if_neg h1, if_neg h2, if_pos ⟨trivial, h3⟩]
  · intro t e hq
    conv => lhs; unfold bar; rw [hx]
    simp only [hq]
    rw [if_neg h1, if_neg h2, if_pos ⟨trivial, h3⟩]
end Lx
namespace Go.Proofs.YtghohnbajbikjaaGreatDoor
open Go.RowKit

theorem sgs_has (m : Bool) (c : UInt8) : decide (0 ≤ Lib.indexByte (Lx.sgs m) c) = (Lx.sgs m).contains c := by
  by_cases h : 0 ≤ Lib.indexByte (Lx.sgs m) c
  · obtain ⟨o, ho⟩ : ∃ o : Nat, Lib.indexByte (Lx.sgs m) c = o := ⟨(Lib.indexByte (Lx.sgs m) c).toNat, by omega⟩
    have := (Lib.indexByte_some ho).1
    simp [h, List.mem_of_getElem? this]
  · have e : Lib.indexByte (Lx.sgs m) c = -1 := by have := Lib.indexByte_ge (Lx.sgs m) c; omega
    have hn : c ∉ Lx.sgs m := fun hm => by
      obtain ⟨k, hk⟩ := List.getElem?_of_mem hm
      exact Lib.indexByte_none e k hk
    simp [h, hn]
theorem two_has (s : List UInt8) (k : Nat) : Lib.hasPrefix (s.drop k) [39, 39] = Lx.twoQ s k := by
  unfold Lib.hasPrefix Lx.twoQ
  rw [← Nat.add_zero k, ← List.getElem?_drop, Nat.add_zero, ← List.getElem?_drop]
  match s.drop k with
  | [] => rfl
  | [a] => simp [List.isPrefixOf]
  | a :: b :: r =>
    show ((39 == a) && ((39 == b) && true)) = (decide (some a = some 39) && decide (some b = some 39))
    by_cases h1 : a = 39
    · by_cases h2 : b = 39
      · subst h1 h2; rfl
      · have e : ((39 : UInt8) == b) = false := beq_eq_false_iff_ne.2 fun g => h2 g.symm
        rw [e, dec_no (p := some b = some 39) (fun g => h2 (Option.some.inj g))]; simp
    · have e : ((39 : UInt8) == a) = false := beq_eq_false_iff_ne.2 fun g => h1 g.symm
      rw [e, dec_no (p := some a = some 39) (fun g => h1 (Option.some.inj g))]; simp

set_option maxRecDepth 100000 in
set_option maxHeartbeats 400000 in
theorem signs_any (m : Bool) (w : World) : Calls Tryz.prog 151 #[.bool m] w fun e w' => e = .returned (.string ⟨(Lx.sgs m).toArray⟩) ∧ w = w' := by
  cases m
  · go_enter Tryz.func151, Tryz.ntmps151
    go_wp2_with fail
    go_ret
    exact ⟨rfl, rfl⟩
  · go_enter Tryz.func151, Tryz.ntmps151
    go_wp2_with fail
    go_ret
    exact ⟨rfl, rfl⟩

set_option maxRecDepth 100000 in
set_option maxHeartbeats 1000000 in
theorem sign_any (s : List UInt8) (m : Bool) (i ps pm : Nat) (w : World) (hc : w.cell? ⟨ps, 0, none⟩ = some (.string ⟨s.toArray⟩)) (hm : w.cell? ⟨pm, 0, none⟩ = some (.bool m)) :
    Calls Tryz.prog 150 #[.int .i64 (i : Int), .pointer (some ⟨ps, 0, none⟩), .pointer (some ⟨pm, 0, none⟩)] w fun e w' => e = .returned (.bool (Lx.isS m s i)) ∧ ∃ n, w' = w.drewN n := by
  by_cases hi : i < s.length
  · obtain ⟨c, hx⟩ : ∃ c, s[i]? = some c := ⟨s[i], List.getElem?_eq_getElem hi⟩
    have HR := Lib.hid (show Lx.isS m s i = decide (0 ≤ Lib.indexByte (Lx.sgs m) c) by rw [sgs_has]; unfold Lx.isS; rw [hx])
    have IX := fun w => index_str (P := Tryz.prog) 9 Tryz.underlying9 s .i64 i c hx w
    have CS := Lib.hid fun w => signs_any m w
    have CB := Lib.hid fun w => Tryz.strings_IndexByte ⟨(Lx.sgs m).toArray⟩ (c.toNat : Int) w
    have ec : ((c.toNat : Int)).toNat.toUInt8 = c := by simp
    rw [ec] at CB
    have d1 : decide ((i : Int) < (s.length : Int)) = true := dec_yes (by omega)
    clear hx ec
    have HX := Lib.hid (show decide (0 ≤ Lib.indexByte (⟨(Lx.sgs m).toArray⟩ : ByteArray).data.toList c) = Lx.isS m s i by rw [HR.out])
    generalize Lib.indexByte (⟨(Lx.sgs m).toArray⟩ : ByteArray).data.toList c = X at *
    generalize Lx.sgs m = S at *
    clear HR
    go_enter Tryz.func150, Tryz.ntmps150
    go_wp2_with fail
    go_big_quiet ((first | (go_at_call 151; exact quiet_left (CS.out _)) | (go_at_call 123; exact quiet_left ((CB.out _).mono fun _ _ h => ⟨h.1, h.2.symm⟩))))
    go_wp2_with fail
    go_ret
    exact ⟨ret_bool (by rw [← HX.out]), _, rfl⟩
  · have HR := Lib.hid (show Lx.isS m s i = false by unfold Lx.isS; rw [List.getElem?_eq_none (by omega)])
    have d1 : decide ((i : Int) < (s.length : Int)) = false := dec_no (by omega)
    go_enter Tryz.func150, Tryz.ntmps150
    go_wp2_with fail
    go_big_quiet (fail)
    go_wp2_with fail
    go_ret
    exact ⟨ret_bool (by rw [HR.out]), _, rfl⟩


/-- what lex.quoted hands over -/
def quoV (r : Option (List UInt8 × Nat)) : Value := match r with | none => .tuple #[.string ⟨#[]⟩, .int .i64 0, .bool false] | some (t, e) => .tuple #[.string ⟨t.toArray⟩, .int .i64 (e : Int), .bool true]
theorem quo_zero {s : List UInt8} {f k : Nat} {acc : List UInt8} (h : ¬ k < s.length) : Lx.quo f s k acc = none := by
  cases f with
  | zero => rfl
  | succ f => unfold Lx.quo; rw [List.getElem?_eq_none (by omega)]

set_option maxRecDepth 100000 in
set_option maxHeartbeats 2000000 in
theorem quoted_any (s : List UInt8) (F i : Nat) (w : World) (hs : s.length ≤ 4000000000) (hF : s.length ≤ F) (hi0 : 1 ≤ i) (hi : i ≤ s.length) :
    Calls Tryz.prog 153 #[.string ⟨s.toArray⟩, .int .i64 (i : Int)] w fun e w' => e = .returned (quoV (Lx.quo F s i [])) ∧ Below w.heap.size w w' := by
  generalize HR : Lx.quo F s i [] = R
  have HQ0 := Lib.hid HR
  clear HR
  go_enter Tryz.func153, Tryz.ntmps153
  go_wp2_with fail
  go_loopw [1] (fun v wr => ∃ (k f : Nat) (acc : List UInt8), v = .int .i64 k ∧ k ≤ s.length ∧ s.length < f + k ∧ acc.length ≤ k ∧ Hid (Lx.quo f s k acc = R) ∧ Hid (BuiltF w.heap.size w.heap.size acc wr) ∧ Hid (Below w.heap.size w wr)) (fun v _ => s.length - (RowKit.intOf v).toNat)
  case atStart => exact ⟨i, F, [], rfl, hi, by omega, by simp, HQ0, Lib.hid (Lib.IsBuilderF.of (Lib.fresh_isBuilder 97 5 w)), Lib.hid ((Below.refl _ w).alloc (Nat.le_refl _) _)⟩
  case round =>
    obtain ⟨k, f, acc, rfl, hk, hf, hal, HQ, HB, HW⟩ := hrel
    clear HQ0
    have hsz := HW.out.size
    by_cases hlt : k < s.length
    · obtain ⟨c, hx⟩ : ∃ c, s[k]? = some c := ⟨s[k], List.getElem?_eq_getElem hlt⟩
      obtain ⟨f, rfl⟩ : ∃ g, f = g + 1 := ⟨f - 1, by omega⟩
      have IX := fun w => index_str (P := Tryz.prog) 9 Tryz.underlying9 s .i64 k c hx w
      have SL := fun w => slice_from (P := Tryz.prog) 9 Tryz.underlying9 s .i64 k (by omega) w
      have CP := Lib.hid fun w => Tryz.strings_HasPrefix ⟨(s.drop k).toArray⟩ ⟨#[39, 39]⟩ w
      have HX := Lib.hid hx
      have hcb := c.toNat_lt
      by_cases hc : c = 39
      · subst hc
        have e39 : ((39 : UInt8).toNat : Int) = 39 := rfl
        rw [e39] at IX
        by_cases h2 : s[k + 1]? = some 39
        · have e2 : Lib.hasPrefix (⟨(s.drop k).toArray⟩ : ByteArray).data.toList (⟨#[39, 39]⟩ : ByteArray).data.toList = true := (two_has s k).trans (by unfold Lx.twoQ; rw [hx, h2]; rfl)
          rw [e2] at CP
          have IX2 : ∀ w, (Instr.index 9 (.string ⟨s.toArray⟩) (.int .i64 ((k : Int) + 1))).run Tryz.prog w = .ok (.int .u8 39) w := fun w => by
            rw [show ((k : Int) + 1) = ((k + 1 : Nat) : Int) by omega]
            exact index_str (P := Tryz.prog) 9 Tryz.underlying9 s .i64 (k + 1) 39 h2 w
          have hlt2 : k + 1 < s.length := (List.getElem?_eq_some_iff.1 h2).1
          have HN := Lib.hid (show Lx.quo f s (k + 2) (acc ++ [39]) = R by rw [← HQ.out]; conv => rhs; unfold Lx.quo; rw [hx]; simp only; rw [if_pos trivial, if_pos h2])
          clear hx h2 e2 HQ
          generalize s.drop k = D at *
          have cw := fun wx h1 h2 => wbyte_any w.heap.size w.heap.size acc 39 wx h1 (by omega) h2
          rw [e39] at cw
          have CW := Lib.hid cw
          clear cw e39
          go_wp2_with (go_at_call 131; refine (CP.out _).mono ?_; rintro e w' ⟨rfl, rfl⟩)
          (with_reducible refine (CW.out _ HB.out (by omega)).mono ?_)
          rintro e w1 ⟨rfl, hB, hw, _⟩
          have HB1 := Lib.hid hB
          have HW1 := Lib.hid (HW.out.trans hw)
          clear hB hw HB HW
          go_wp2_with fail
          go_roundw
          case rel => exact ⟨k + 2, f, acc ++ [39], by go_num, by omega, by omega, by simp; omega, HN, HB1, HW1⟩
          case measure => simp [RowKit.intOf]; omega
        · have e2 : Lib.hasPrefix (⟨(s.drop k).toArray⟩ : ByteArray).data.toList (⟨#[39, 39]⟩ : ByteArray).data.toList = false := (two_has s k).trans (by unfold Lx.twoQ; rw [dec_no h2]; simp)
          rw [e2] at CP
          have HN := Lib.hid (show R = some (acc, k + 1) by rw [← HQ.out]; unfold Lx.quo; rw [hx]; simp only; rw [if_pos trivial, if_neg h2])
          clear hx h2 e2 HQ
          generalize s.drop k = D at *
          clear e39
          have CS := Lib.hid fun wx h1 h2 => Tryz.Builder_String_any_k w.heap.size w.heap.size acc wx h1 h2
          go_wp2_with (go_at_call 131; refine (CP.out _).mono ?_; rintro e w' ⟨rfl, rfl⟩)
          (with_reducible refine (CS.out _ HB.out (by omega)).mono ?_)
          rintro e w1 ⟨rfl, _, hw, _⟩
          have HW1 := Lib.hid (HW.out.trans hw)
          clear hw HB HW
          go_wp2_with fail
          go_ret3
          exact ⟨by rw [HN.out]; rfl, HW1.out⟩
      · have b1 : ((c.toNat : Int) == 39) = false := beq_no (fun g => hc (UInt8.toNat_inj.1 (by simpa using (show c.toNat = 39 by omega))))
        have HN := Lib.hid (show Lx.quo f s (k + 1) (acc ++ [c]) = R by rw [← HQ.out]; conv => rhs; unfold Lx.quo; rw [hx]; simp only; rw [if_neg hc])
        clear hx hc HQ
        have CW := Lib.hid fun wx h1 h2 => wbyte_any w.heap.size w.heap.size acc c wx h1 (by omega) h2
        go_wp2_with fail
        (with_reducible refine (CW.out _ HB.out (by omega)).mono ?_)
        rintro e w1 ⟨rfl, hB, hw, _⟩
        have HB1 := Lib.hid hB
        have HW1 := Lib.hid (HW.out.trans hw)
        clear hB hw HB HW
        go_wp2_with fail
        go_roundw
        case rel => exact ⟨k + 1, f, acc ++ [c], by go_num, by omega, by omega, by simp; omega, HN, HB1, HW1⟩
        case measure => simp [RowKit.intOf]; omega
    · have HN := Lib.hid (show R = none by rw [← HQ.out]; exact quo_zero hlt)
      clear HQ
      go_wp2_with fail
      go_ret3
      exact ⟨by rw [HN.out]; rfl, HW.out⟩
end Go.Proofs.YtghohnbajbikjaaGreatDoor
namespace Go.Proofs.YtghohnbajbikjaaGreatDoor
open Go.RowKit

theorem bstr_any (B b : Nat) (l : List UInt8) (w : World) (h : BuiltF B b l w) (hBw : B ≤ w.heap.size) :
    Calls Tryz.prog 48 #[.pointer (some ⟨b, 0, none⟩)] w fun e w' => e = .returned (.string ⟨l.toArray⟩) ∧ BuiltF B b l w' ∧ Below B w w' :=
  (Tryz.Builder_String_any_k B b l w h hBw).mono fun _ _ ⟨h1, h2, h3, _⟩ => ⟨h1, h2, h3⟩
theorem wquote_any (B b : Nat) (l : List UInt8) (w : World) (h : BuiltF B b l w) (hlen : l.length + 1 ≤ 140737488355328) (hBw : B ≤ w.heap.size) :
    Calls Tryz.prog 152 #[.pointer (some ⟨b, 0, none⟩), .int .u8 39] w fun e w' => e = .returned .nilIface ∧ BuiltF B b (l ++ [39]) w' ∧ Below B w w' ∧ Lib.OthersKept 5 (some b) w w' :=
  wbyte_any B b l 39 w h hlen hBw
/-- what lex.Bare hands over -/
def bareV (r : Option (List UInt8 × Nat)) : Value := match r with | none => .tuple #[.string ⟨#[]⟩, .int .i64 0, errV 3] | some (t, n) => .tuple #[.string ⟨t.toArray⟩, .int .i64 (n : Int), .nilIface]

theorem BuiltF.drewN' {B b : Nat} {l : List UInt8} {w : World} (h : BuiltF B b l w) (n : Nat) : BuiltF B b l (w.drewN n) := Lib.IsBuilderF.below h (blw_drewN (Below.refl _ _) n)
def bareW (s : List UInt8) (m : Bool) (w : World) : World := (w.alloc (.cells #[.string ⟨s.toArray⟩] 9)).alloc (.cells #[.bool m] 4)
theorem bareW_size (s : List UInt8) (m : Bool) (w : World) : (bareW s m w).heap.size = w.heap.size + 2 := by unfold bareW; simp
theorem bareW_s (s : List UInt8) (m : Bool) (w : World) : (bareW s m w).cell? ⟨w.heap.size, 0, none⟩ = some (.string ⟨s.toArray⟩) := ((Boxed.made w #[.string ⟨s.toArray⟩] 9).alloc _).cell 0 _ rfl
theorem bareW_m (s : List UInt8) (m : Bool) (w : World) : (bareW s m w).cell? ⟨w.heap.size + 1, 0, none⟩ = some (.bool m) := by
  have := (Boxed.made (w.alloc (.cells #[.string ⟨s.toArray⟩] 9)) #[.bool m] 4).cell 0 _ rfl
  rwa [World.size_alloc] at this
theorem bareW_below (s : List UInt8) (m : Bool) (w : World) : Below w.heap.size w (bareW s m w) := ((Below.refl _ _).alloc (Nat.le_refl _) _).alloc (by simp) _
set_option maxRecDepth 100000 in
set_option maxHeartbeats 4000000 in
theorem bare_any (s : List UInt8) (m : Bool) (F : Nat) (w : World) (hs : s.length ≤ 4000000000) (hF : s.length < F) :
    Calls Tryz.prog 114 #[.string ⟨s.toArray⟩, .bool m] w fun e w' => e = .returned (bareV (Lx.bar F F s m 0 [])) ∧ Below w.heap.size w w' := by
  generalize HR : Lx.bar F F s m 0 [] = R
  have HQ0 := Lib.hid HR
  clear HR
  have HW0 := Lib.hid (bareW_below s m w)
  have hz0 := bareW_size s m w
  have HC0 := Lib.hid (bareW_s s m w)
  have HM0 := Lib.hid (bareW_m s m w)
  have eW : (w.alloc (.cells #[.string ⟨s.toArray⟩] 9)).alloc (.cells #[.bool m] 4) = bareW s m w := rfl
  go_enter Tryz.func114, Tryz.ntmps114
  go_wp2_with fail
  clear eW
  generalize bareW s m w = W0 at *
  obtain ⟨Z, hZ⟩ : ∃ Z, Z = w.heap.size := ⟨_, rfl⟩
  rw [← hZ] at HC0 HM0 hz0 ⊢
  have HZ := Lib.hid hZ
  clear hZ
  have Hz1 := Lib.hid hz0
  clear hz0
  have hFr := Lib.hid (Lib.IsBuilderF.of (Lib.fresh_isBuilder 97 5 W0))
  rw [Hz1.out] at hFr
  go_loopw [9] (fun v wr => ∃ (k f : Nat) (acc : List UInt8), v = .int .i64 k ∧ k ≤ s.length ∧ s.length < f + k ∧ acc.length ≤ k ∧ Hid (Lx.bar F f s m k acc = R) ∧ Hid (BuiltF (Z + 2) (Z + 2) acc wr) ∧ Hid (Below W0.heap.size W0 wr)) (fun v _ => s.length - (RowKit.intOf v).toNat)
  case atStart => exact ⟨0, F, [], rfl, by omega, by omega, by simp, HQ0, hFr, Lib.hid ((Below.refl _ W0).alloc (Nat.le_refl _) _)⟩
  case round =>
    obtain ⟨k, f, acc, rfl, hk, hf, hal, HQ, HB, HW⟩ := hrel
    clear HQ0 hFr
    have hsz := HW.out.size
    rw [Hz1.out] at hsz
    have HCI := Lib.hid (show wr.cell? ⟨Z, 0, none⟩ = some (.string ⟨s.toArray⟩) by rw [HW.out.cell (p := ⟨Z, 0, none⟩) (show Z < W0.heap.size by rw [Hz1.out]; omega)]; exact HC0.out)
    have HMI := Lib.hid (show wr.cell? ⟨Z + 1, 0, none⟩ = some (.bool m) by rw [HW.out.cell (p := ⟨Z + 1, 0, none⟩) (show Z + 1 < W0.heap.size by rw [Hz1.out]; omega)]; exact HM0.out)
    have hcs := HCI.out
    by_cases hlt : k < s.length
    · obtain ⟨c, hx⟩ : ∃ c, s[k]? = some c := ⟨s[k], List.getElem?_eq_getElem hlt⟩
      obtain ⟨f, rfl⟩ : ∃ g, f = g + 1 := ⟨f - 1, by omega⟩
      have IX := fun w => index_str (P := Tryz.prog) 9 Tryz.underlying9 s .i64 k c hx w
      have SL := fun w => slice_from (P := Tryz.prog) 9 Tryz.underlying9 s .i64 k (by omega) w
      have hcb := c.toNat_lt
      have SG := Lib.hid fun wx h1 h2 => sign_any s m k Z (Z + 1) wx h1 h2
      have HX := Lib.hid hx
      clear hx
      by_cases hS : Lx.isS m s k = true
      · rw [hS] at SG
        have HN := Lib.hid (show R = some (acc, k) by rw [← HQ.out]; unfold Lx.bar; rw [HX.out]; simp only; rw [if_pos hS])
        have CS := Lib.hid fun wx h1 h2 => bstr_any (Z + 2) (Z + 2) acc wx h1 h2
        clear hS HQ
        go_wp2_with fail
        (with_reducible refine (SG.out _ HCI.out HMI.out).mono ?_)
        rintro e w1 ⟨rfl, nq, rfl⟩
        go_wp2_with fail
        (with_reducible refine (CS.out _ (BuiltF.drewN' HB.out nq) (by simp; omega)).mono ?_)
        rintro e w2 ⟨rfl, _, hw⟩
        have HW1 := Lib.hid ((blw_drewN HW.out nq).trans (show Below W0.heap.size _ _ by rw [Hz1.out]; exact hw))
        clear hw HB HW
        go_wp2_with fail
        go_ret3
        exact ⟨by rw [HN.out]; rfl, HW0.out.trans (HW1.out.mono HW0.out.size)⟩
      have hS' : Lx.isS m s k = false := by simpa using hS
      rw [hS'] at SG
      by_cases h2 : Lx.twoQ s k = true
      · have e2 : Lib.hasPrefix (⟨(s.drop k).toArray⟩ : ByteArray).data.toList (⟨#[39, 39]⟩ : ByteArray).data.toList = true := (two_has s k).trans h2
        have CP := Lib.hid fun w => (e2 ▸ Tryz.strings_HasPrefix ⟨(s.drop k).toArray⟩ ⟨#[39, 39]⟩ w)
        have hl2 := Lx.twoQ_lt h2
        have HN := Lib.hid (show Lx.bar F f s m (k + 2) (acc ++ [39]) = R by rw [← HQ.out]; conv => rhs; unfold Lx.bar; rw [HX.out]; simp only; rw [if_neg hS, if_pos h2])
        have CW := Lib.hid fun wx h1 h2 => wquote_any (Z + 2) (Z + 2) acc wx h1 (by omega) h2
        clear hS hS' h2 e2 HQ
        generalize s.drop k = D at *
        go_wp2_with fail
        (with_reducible refine (SG.out _ HCI.out HMI.out).mono ?_)
        rintro e w1 ⟨rfl, nq, rfl⟩
        go_wp2_with (go_at_call 131; refine (CP.out _).mono ?_; rintro e w' ⟨rfl, rfl⟩)
        (with_reducible refine (CW.out _ (BuiltF.drewN' HB.out nq) (by simp; omega)).mono ?_)
        rintro e w2 ⟨rfl, hB, hw, _⟩
        have HB1 := Lib.hid hB
        have HW1 := Lib.hid ((blw_drewN HW.out nq).trans (show Below W0.heap.size _ _ by rw [Hz1.out]; exact hw))
        clear hB hw HB HW
        go_wp2_with fail
        go_roundw
        case rel => exact ⟨k + 2, f, acc ++ [39], by go_num, by omega, by omega, by simp; omega, HN, HB1, HW1⟩
        case measure => simp [RowKit.intOf]; omega
      have h2' : Lx.twoQ s k = false := by simpa using h2
      have e2 : Lib.hasPrefix (⟨(s.drop k).toArray⟩ : ByteArray).data.toList (⟨#[39, 39]⟩ : ByteArray).data.toList = false := (two_has s k).trans h2'
      have CP := Lib.hid fun w => (e2 ▸ Tryz.strings_HasPrefix ⟨(s.drop k).toArray⟩ ⟨#[39, 39]⟩ w)
      clear e2 h2'
      by_cases hc : c = 39 ∧ Lx.isS m s (k + 1) = true
      · obtain ⟨rfl, hs1⟩ := hc
        have e39 : ((39 : UInt8).toNat : Int) = 39 := rfl
        rw [e39] at IX
        have ek : ((k + 1 : Nat) : Int) = (k : Int) + 1 := by omega
        have sg2 := fun wx h1 h2 => sign_any s m (k + 1) Z (Z + 1) wx h1 h2
        rw [hs1, ek] at sg2
        have SG2 := Lib.hid sg2
        have hk1 := Lx.isS_lt hs1
        have cq := fun wx => quoted_any s F (k + 1) wx hs (by omega) (by omega) (by omega)
        rw [ek] at cq
        have CQ := Lib.hid cq
        clear sg2 cq ek
        have up := Lx.quo_up F s (k + 1) []
        have HN0 := Lib.hid (Lx.bar_quote (F := F) (f := f) (acc := acc) HX.out hS h2 hs1)
        clear hS hS' h2 hs1 e39
        generalize s.drop k = D at *
        rcases hq : Lx.quo F s (k + 1) [] with _ | ⟨t, e1⟩
        all_goals rw [hq] at CQ up
        · have HN := Lib.hid (show R = none from HQ.out.symm.trans (HN0.out.1 hq))
          clear hq up HN0 HQ
          go_wp2_with fail
          (with_reducible refine (SG.out _ HCI.out HMI.out).mono ?_)
          rintro e w1 ⟨rfl, nq, rfl⟩
          go_wp2_with (go_at_call 131; refine (CP.out _).mono ?_; rintro e w' ⟨rfl, rfl⟩)
          (refine (SG2.out (wr.drewN nq) (by simpa using HCI.out) (by simpa using HMI.out)).mono ?_)
          rintro e w2 ⟨rfl, nq2, rfl⟩
          go_wp2_with fail
          (refine (CQ.out _).mono ?_)
          rintro e w3 ⟨rfl, hw⟩
          have HW1 := Lib.hid ((blw_drewN HW.out (nq + nq2)).trans (hw.mono (show W0.heap.size ≤ _ by rw [Hz1.out]; simp; omega)))
          clear hw HB HW
          unfold quoV
          go_wp2_with fail
          go_ret3
          exact ⟨by rw [HN.out]; rfl, HW0.out.trans (HW1.out.mono HW0.out.size)⟩
        · have HN := Lib.hid (show Lx.bar F f s m e1 (acc ++ t) = R from (HN0.out.2 t e1 hq).symm.trans HQ.out)
          obtain ⟨u1, u2, u3⟩ := up t e1 rfl
          rw [List.length_nil] at u3
          have CW := Lib.hid fun wx h1 h2 => wstr_any (Z + 2) (Z + 2) acc t wx h1 (by omega) h2
          clear hq HN0 HQ up
          go_wp2_with fail
          (with_reducible refine (SG.out _ HCI.out HMI.out).mono ?_)
          rintro e w1 ⟨rfl, nq, rfl⟩
          go_wp2_with (go_at_call 131; refine (CP.out _).mono ?_; rintro e w' ⟨rfl, rfl⟩)
          (refine (SG2.out (wr.drewN nq) (by simpa using HCI.out) (by simpa using HMI.out)).mono ?_)
          rintro e w2 ⟨rfl, nq2, rfl⟩
          go_wp2_with fail
          (refine (CQ.out _).mono ?_)
          rintro e w3 ⟨rfl, hw⟩
          have HB1 := Lib.hid (Lib.IsBuilderF.below (BuiltF.drewN' HB.out (nq + nq2)) hw)
          have HW1 := Lib.hid ((blw_drewN HW.out (nq + nq2)).trans (hw.mono (show W0.heap.size ≤ _ by rw [Hz1.out]; simp; omega)))
          have hsz3 := hw.size
          simp at hsz3
          clear hw HB HW
          unfold quoV
          go_wp2_with fail
          (refine (CW.out _ HB1.out (by omega)).mono ?_)
          rintro e w4 ⟨rfl, hB, hw, _⟩
          have HB2 := Lib.hid hB
          have HW2 := Lib.hid (HW1.out.trans (show Below W0.heap.size _ _ by rw [Hz1.out]; exact hw))
          clear hB hw HB1 HW1
          go_wp2_with fail
          go_roundw
          case rel => exact ⟨e1, f, acc ++ t, by go_num, by omega, by omega, by simp; omega, HN, HB2, HW2⟩
          case measure => simp [RowKit.intOf]; omega
      · have HN := Lib.hid (show Lx.bar F f s m (k + 1) (acc ++ [c]) = R by rw [← HQ.out]; conv => rhs; unfold Lx.bar; rw [HX.out]; simp only; rw [if_neg hS, if_neg h2, if_neg hc])
        have CW := Lib.hid fun wx h1 h2 => wbyte_any (Z + 2) (Z + 2) acc c wx h1 (by omega) h2
        clear hS hS' h2 HQ
        generalize s.drop k = D at *
        by_cases h39 : c = 39
        · subst h39
          have e39 : ((39 : UInt8).toNat : Int) = 39 := rfl
          rw [e39] at IX
          have CW2 := Lib.hid fun wx h1 h2 => wquote_any (Z + 2) (Z + 2) acc wx h1 (by omega) h2
          have hs1 : Lx.isS m s (k + 1) = false := by
            cases h : Lx.isS m s (k + 1) with
            | false => rfl
            | true => exact absurd ⟨rfl, h⟩ hc
          have ek : ((k + 1 : Nat) : Int) = (k : Int) + 1 := by omega
          have sg2 := fun wx h1 h2 => sign_any s m (k + 1) Z (Z + 1) wx h1 h2
          rw [hs1, ek] at sg2
          have SG2 := Lib.hid sg2
          clear hc hs1 e39 CW sg2 ek
          go_wp2_with fail
          (with_reducible refine (SG.out _ HCI.out HMI.out).mono ?_)
          rintro e w1 ⟨rfl, nq, rfl⟩
          go_wp2_with (go_at_call 131; refine (CP.out _).mono ?_; rintro e w' ⟨rfl, rfl⟩)
          (refine (SG2.out (wr.drewN nq) (by simpa using HCI.out) (by simpa using HMI.out)).mono ?_)
          rintro e w2 ⟨rfl, nq2, rfl⟩
          go_wp2_with fail
          (refine (CW2.out _ (BuiltF.drewN' HB.out (nq + nq2)) (by simp; omega)).mono ?_)
          rintro e w3 ⟨rfl, hB, hw, _⟩
          have HB1 := Lib.hid hB
          have HW1 := Lib.hid ((blw_drewN HW.out (nq + nq2)).trans (show Below W0.heap.size _ _ by rw [Hz1.out]; exact hw))
          clear hB hw HB HW
          go_wp2_with fail
          go_roundw
          case rel => exact ⟨k + 1, f, acc ++ [39], by go_num, by omega, by omega, by simp; omega, HN, HB1, HW1⟩
          case measure => simp [RowKit.intOf]; omega
        · have b1 : ((c.toNat : Int) == 39) = false := beq_no (fun g => h39 (UInt8.toNat_inj.1 (by simpa using (show c.toNat = 39 by omega))))
          clear hc h39
          go_wp2_with fail
          (with_reducible refine (SG.out _ HCI.out HMI.out).mono ?_)
          rintro e w1 ⟨rfl, nq, rfl⟩
          go_wp2_with (go_at_call 131; refine (CP.out _).mono ?_; rintro e w' ⟨rfl, rfl⟩)
          (refine (CW.out _ (BuiltF.drewN' HB.out nq) (by simp; omega)).mono ?_)
          rintro e w3 ⟨rfl, hB, hw, _⟩
          have HB1 := Lib.hid hB
          have HW1 := Lib.hid ((blw_drewN HW.out nq).trans (show Below W0.heap.size _ _ by rw [Hz1.out]; exact hw))
          clear hB hw HB HW
          go_wp2_with fail
          go_roundw
          case rel => exact ⟨k + 1, f, acc ++ [c], by go_num, by omega, by omega, by simp; omega, HN, HB1, HW1⟩
          case measure => simp [RowKit.intOf]; omega
    · have hkl : k = s.length := by omega
      have HN := Lib.hid (show R = some (acc, s.length) by
        rw [← HQ.out]
        obtain ⟨f, rfl⟩ : ∃ g, f = g + 1 := ⟨f - 1, by omega⟩
        unfold Lx.bar
        rw [List.getElem?_eq_none (by omega), hkl])
      clear HQ
      have CS := Lib.hid fun wx h1 h2 => bstr_any (Z + 2) (Z + 2) acc wx h1 h2
      have HBZ := Lib.hid (show Below (Z + 2) W0 wr from Hz1.out ▸ HW.out)
      have hkk : ¬ (k : Int) < (s.length : Int) := by omega
      go_wp2_with fail
      refine wp_region_held_drew (S := fun w' => w'.cell? ⟨Z, 0, none⟩ = some (.string ⟨s.toArray⟩) ∧ Hid (BuiltF (Z + 2) (Z + 2) acc w') ∧ Hid (Below (Z + 2) W0 w')) (by kernel_rfl) (by exact ⟨by simpa using hcs, Lib.hid (BuiltF.drewN' HB.out 1), Lib.hid (blw_drewN HBZ.out 1)⟩) (fun hHeld => ?_)
      refine take_run (d := (some 64)) (v := ?v1) 1 rfl rfl (by kernel_rfl) (by kernel_rfl) (by kernel_rfl) (fun _ _ _ h => h) (by rfl) hHeld ?hy1 ?rs1
      case hy1 => (intro w hSw; (try dsimp only at hSw); go_simp) <;> (try with_reducible rfl)
      (try simp only [Act.put, List.setIfInBounds_toArray, List.set_cons_zero, List.set_cons_succ])
      refine take_run (d := (some 65)) (v := ?v2) 2 rfl rfl (by kernel_rfl) (by kernel_rfl) (by kernel_rfl) (fun _ _ _ h => h) (by rfl) hHeld ?hy2 ?rs2
      case hy2 => (intro w hSw; (try dsimp only at hSw); go_simp) <;> (try with_reducible rfl)
      (try simp only [Act.put, List.setIfInBounds_toArray, List.set_cons_zero, List.set_cons_succ])
      refine take_call 0 rfl (by kernel_rfl) (by rfl) (fun K hK => ?_)
      go_simp
      refine (CS.out _ hHeld.2.1.out (by have := hHeld.2.2.out.size; have := Hz1.out; omega)).mono ?_
      rintro e w' ⟨rfl, hb⟩
      refine hK.out _ _ (by obtain ⟨h0, h1, hw⟩ := hHeld; exact ⟨(hb.2.cell (p := ⟨Z, 0, none⟩) (show Z < Z + 2 by omega)).trans h0, (fun _ => Lib.hid hb.1) h1, Lib.hid (hw.out.trans hb.2)⟩) (fun hHeld => ?_)
      clear hK K
      (try simp only [Act.put, List.setIfInBounds_toArray, List.set_cons_zero, List.set_cons_succ])
      refine take_run (d := (some 4)) (v := ?v4) 3 rfl rfl (by kernel_rfl) (by kernel_rfl) (by kernel_rfl) (fun _ _ _ h => h) (by rfl) hHeld ?hy4 ?rs4
      case hy4 => (intro w hSw; (try dsimp only at hSw); go_simp) <;> (try with_reducible rfl)
      (try simp only [Act.put, List.setIfInBounds_toArray, List.set_cons_zero, List.set_cons_succ])
      refine take_run (d := (some 5)) (v := ?v5) 4 rfl rfl (by kernel_rfl) (by kernel_rfl) (by kernel_rfl) (fun _ _ _ h => h) (by rfl) hHeld ?hy5 ?rs5
      case hy5 => (intro w hSw; (try dsimp only at hSw); go_simp) <;> (try with_reducible rfl)
      (try simp only [Act.put, List.setIfInBounds_toArray, List.set_cons_zero, List.set_cons_succ])
      refine take_run (d := (some 6)) (v := ?v6) 5 rfl rfl (by kernel_rfl) (by kernel_rfl) (by kernel_rfl) (fun _ _ _ h => h) (by rfl) hHeld ?hy6 ?rs6
      case hy6 => (intro w hSw; (try dsimp only at hSw); go_simp) <;> (try with_reducible rfl)
      (try simp only [Act.put, List.setIfInBounds_toArray, List.set_cons_zero, List.set_cons_succ])
      refine wpAnyH_done (by kernel_rfl) ?_ _
      obtain ⟨z0, z1, zW⟩ := hHeld
      go_wp2_with fail
      go_ret3
      exact ⟨by rw [HN.out]; rfl, HW0.out.trans ((show Below (Z + 2) W0 _ from zW.out).mono (by have := HW0.out.size; have := Hz1.out; rw [HZ.out]; omega))⟩
end Go.Proofs.YtghohnbajbikjaaGreatDoor
namespace Go.Proofs.YtghohnbajbikjaaGreatDoor
open Go.RowKit Go.Lib

theorem gPow : Tryz.prog.globalNamed "internal/strconv.uint64pow10" = some 6 := by kernel_rfl
/-- the table of powers holds its numbers -/
def PowW (w : World) : Prop := Lib.TabIs Tryz.prog w "internal/strconv.uint64pow10" .u64 Lib.pow10Tab
theorem PowW.lt {w : World} (h : PowW w) : 6 < w.heap.size :=
  World.block_lt_of_cell? w ⟨6, 0, none⟩ (TabIs.cell h gPow 0 (by rw [pow10Tab_length]; decide))
theorem PowW.below {w w' : World} (h : PowW w) (hb : Below w.heap.size w w') : PowW w' := var?_below hb gPow h.lt h
theorem PowW.alloc {w : World} (h : PowW w) (o : Obj) : PowW (w.alloc o) := h.below (blw_alloc w o)
theorem PowW.drewN {w : World} (h : PowW w) (n : Nat) : PowW (w.drewN n) := h.below (blw_drewN (Below.refl _ _) n)
theorem blw_grow (w : World) (k : Nat) (os : Array Obj) : Below w.heap.size w (Sort.grow (w.drewN k) os) :=
  ⟨rfl, rfl, rfl, by show w.heap.size ≤ (w.heap ++ os).size; rw [Array.size_append]; omega, fun _ hj => Sort.heap_grow_old (w.drewN k) os hj⟩
theorem itoa_any (n : Int) (w : World) (hp : PowW w) (n0 : -9223372036854775808 ≤ n) (n1 : n ≤ 9223372036854775807) :
    Calls Tryz.prog 56 #[.int .i64 n] w fun e w' => e = .returned (.string ⟨(Lib.itoa n).toArray⟩) ∧ Below w.heap.size w w' :=
  (Tryz.strconv_Itoa n n0 n1 w hp).mono fun _ _ ⟨he, k, os, hw⟩ => ⟨he, hw ▸ blw_grow w k os⟩
end Go.Proofs.YtghohnbajbikjaaGreatDoor
namespace Go.Proofs.YtghohnbajbikjaaGreatDoor
open Go.RowKit

/-- the map's first entries -/
def lgE0 : Array MapEntry := #[]
def lgE1 : Array MapEntry := lgE0.push { key := .string ⟨#[101, 110]⟩, val := .agg #[.string ⟨#[]⟩, .string ⟨#[105, 32, 61, 32, 49, 32, 97, 110, 100, 32, 118, 32, 61, 32, 48]⟩, .string ⟨#[]⟩, .string ⟨#[]⟩, .string ⟨#[]⟩], born := 0 }
def lgE2 : Array MapEntry := lgE1.push { key := .string ⟨#[100, 101]⟩, val := .agg #[.string ⟨#[]⟩, .string ⟨#[105, 32, 61, 32, 49, 32, 97, 110, 100, 32, 118, 32, 61, 32, 48]⟩, .string ⟨#[]⟩, .string ⟨#[]⟩, .string ⟨#[]⟩], born := 1 }
def lgE3 : Array MapEntry := lgE2.push { key := .string ⟨#[102, 114]⟩, val := .agg #[.string ⟨#[]⟩, .string ⟨#[105, 32, 61, 32, 48, 44, 49]⟩, .string ⟨#[]⟩, .string ⟨#[]⟩, .string ⟨#[]⟩], born := 2 }
def lgE4 : Array MapEntry := lgE3.push { key := .string ⟨#[106, 97]⟩, val := .agg #[.string ⟨#[]⟩, .string ⟨#[]⟩, .string ⟨#[]⟩, .string ⟨#[]⟩, .string ⟨#[]⟩], born := 3 }
def lgE5 : Array MapEntry := lgE4.push { key := .string ⟨#[112, 108]⟩, val := .agg #[.string ⟨#[]⟩, .string ⟨#[105, 32, 61, 32, 49, 32, 97, 110, 100, 32, 118, 32, 61, 32, 48]⟩, .string ⟨#[]⟩, .string ⟨#[118, 32, 61, 32, 48, 32, 97, 110, 100, 32, 105, 32, 37, 32, 49, 48, 32, 61, 32, 50, 46, 46, 52, 32, 97, 110, 100, 32, 105, 32, 37, 32, 49, 48, 48, 32, 33, 61, 32, 49, 50, 46, 46, 49, 52]⟩, .string ⟨#[118, 32, 61, 32, 48, 32, 97, 110, 100, 32, 105, 32, 33, 61, 32, 49, 32, 97, 110, 100, 32, 105, 32, 37, 32, 49, 48, 32, 61, 32, 48, 46, 46, 49, 32, 111, 114, 32, 118, 32, 61, 32, 48, 32, 97, 110, 100, 32, 105, 32, 37, 32, 49, 48, 32, 61, 32, 53, 46, 46, 57, 32, 111, 114, 32, 118, 32, 61, 32, 48, 32, 97, 110, 100, 32, 105, 32, 37, 32, 49, 48, 48, 32, 61, 32, 49, 50, 46, 46, 49, 52]⟩], born := 4 }
def lgE6 : Array MapEntry := lgE5.push { key := .string ⟨#[114, 117]⟩, val := .agg #[.string ⟨#[]⟩, .string ⟨#[118, 32, 61, 32, 48, 32, 97, 110, 100, 32, 105, 32, 37, 32, 49, 48, 32, 61, 32, 49, 32, 97, 110, 100, 32, 105, 32, 37, 32, 49, 48, 48, 32, 33, 61, 32, 49, 49]⟩, .string ⟨#[]⟩, .string ⟨#[118, 32, 61, 32, 48, 32, 97, 110, 100, 32, 105, 32, 37, 32, 49, 48, 32, 61, 32, 50, 46, 46, 52, 32, 97, 110, 100, 32, 105, 32, 37, 32, 49, 48, 48, 32, 33, 61, 32, 49, 50, 46, 46, 49, 52]⟩, .string ⟨#[118, 32, 61, 32, 48, 32, 97, 110, 100, 32, 105, 32, 37, 32, 49, 48, 32, 61, 32, 48, 32, 111, 114, 32, 118, 32, 61, 32, 48, 32, 97, 110, 100, 32, 105, 32, 37, 32, 49, 48, 32, 61, 32, 53, 46, 46, 57, 32, 111, 114, 32, 118, 32, 61, 32, 48, 32, 97, 110, 100, 32, 105, 32, 37, 32, 49, 48, 48, 32, 61, 32, 49, 49, 46, 46, 49, 52]⟩], born := 5 }
def lgE7 : Array MapEntry := lgE6.push { key := .string ⟨#[97, 114]⟩, val := .agg #[.string ⟨#[110, 32, 61, 32, 48]⟩, .string ⟨#[110, 32, 61, 32, 49]⟩, .string ⟨#[110, 32, 61, 32, 50]⟩, .string ⟨#[110, 32, 37, 32, 49, 48, 48, 32, 61, 32, 51, 46, 46, 49, 48]⟩, .string ⟨#[110, 32, 37, 32, 49, 48, 48, 32, 61, 32, 49, 49, 46, 46, 57, 57]⟩], born := 6 }
def lgE8 : Array MapEntry := lgE7.push { key := .string ⟨#[108, 118]⟩, val := .agg #[.string ⟨#[110, 32, 37, 32, 49, 48, 32, 61, 32, 48, 32, 111, 114, 32, 110, 32, 37, 32, 49, 48, 48, 32, 61, 32, 49, 49, 46, 46, 49, 57, 32, 111, 114, 32, 118, 32, 61, 32, 50, 32, 97, 110, 100, 32, 102, 32, 37, 32, 49, 48, 48, 32, 61, 32, 49, 49, 46, 46, 49, 57]⟩, .string ⟨#[110, 32, 37, 32, 49, 48, 32, 61, 32, 49, 32, 97, 110, 100, 32, 110, 32, 37, 32, 49, 48, 48, 32, 33, 61, 32, 49, 49, 32, 111, 114, 32, 118, 32, 61, 32, 50, 32, 97, 110, 100, 32, 102, 32, 37, 32, 49, 48, 32, 61, 32, 49, 32, 97, 110, 100, 32, 102, 32, 37, 32, 49, 48, 48, 32, 33, 61, 32, 49, 49, 32, 111, 114, 32, 118, 32, 33, 61, 32, 50, 32, 97, 110, 100, 32, 102, 32, 37, 32, 49, 48, 32, 61, 32, 49]⟩, .string ⟨#[]⟩, .string ⟨#[]⟩, .string ⟨#[]⟩], born := 7 }

set_option maxRecDepth 100000 in
set_option maxHeartbeats 1000000 in
theorem rules_any (w : World) : Calls Tryz.prog 94 #[] w fun e w' => e = .returned (.map (some (w.heap.size + 1))) ∧ w' = (w.alloc (.cells #[.string ⟨#[]⟩, .string ⟨#[105, 32, 61, 32, 49, 32, 97, 110, 100, 32, 118, 32, 61, 32, 48]⟩, .string ⟨#[]⟩, .string ⟨#[]⟩, .string ⟨#[]⟩] 126)).alloc (.map lgE8 8) := by
  have I0 : (Instr.mapUpdate 182 (.map (some (w.heap.size + 1))) (.string ⟨#[101, 110]⟩) (.agg #[.string ⟨#[]⟩, .string ⟨#[105, 32, 61, 32, 49, 32, 97, 110, 100, 32, 118, 32, 61, 32, 48]⟩, .string ⟨#[]⟩, .string ⟨#[]⟩, .string ⟨#[]⟩])).run Tryz.prog ((w.alloc (.cells #[.string ⟨#[]⟩, .string ⟨#[105, 32, 61, 32, 49, 32, 97, 110, 100, 32, 118, 32, 61, 32, 48]⟩, .string ⟨#[]⟩, .string ⟨#[]⟩, .string ⟨#[]⟩] 126)).alloc (.map lgE0 0)) = .ok () ((w.alloc (.cells #[.string ⟨#[]⟩, .string ⟨#[105, 32, 61, 32, 49, 32, 97, 110, 100, 32, 118, 32, 61, 32, 48]⟩, .string ⟨#[]⟩, .string ⟨#[]⟩, .string ⟨#[]⟩] 126)).alloc (.map lgE1 1)) := by
    have h := map_new (P := Tryz.prog) 182 9 126 Tryz.underlying182 Tryz.underlying9 lgE0 0 ⟨#[101, 110]⟩ (.agg #[.string ⟨#[]⟩, .string ⟨#[105, 32, 61, 32, 49, 32, 97, 110, 100, 32, 118, 32, 61, 32, 48]⟩, .string ⟨#[]⟩, .string ⟨#[]⟩, .string ⟨#[]⟩]) (by kernel_rfl) (w.alloc (.cells #[.string ⟨#[]⟩, .string ⟨#[105, 32, 61, 32, 49, 32, 97, 110, 100, 32, 118, 32, 61, 32, 48]⟩, .string ⟨#[]⟩, .string ⟨#[]⟩, .string ⟨#[]⟩] 126))
    rw [show (w.alloc (.cells #[.string ⟨#[]⟩, .string ⟨#[105, 32, 61, 32, 49, 32, 97, 110, 100, 32, 118, 32, 61, 32, 48]⟩, .string ⟨#[]⟩, .string ⟨#[]⟩, .string ⟨#[]⟩] 126)).heap.size = w.heap.size + 1 by simp] at h
    exact h
  have I1 : (Instr.mapUpdate 182 (.map (some (w.heap.size + 1))) (.string ⟨#[100, 101]⟩) (.agg #[.string ⟨#[]⟩, .string ⟨#[105, 32, 61, 32, 49, 32, 97, 110, 100, 32, 118, 32, 61, 32, 48]⟩, .string ⟨#[]⟩, .string ⟨#[]⟩, .string ⟨#[]⟩])).run Tryz.prog ((w.alloc (.cells #[.string ⟨#[]⟩, .string ⟨#[105, 32, 61, 32, 49, 32, 97, 110, 100, 32, 118, 32, 61, 32, 48]⟩, .string ⟨#[]⟩, .string ⟨#[]⟩, .string ⟨#[]⟩] 126)).alloc (.map lgE1 1)) = .ok () ((w.alloc (.cells #[.string ⟨#[]⟩, .string ⟨#[105, 32, 61, 32, 49, 32, 97, 110, 100, 32, 118, 32, 61, 32, 48]⟩, .string ⟨#[]⟩, .string ⟨#[]⟩, .string ⟨#[]⟩] 126)).alloc (.map lgE2 2)) := by
    have h := map_new (P := Tryz.prog) 182 9 126 Tryz.underlying182 Tryz.underlying9 lgE1 1 ⟨#[100, 101]⟩ (.agg #[.string ⟨#[]⟩, .string ⟨#[105, 32, 61, 32, 49, 32, 97, 110, 100, 32, 118, 32, 61, 32, 48]⟩, .string ⟨#[]⟩, .string ⟨#[]⟩, .string ⟨#[]⟩]) (by kernel_rfl) (w.alloc (.cells #[.string ⟨#[]⟩, .string ⟨#[105, 32, 61, 32, 49, 32, 97, 110, 100, 32, 118, 32, 61, 32, 48]⟩, .string ⟨#[]⟩, .string ⟨#[]⟩, .string ⟨#[]⟩] 126))
    rw [show (w.alloc (.cells #[.string ⟨#[]⟩, .string ⟨#[105, 32, 61, 32, 49, 32, 97, 110, 100, 32, 118, 32, 61, 32, 48]⟩, .string ⟨#[]⟩, .string ⟨#[]⟩, .string ⟨#[]⟩] 126)).heap.size = w.heap.size + 1 by simp] at h
    exact h
  have I2 : (Instr.mapUpdate 182 (.map (some (w.heap.size + 1))) (.string ⟨#[102, 114]⟩) (.agg #[.string ⟨#[]⟩, .string ⟨#[105, 32, 61, 32, 48, 44, 49]⟩, .string ⟨#[]⟩, .string ⟨#[]⟩, .string ⟨#[]⟩])).run Tryz.prog ((w.alloc (.cells #[.string ⟨#[]⟩, .string ⟨#[105, 32, 61, 32, 49, 32, 97, 110, 100, 32, 118, 32, 61, 32, 48]⟩, .string ⟨#[]⟩, .string ⟨#[]⟩, .string ⟨#[]⟩] 126)).alloc (.map lgE2 2)) = .ok () ((w.alloc (.cells #[.string ⟨#[]⟩, .string ⟨#[105, 32, 61, 32, 49, 32, 97, 110, 100, 32, 118, 32, 61, 32, 48]⟩, .string ⟨#[]⟩, .string ⟨#[]⟩, .string ⟨#[]⟩] 126)).alloc (.map lgE3 3)) := by
    have h := map_new (P := Tryz.prog) 182 9 126 Tryz.underlying182 Tryz.underlying9 lgE2 2 ⟨#[102, 114]⟩ (.agg #[.string ⟨#[]⟩, .string ⟨#[105, 32, 61, 32, 48, 44, 49]⟩, .string ⟨#[]⟩, .string ⟨#[]⟩, .string ⟨#[]⟩]) (by kernel_rfl) (w.alloc (.cells #[.string ⟨#[]⟩, .string ⟨#[105, 32, 61, 32, 49, 32, 97, 110, 100, 32, 118, 32, 61, 32, 48]⟩, .string ⟨#[]⟩, .string ⟨#[]⟩, .string ⟨#[]⟩] 126))
    rw [show (w.alloc (.cells #[.string ⟨#[]⟩, .string ⟨#[105, 32, 61, 32, 49, 32, 97, 110, 100, 32, 118, 32, 61, 32, 48]⟩, .string ⟨#[]⟩, .string ⟨#[]⟩, .string ⟨#[]⟩] 126)).heap.size = w.heap.size + 1 by simp] at h
    exact h
  have I3 : (Instr.mapUpdate 182 (.map (some (w.heap.size + 1))) (.string ⟨#[106, 97]⟩) (.agg #[.string ⟨#[]⟩, .string ⟨#[]⟩, .string ⟨#[]⟩, .string ⟨#[]⟩, .string ⟨#[]⟩])).run Tryz.prog ((w.alloc (.cells #[.string ⟨#[]⟩, .string ⟨#[105, 32, 61, 32, 49, 32, 97, 110, 100, 32, 118, 32, 61, 32, 48]⟩, .string ⟨#[]⟩, .string ⟨#[]⟩, .string ⟨#[]⟩] 126)).alloc (.map lgE3 3)) = .ok () ((w.alloc (.cells #[.string ⟨#[]⟩, .string ⟨#[105, 32, 61, 32, 49, 32, 97, 110, 100, 32, 118, 32, 61, 32, 48]⟩, .string ⟨#[]⟩, .string ⟨#[]⟩, .string ⟨#[]⟩] 126)).alloc (.map lgE4 4)) := by
    have h := map_new (P := Tryz.prog) 182 9 126 Tryz.underlying182 Tryz.underlying9 lgE3 3 ⟨#[106, 97]⟩ (.agg #[.string ⟨#[]⟩, .string ⟨#[]⟩, .string ⟨#[]⟩, .string ⟨#[]⟩, .string ⟨#[]⟩]) (by kernel_rfl) (w.alloc (.cells #[.string ⟨#[]⟩, .string ⟨#[105, 32, 61, 32, 49, 32, 97, 110, 100, 32, 118, 32, 61, 32, 48]⟩, .string ⟨#[]⟩, .string ⟨#[]⟩, .string ⟨#[]⟩] 126))
    rw [show (w.alloc (.cells #[.string ⟨#[]⟩, .string ⟨#[105, 32, 61, 32, 49, 32, 97, 110, 100, 32, 118, 32, 61, 32, 48]⟩, .string ⟨#[]⟩, .string ⟨#[]⟩, .string ⟨#[]⟩] 126)).heap.size = w.heap.size + 1 by simp] at h
    exact h
  have I4 : (Instr.mapUpdate 182 (.map (some (w.heap.size + 1))) (.string ⟨#[112, 108]⟩) (.agg #[.string ⟨#[]⟩, .string ⟨#[105, 32, 61, 32, 49, 32, 97, 110, 100, 32, 118, 32, 61, 32, 48]⟩, .string ⟨#[]⟩, .string ⟨#[118, 32, 61, 32, 48, 32, 97, 110, 100, 32, 105, 32, 37, 32, 49, 48, 32, 61, 32, 50, 46, 46, 52, 32, 97, 110, 100, 32, 105, 32, 37, 32, 49, 48, 48, 32, 33, 61, 32, 49, 50, 46, 46, 49, 52]⟩, .string ⟨#[118, 32, 61, 32, 48, 32, 97, 110, 100, 32, 105, 32, 33, 61, 32, 49, 32, 97, 110, 100, 32, 105, 32, 37, 32, 49, 48, 32, 61, 32, 48, 46, 46, 49, 32, 111, 114, 32, 118, 32, 61, 32, 48, 32, 97, 110, 100, 32, 105, 32, 37, 32, 49, 48, 32, 61, 32, 53, 46, 46, 57, 32, 111, 114, 32, 118, 32, 61, 32, 48, 32, 97, 110, 100, 32, 105, 32, 37, 32, 49, 48, 48, 32, 61, 32, 49, 50, 46, 46, 49, 52]⟩])).run Tryz.prog ((w.alloc (.cells #[.string ⟨#[]⟩, .string ⟨#[105, 32, 61, 32, 49, 32, 97, 110, 100, 32, 118, 32, 61, 32, 48]⟩, .string ⟨#[]⟩, .string ⟨#[]⟩, .string ⟨#[]⟩] 126)).alloc (.map lgE4 4)) = .ok () ((w.alloc (.cells #[.string ⟨#[]⟩, .string ⟨#[105, 32, 61, 32, 49, 32, 97, 110, 100, 32, 118, 32, 61, 32, 48]⟩, .string ⟨#[]⟩, .string ⟨#[]⟩, .string ⟨#[]⟩] 126)).alloc (.map lgE5 5)) := by
    have h := map_new (P := Tryz.prog) 182 9 126 Tryz.underlying182 Tryz.underlying9 lgE4 4 ⟨#[112, 108]⟩ (.agg #[.string ⟨#[]⟩, .string ⟨#[105, 32, 61, 32, 49, 32, 97, 110, 100, 32, 118, 32, 61, 32, 48]⟩, .string ⟨#[]⟩, .string ⟨#[118, 32, 61, 32, 48, 32, 97, 110, 100, 32, 105, 32, 37, 32, 49, 48, 32, 61, 32, 50, 46, 46, 52, 32, 97, 110, 100, 32, 105, 32, 37, 32, 49, 48, 48, 32, 33, 61, 32, 49, 50, 46, 46, 49, 52]⟩, .string ⟨#[118, 32, 61, 32, 48, 32, 97, 110, 100, 32, 105, 32, 33, 61, 32, 49, 32, 97, 110, 100, 32, 105, 32, 37, 32, 49, 48, 32, 61, 32, 48, 46, 46, 49, 32, 111, 114, 32, 118, 32, 61, 32, 48, 32, 97, 110, 100, 32, 105, 32, 37, 32, 49, 48, 32, 61, 32, 53, 46, 46, 57, 32, 111, 114, 32, 118, 32, 61, 32, 48, 32, 97, 110, 100, 32, 105, 32, 37, 32, 49, 48, 48, 32, 61, 32, 49, 50, 46, 46, 49, 52]⟩]) (by kernel_rfl) (w.alloc (.cells #[.string ⟨#[]⟩, .string ⟨#[105, 32, 61, 32, 49, 32, 97, 110, 100, 32, 118, 32, 61, 32, 48]⟩, .string ⟨#[]⟩, .string ⟨#[]⟩, .string ⟨#[]⟩] 126))
    rw [show (w.alloc (.cells #[.string ⟨#[]⟩, .string ⟨#[105, 32, 61, 32, 49, 32, 97, 110, 100, 32, 118, 32, 61, 32, 48]⟩, .string ⟨#[]⟩, .string ⟨#[]⟩, .string ⟨#[]⟩] 126)).heap.size = w.heap.size + 1 by simp] at h
    exact h
  have I5 : (Instr.mapUpdate 182 (.map (some (w.heap.size + 1))) (.string ⟨#[114, 117]⟩) (.agg #[.string ⟨#[]⟩, .string ⟨#[118, 32, 61, 32, 48, 32, 97, 110, 100, 32, 105, 32, 37, 32, 49, 48, 32, 61, 32, 49, 32, 97, 110, 100, 32, 105, 32, 37, 32, 49, 48, 48, 32, 33, 61, 32, 49, 49]⟩, .string ⟨#[]⟩, .string ⟨#[118, 32, 61, 32, 48, 32, 97, 110, 100, 32, 105, 32, 37, 32, 49, 48, 32, 61, 32, 50, 46, 46, 52, 32, 97, 110, 100, 32, 105, 32, 37, 32, 49, 48, 48, 32, 33, 61, 32, 49, 50, 46, 46, 49, 52]⟩, .string ⟨#[118, 32, 61, 32, 48, 32, 97, 110, 100, 32, 105, 32, 37, 32, 49, 48, 32, 61, 32, 48, 32, 111, 114, 32, 118, 32, 61, 32, 48, 32, 97, 110, 100, 32, 105, 32, 37, 32, 49, 48, 32, 61, 32, 53, 46, 46, 57, 32, 111, 114, 32, 118, 32, 61, 32, 48, 32, 97, 110, 100, 32, 105, 32, 37, 32, 49, 48, 48, 32, 61, 32, 49, 49, 46, 46, 49, 52]⟩])).run Tryz.prog ((w.alloc (.cells #[.string ⟨#[]⟩, .string ⟨#[105, 32, 61, 32, 49, 32, 97, 110, 100, 32, 118, 32, 61, 32, 48]⟩, .string ⟨#[]⟩, .string ⟨#[]⟩, .string ⟨#[]⟩] 126)).alloc (.map lgE5 5)) = .ok () ((w.alloc (.cells #[.string ⟨#[]⟩, .string ⟨#[105, 32, 61, 32, 49, 32, 97, 110, 100, 32, 118, 32, 61, 32, 48]⟩, .string ⟨#[]⟩, .string ⟨#[]⟩, .string ⟨#[]⟩] 126)).alloc (.map lgE6 6)) := by
    have h := map_new (P := Tryz.prog) 182 9 126 Tryz.underlying182 Tryz.underlying9 lgE5 5 ⟨#[114, 117]⟩ (.agg #[.string ⟨#[]⟩, .string ⟨#[118, 32, 61, 32, 48, 32, 97, 110, 100, 32, 105, 32, 37, 32, 49, 48, 32, 61, 32, 49, 32, 97, 110, 100, 32, 105, 32, 37, 32, 49, 48, 48, 32, 33, 61, 32, 49, 49]⟩, .string ⟨#[]⟩, .string ⟨#[118, 32, 61, 32, 48, 32, 97, 110, 100, 32, 105, 32, 37, 32, 49, 48, 32, 61, 32, 50, 46, 46, 52, 32, 97, 110, 100, 32, 105, 32, 37, 32, 49, 48, 48, 32, 33, 61, 32, 49, 50, 46, 46, 49, 52]⟩, .string ⟨#[118, 32, 61, 32, 48, 32, 97, 110, 100, 32, 105, 32, 37, 32, 49, 48, 32, 61, 32, 48, 32, 111, 114, 32, 118, 32, 61, 32, 48, 32, 97, 110, 100, 32, 105, 32, 37, 32, 49, 48, 32, 61, 32, 53, 46, 46, 57, 32, 111, 114, 32, 118, 32, 61, 32, 48, 32, 97, 110, 100, 32, 105, 32, 37, 32, 49, 48, 48, 32, 61, 32, 49, 49, 46, 46, 49, 52]⟩]) (by kernel_rfl) (w.alloc (.cells #[.string ⟨#[]⟩, .string ⟨#[105, 32, 61, 32, 49, 32, 97, 110, 100, 32, 118, 32, 61, 32, 48]⟩, .string ⟨#[]⟩, .string ⟨#[]⟩, .string ⟨#[]⟩] 126))
    rw [show (w.alloc (.cells #[.string ⟨#[]⟩, .string ⟨#[105, 32, 61, 32, 49, 32, 97, 110, 100, 32, 118, 32, 61, 32, 48]⟩, .string ⟨#[]⟩, .string ⟨#[]⟩, .string ⟨#[]⟩] 126)).heap.size = w.heap.size + 1 by simp] at h
    exact h
  have I6 : (Instr.mapUpdate 182 (.map (some (w.heap.size + 1))) (.string ⟨#[97, 114]⟩) (.agg #[.string ⟨#[110, 32, 61, 32, 48]⟩, .string ⟨#[110, 32, 61, 32, 49]⟩, .string ⟨#[110, 32, 61, 32, 50]⟩, .string ⟨#[110, 32, 37, 32, 49, 48, 48, 32, 61, 32, 51, 46, 46, 49, 48]⟩, .string ⟨#[110, 32, 37, 32, 49, 48, 48, 32, 61, 32, 49, 49, 46, 46, 57, 57]⟩])).run Tryz.prog ((w.alloc (.cells #[.string ⟨#[]⟩, .string ⟨#[105, 32, 61, 32, 49, 32, 97, 110, 100, 32, 118, 32, 61, 32, 48]⟩, .string ⟨#[]⟩, .string ⟨#[]⟩, .string ⟨#[]⟩] 126)).alloc (.map lgE6 6)) = .ok () ((w.alloc (.cells #[.string ⟨#[]⟩, .string ⟨#[105, 32, 61, 32, 49, 32, 97, 110, 100, 32, 118, 32, 61, 32, 48]⟩, .string ⟨#[]⟩, .string ⟨#[]⟩, .string ⟨#[]⟩] 126)).alloc (.map lgE7 7)) := by
    have h := map_new (P := Tryz.prog) 182 9 126 Tryz.underlying182 Tryz.underlying9 lgE6 6 ⟨#[97, 114]⟩ (.agg #[.string ⟨#[110, 32, 61, 32, 48]⟩, .string ⟨#[110, 32, 61, 32, 49]⟩, .string ⟨#[110, 32, 61, 32, 50]⟩, .string ⟨#[110, 32, 37, 32, 49, 48, 48, 32, 61, 32, 51, 46, 46, 49, 48]⟩, .string ⟨#[110, 32, 37, 32, 49, 48, 48, 32, 61, 32, 49, 49, 46, 46, 57, 57]⟩]) (by kernel_rfl) (w.alloc (.cells #[.string ⟨#[]⟩, .string ⟨#[105, 32, 61, 32, 49, 32, 97, 110, 100, 32, 118, 32, 61, 32, 48]⟩, .string ⟨#[]⟩, .string ⟨#[]⟩, .string ⟨#[]⟩] 126))
    rw [show (w.alloc (.cells #[.string ⟨#[]⟩, .string ⟨#[105, 32, 61, 32, 49, 32, 97, 110, 100, 32, 118, 32, 61, 32, 48]⟩, .string ⟨#[]⟩, .string ⟨#[]⟩, .string ⟨#[]⟩] 126)).heap.size = w.heap.size + 1 by simp] at h
    exact h
  have I7 : (Instr.mapUpdate 182 (.map (some (w.heap.size + 1))) (.string ⟨#[108, 118]⟩) (.agg #[.string ⟨#[110, 32, 37, 32, 49, 48, 32, 61, 32, 48, 32, 111, 114, 32, 110, 32, 37, 32, 49, 48, 48, 32, 61, 32, 49, 49, 46, 46, 49, 57, 32, 111, 114, 32, 118, 32, 61, 32, 50, 32, 97, 110, 100, 32, 102, 32, 37, 32, 49, 48, 48, 32, 61, 32, 49, 49, 46, 46, 49, 57]⟩, .string ⟨#[110, 32, 37, 32, 49, 48, 32, 61, 32, 49, 32, 97, 110, 100, 32, 110, 32, 37, 32, 49, 48, 48, 32, 33, 61, 32, 49, 49, 32, 111, 114, 32, 118, 32, 61, 32, 50, 32, 97, 110, 100, 32, 102, 32, 37, 32, 49, 48, 32, 61, 32, 49, 32, 97, 110, 100, 32, 102, 32, 37, 32, 49, 48, 48, 32, 33, 61, 32, 49, 49, 32, 111, 114, 32, 118, 32, 33, 61, 32, 50, 32, 97, 110, 100, 32, 102, 32, 37, 32, 49, 48, 32, 61, 32, 49]⟩, .string ⟨#[]⟩, .string ⟨#[]⟩, .string ⟨#[]⟩])).run Tryz.prog ((w.alloc (.cells #[.string ⟨#[]⟩, .string ⟨#[105, 32, 61, 32, 49, 32, 97, 110, 100, 32, 118, 32, 61, 32, 48]⟩, .string ⟨#[]⟩, .string ⟨#[]⟩, .string ⟨#[]⟩] 126)).alloc (.map lgE7 7)) = .ok () ((w.alloc (.cells #[.string ⟨#[]⟩, .string ⟨#[105, 32, 61, 32, 49, 32, 97, 110, 100, 32, 118, 32, 61, 32, 48]⟩, .string ⟨#[]⟩, .string ⟨#[]⟩, .string ⟨#[]⟩] 126)).alloc (.map lgE8 8)) := by
    have h := map_new (P := Tryz.prog) 182 9 126 Tryz.underlying182 Tryz.underlying9 lgE7 7 ⟨#[108, 118]⟩ (.agg #[.string ⟨#[110, 32, 37, 32, 49, 48, 32, 61, 32, 48, 32, 111, 114, 32, 110, 32, 37, 32, 49, 48, 48, 32, 61, 32, 49, 49, 46, 46, 49, 57, 32, 111, 114, 32, 118, 32, 61, 32, 50, 32, 97, 110, 100, 32, 102, 32, 37, 32, 49, 48, 48, 32, 61, 32, 49, 49, 46, 46, 49, 57]⟩, .string ⟨#[110, 32, 37, 32, 49, 48, 32, 61, 32, 49, 32, 97, 110, 100, 32, 110, 32, 37, 32, 49, 48, 48, 32, 33, 61, 32, 49, 49, 32, 111, 114, 32, 118, 32, 61, 32, 50, 32, 97, 110, 100, 32, 102, 32, 37, 32, 49, 48, 32, 61, 32, 49, 32, 97, 110, 100, 32, 102, 32, 37, 32, 49, 48, 48, 32, 33, 61, 32, 49, 49, 32, 111, 114, 32, 118, 32, 33, 61, 32, 50, 32, 97, 110, 100, 32, 102, 32, 37, 32, 49, 48, 32, 61, 32, 49]⟩, .string ⟨#[]⟩, .string ⟨#[]⟩, .string ⟨#[]⟩]) (by kernel_rfl) (w.alloc (.cells #[.string ⟨#[]⟩, .string ⟨#[105, 32, 61, 32, 49, 32, 97, 110, 100, 32, 118, 32, 61, 32, 48]⟩, .string ⟨#[]⟩, .string ⟨#[]⟩, .string ⟨#[]⟩] 126))
    rw [show (w.alloc (.cells #[.string ⟨#[]⟩, .string ⟨#[105, 32, 61, 32, 49, 32, 97, 110, 100, 32, 118, 32, 61, 32, 48]⟩, .string ⟨#[]⟩, .string ⟨#[]⟩, .string ⟨#[]⟩] 126)).heap.size = w.heap.size + 1 by simp] at h
    exact h
  have hmm : ∀ w, (Instr.makeMap 182 none).run Tryz.prog w = .ok (.map (some w.heap.size)) (w.alloc (.map lgE0 0)) := fun w => @run_makeMap Tryz.prog 182 w
  go_enter Tryz.func94, Tryz.ntmps94
  go_wp2_with fail
  go_ret
  exact ⟨rfl, rfl⟩

set_option maxRecDepth 100000 in
set_option maxHeartbeats 1000000 in
theorem langRules_en (w : World) : Calls Tryz.prog 63 #[.string ⟨#[101, 110]⟩] w fun e w' => e = .returned (.tuple #[.agg #[.string ⟨#[]⟩, .string ⟨#[105, 32, 61, 32, 49, 32, 97, 110, 100, 32, 118, 32, 61, 32, 48]⟩, .string ⟨#[]⟩, .string ⟨#[]⟩, .string ⟨#[]⟩], .nilIface]) ∧ Below w.heap.size w w' := by
  have LK : (Instr.lookup 182 (.map (some (w.heap.size + 1 + 1))) (.string ⟨#[101, 110]⟩) true).run Tryz.prog (((w.alloc (.cells #[.string ⟨#[]⟩, .string ⟨#[]⟩, .string ⟨#[]⟩, .string ⟨#[]⟩, .string ⟨#[]⟩] 126)).alloc (.cells #[.string ⟨#[]⟩, .string ⟨#[105, 32, 61, 32, 49, 32, 97, 110, 100, 32, 118, 32, 61, 32, 48]⟩, .string ⟨#[]⟩, .string ⟨#[]⟩, .string ⟨#[]⟩] 126)).alloc (.map lgE8 8)) = .ok (.tuple #[.agg #[.string ⟨#[]⟩, .string ⟨#[105, 32, 61, 32, 49, 32, 97, 110, 100, 32, 118, 32, 61, 32, 48]⟩, .string ⟨#[]⟩, .string ⟨#[]⟩, .string ⟨#[]⟩], .bool true]) (((w.alloc (.cells #[.string ⟨#[]⟩, .string ⟨#[]⟩, .string ⟨#[]⟩, .string ⟨#[]⟩, .string ⟨#[]⟩] 126)).alloc (.cells #[.string ⟨#[]⟩, .string ⟨#[105, 32, 61, 32, 49, 32, 97, 110, 100, 32, 118, 32, 61, 32, 48]⟩, .string ⟨#[]⟩, .string ⟨#[]⟩, .string ⟨#[]⟩] 126)).alloc (.map lgE8 8)) :=
    map_look (P := Tryz.prog) 182 9 126 Tryz.underlying182 Tryz.underlying9 lgE8 8 (w.heap.size + 1 + 1) 0 ⟨#[101, 110]⟩ (.agg #[.string ⟨#[]⟩, .string ⟨#[105, 32, 61, 32, 49, 32, 97, 110, 100, 32, 118, 32, 61, 32, 48]⟩, .string ⟨#[]⟩, .string ⟨#[]⟩, .string ⟨#[]⟩]) _ (top_alloc _ _ _ (by simp)) (by kernel_rfl)
  go_enter Tryz.func63, Tryz.ntmps63
  go_wp2_with fail
  refine (rules_any _).mono ?_
  rintro e w1 ⟨rfl, rfl⟩
  go_wp2_with fail
  refine bodyPost_ret (v := .tuple #[.agg #[.string ⟨#[]⟩, .string ⟨#[105, 32, 61, 32, 49, 32, 97, 110, 100, 32, 118, 32, 61, 32, 48]⟩, .string ⟨#[]⟩, .string ⟨#[]⟩, .string ⟨#[]⟩], .nilIface]) (by simp [results, Tryz.results63, go_sem]) rfl ⟨rfl, ?_⟩
  repeat (first | exact Below.refl _ _ | refine Below.setCell ?_ (by simp) _ | refine Below.alloc ?_ (by first | (simp; done) | (simp; omega)) _)

end Go.Proofs.YtghohnbajbikjaaGreatDoor
