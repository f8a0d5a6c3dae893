/- The walk of linguisterref1.RuleOf: the rule that the reference reads of a text, if it tells that text. Condition: the text is short. -/
import Derived.Test.YtainindkndjkbaaGreatDoorCvE
import Derived.Test.YtainindkndjkbaaGreatDoorDecOfP
import Derived.Test.YtainindkndjkbaaGreatDoorProg
import Derived.Test.YtainindkndjkbaaGreatDoorRead
import Derived.Test.YtainindkndjkbaaGreatDoorCutP
import Derived.Test.YtainindkndjkbaaGreatDoorStr
import Derived.OwnWalk
import Derived.LoopTactic
import Derived.Test.YtainindkndjkbaaGreatDoorNumOfD
import Derived.Test.YtainindkndjkbaaGreatDoorHeld
import Derived.Deep.DeepCutAuto
import Derived.Deep.CutRange
import Derived.Test.YtainindkndjkbaaGreatDoorDrew
import Derived.Test.YtainindkndjkbaaGreatDoorDigits
import Derived.Maps.AppendAt
namespace Rul
open Go Go.Lib

/-- a range's text, read -/
def rngQ (z : List UInt8) : Int × Int := (Byt.numP (((split z [46, 46])[0]?).getD []), Byt.numP (((split z [46, 46]).getLast?).getD []))
/-- a relation's words, read -/
def wordsQ : List (List UInt8) → Rl
  | [c] :: u :: v :: r =>
    if u = [37] ∧ r.length = 2 then ⟨c, Byt.numP v, decide ((r[0]?).getD [] = [33, 61]), (split ((r[1]?).getD []) [44]).map rngQ⟩
    else ⟨c, 0, decide (u = [33, 61]), (split v [44]).map rngQ⟩
  | _ => ⟨0, 0, false, []⟩
def relQ (s : List UInt8) : Rl := wordsQ (split s [32])
def partQ (s : List UInt8) : List Rl := (split s andS).map relQ
def ruleQ (s : List UInt8) : Rule := (split s orS).map partQ
/-- is it a rule's text, as the reference tells? -/
def okQ (s : List UInt8) : Bool := decide (ruleE (ruleQ s) = 0) && (ruleT (ruleQ s) == s)

theorem numP_dg {v : Int} (h0 : 0 ≤ v) (h1 : v ≤ 1000000) : Byt.numP (dg v) = v := by
  have := Byt.numP_dec v.toNat (by omega)
  unfold dg
  rw [this]
  omega
theorem rngQ_T (p : Int × Int) (h : rngOk p = true) : rngQ (rngT p) = p := by
  obtain ⟨a, b⟩ := p
  simp only [rngOk, Bool.and_eq_true, decide_eq_true_eq] at h
  obtain ⟨⟨h0, h1⟩, h2⟩ := h
  have na := numP_dg (v := a) h0 (by omega)
  have nb := numP_dg (v := b) (by omega) h2
  unfold rngQ rngT
  dsimp only
  split
  · rename_i e
    subst e
    rw [split_none (c := 46) (by simp) (dg_no (by decide))]
    simp [na]
  · rw [split_at (c := 46) (k := 0) _ rfl (by simp) (dg_no (by decide)), split_none (c := 46) (by simp) (dg_no (by decide))]
    simp [na, nb]
theorem rngs_split {r : Rl} (h : relOk r = true) : (split (join (r.rs.map rngT) [44]) [44]).map rngQ = r.rs := by
  obtain ⟨_, _, _, h3, h4⟩ := relOk_parts h
  rw [split_join (c := 44) (k := 0) rfl (by simp) (by simpa using h3) (fun p hp => by obtain ⟨x, _, rfl⟩ := List.mem_map.1 hp; exact rngT_no (by decide)), List.map_map]
  rw [List.map_congr_left (f := rngQ ∘ rngT) (g := id) (fun p hp => rngQ_T p (h4 p hp))]
  simp
theorem op_no {c : UInt8} (h : opOk c = true) : (32 : UInt8) ∉ [c] := by
  rcases op_cases h with e | e | e | e | e | e <;> rw [e] <;> decide
theorem relT_words {r : Rl} (h : relOk r = true) : split (relT r) [32] = (if r.mod = 0 then [[r.op]] else [[r.op], [37], dg r.mod]) ++ [if r.no then [33, 61] else [61], join (r.rs.map rngT) [44]] := by
  obtain ⟨h0, _, _, h3, h4⟩ := relOk_parts h
  have hj : (32 : UInt8) ∉ join (r.rs.map rngT) [44] := rngs_no (by decide)
  have hd : (32 : UInt8) ∉ dg r.mod := dg_no (by decide)
  have ho := op_no h0
  have hn : (32 : UInt8) ∉ (if r.no then [33, 61] else [61] : List UInt8) := by split <;> decide
  have e : relT r = join ((if r.mod = 0 then [[r.op]] else [[r.op], [37], dg r.mod]) ++ [if r.no then [33, 61] else [61], join (r.rs.map rngT) [44]]) [32] := by
    unfold relT headT
    split <;> split <;> simp [join, List.intercalate, List.intersperse, pcS, neS, eqS]
  rw [e]
  refine split_join (c := 32) (k := 0) rfl (by simp) (by simp) (fun p hp => ?_)
  rcases List.mem_append.1 hp with hp | hp
  · split at hp
    · simp at hp; subst hp; exact ho
    · simp at hp
      rcases hp with rfl | rfl | rfl
      · exact ho
      · decide
      · exact hd
  · simp only [List.mem_cons, List.not_mem_nil, or_false] at hp
    rcases hp with rfl | rfl
    · exact hn
    · exact hj
theorem words3 (c : UInt8) (u v : List UInt8) : wordsQ [[c], u, v] = ⟨c, 0, decide (u = [33, 61]), (split v [44]).map rngQ⟩ := by
  show (if u = [37] ∧ ([] : List (List UInt8)).length = 2 then _ else _) = _
  rw [if_neg (by simp)]
theorem words5 (c : UInt8) (v x y : List UInt8) : wordsQ [[c], [37], v, x, y] = ⟨c, Byt.numP v, decide (x = [33, 61]), (split y [44]).map rngQ⟩ := by
  unfold wordsQ
  simp
theorem relQ_T (r : Rl) (h : relOk r = true) : relQ (relT r) = r := by
  obtain ⟨_, h1, h2, _, _⟩ := relOk_parts h
  unfold relQ
  rw [relT_words h]
  have hs := rngs_split h
  have hm := numP_dg h1 h2
  obtain ⟨op, mod, no, rs⟩ := r
  dsimp only at *
  by_cases hz : mod = 0
  · subst hz
    rw [if_pos rfl]
    show wordsQ [[op], (if no then [33, 61] else [61]), join (rs.map rngT) [44]] = _
    rw [words3, hs]
    cases no <;> simp
  · rw [if_neg hz]
    show wordsQ [[op], [37], dg mod, (if no then [33, 61] else [61]), join (rs.map rngT) [44]] = _
    rw [words5, hs, hm]
    cases no <;> simp
theorem partQ_T (l : List Rl) (h : partOk l = true) : partQ (partT l) = l := by
  obtain ⟨h1, h2⟩ := part_parts h
  unfold partQ partT
  rw [split_join (c := 97) (k := 1) rfl (by decide) (by simpa using h1) (fun p hp => by obtain ⟨x, hx, rfl⟩ := List.mem_map.1 hp; exact relT_no (op_of (h2 x hx)) (by simp)), List.map_map]
  rw [List.map_congr_left (f := relQ ∘ relT) (g := id) (fun p hp => relQ_T p (h2 p hp))]
  simp
theorem ruleQ_T (r : Rule) (h : shapeOk r = true) : ruleQ (ruleT r) = r := by
  obtain ⟨h1, h2⟩ := shape_parts h
  unfold ruleQ ruleT
  rw [split_join (c := 111) (k := 1) rfl (by decide) (by simpa using h1) (fun p hp => by obtain ⟨x, hx, rfl⟩ := List.mem_map.1 hp; exact partT_no (h2 x hx)), List.map_map]
  rw [List.map_congr_left (f := partQ ∘ partT) (g := id) (fun p hp => partQ_T p (h2 p hp))]
  simp
theorem okQ_iff {s : List UInt8} : okQ s = true ↔ ruleE (ruleQ s) = 0 ∧ ruleT (ruleQ s) = s := by
  unfold okQ
  simp
/-- both read the same texts, and the same of them -/
theorem ok_same (s : List UInt8) : okQ s = parseOk s ∧ (parseOk s = true → ruleQ s = ruleP s) := by
  have h1 : okQ s = true → parseOk s = true ∧ ruleP s = ruleQ s := fun h => by
    obtain ⟨e, t⟩ := okQ_iff.1 h
    have := parse_text e
    rwa [t] at this
  have h2 : parseOk s = true → okQ s = true ∧ ruleQ s = ruleP s := fun h => by
    obtain ⟨e, t⟩ := parseOk_iff.1 h
    have q := ruleQ_T (ruleP s) (ruleE_zero.1 e).1
    rw [t] at q
    exact ⟨okQ_iff.2 (by rw [q]; exact ⟨e, t⟩), q⟩
  refine ⟨?_, fun h => (h2 h).2⟩
  cases hp : parseOk s with
  | true => exact (h2 hp).1
  | false =>
    cases hq : okQ s with
    | false => rfl
    | true => rw [(h1 hq).1] at hp; cases hp
end Rul
namespace Go.Proofs.YtainindkndjkbaaGreatDoor
open Go.RowKit

/-- a call that gives these texts, and turns nothing old -/
def GivesStrs (w : World) (l : List (List UInt8)) (e : Ending) (w' : World) : Prop := ∃ v, e = .returned v ∧ StrsAt w' v l ∧ Below w.heap.size w w'

theorem slice_midI {P : Program} (t : TypeId) (h : P.underlying t = some .string) (L : List UInt8) (i j : Int) (a b : Nat) (hi : i = a) (hj : j = b) (hab : a ≤ b) (hb : b ≤ L.length) (w : World) :
    (Instr.slice t (.string ⟨L.toArray⟩) (some (.int .i64 i)) (some (.int .i64 j)) none).run P w = .ok (.string ⟨((L.drop a).take (b - a)).toArray⟩) w := by
  subst hi hj; exact slice_mid t h L .i64 .i64 a b hab hb w
theorem infoStr : (Tryz.prog.info? 9).map (fun i => (i.zero, i.size, i.bytes)) = some (some (.string ByteArray.empty), 1, 16) := by kernel_rfl

set_option maxRecDepth 100000 in
set_option maxHeartbeats 1000000 in
theorem cut_any (s at_ : List UInt8) (w : World) (ha : at_ ≠ []) (hs : s.length ≤ 4000000000) (hat : at_.length ≤ 4000000000) :
    Calls Tryz.prog 59 #[.string ⟨s.toArray⟩, .string ⟨at_.toArray⟩] w (GivesStrs w (Lib.split s at_)) := by
  obtain ⟨i0, hi, hz0, hz1, hz2⟩ := info_parts infoStr
  have hm : 0 < at_.length := List.length_pos_iff.2 ha
  have HA := Lib.hid ha
  clear ha
  go_enter Tryz.func59, Tryz.ntmps59
  go_wp2_with fail
  go_loopw [5, 6, 7] (fun o f i wr => ∃ (P : List (List UInt8)) (a b : Nat), f = .int .i64 a ∧ i = .int .i64 b ∧ a ≤ b ∧ b ≤ s.length ∧ P.length ≤ a ∧ Hid (wr.ownsRow w.heap.size 9 1 o P.length (P.map txtV)) ∧ Hid (Below w.heap.size w wr) ∧ Hid (Spl.Inv s at_ P a b)) (fun _ _ i _ => s.length - (RowKit.intOf i).toNat)
  case atStart => exact ⟨[], 0, 0, rfl, rfl, Nat.le_refl _, Nat.zero_le _, Nat.le_refl _, ⟨rfl, .inl ⟨rfl, rfl⟩⟩, Below.refl _ _, Spl.inv_start s at_⟩
  case round =>
    obtain ⟨P, a, b, rfl, rfl, hab, hb, hP, HO, HB, HI⟩ := hrel
    by_cases hroom : b + at_.length ≤ s.length
    · have SM := fun w => slice_midI (P := Tryz.prog) 9 Tryz.underlying9 s (b : Int) ((b : Int) + (at_.length : Int)) b (b + at_.length) rfl (by omega) (by omega) hroom w
      have e0 : b + at_.length - b = at_.length := by omega
      rw [e0] at SM
      clear e0
      by_cases hX : (s.drop b).take at_.length = at_
      · have IH := Lib.hid (Spl.inv_hit HI.out HA.out hab hroom hX)
        rw [hX] at SM
        have S2 := fun w => slice_midI (P := Tryz.prog) 9 Tryz.underlying9 s (a : Int) (b : Int) a b rfl rfl hab hb w
        clear hX HI
        generalize (s.drop a).take (b - a) = u at *
        have hown := HO.out
        have hbs := HB.out.size
        go_wp2_with (at_builtin; refine wpList_append_own _ rfl _ _ 45 rfl w.heap.size 9 i0 (.string ByteArray.empty) 1 16 Tryz.underlying45 hi hz0 hz1 hz2 rfl (by decide) _ _ _ rfl (hown.alloc _) ⟨wr.heap.size, 0, none⟩ 1 1 [txtV u] rfl rfl (cell_one_new _ _ _) (fun x hx => by simp at hx; subst hx; rfl) (by unfold maxLen; omega) (by omega) (by simp; omega) ?_; intro v' w1 hown' hgrow _)
        have HO' := Lib.hid (show w1.ownsRow w.heap.size 9 1 v' (P ++ [u]).length ((P ++ [u]).map txtV) by simpa using hown')
        have HB' := Lib.hid (show Below w.heap.size w w1 from (HB.out.alloc hbs _).grown hgrow (by simp; omega) (fun k hk => (hown.lt k hk).1))
        clear hown hown' hgrow hbs HO HB S2
        go_wp2_with fail
        go_roundw
        case rel => exact ⟨P ++ [u], b + at_.length, b + at_.length, by go_num, by go_num, Nat.le_refl _, hroom, by simp; omega, HO', HB', IH⟩
        case measure => simp [RowKit.intOf]; omega
      · have IH := Lib.hid (Spl.inv_miss HI.out hroom hX)
        have hXb : ((s.drop b).take at_.length == at_) = false := beq_eq_false_iff_ne.2 hX
        clear HI hX
        generalize (s.drop b).take at_.length = u at *
        go_wp2_with fail
        go_roundw
        case rel => exact ⟨P, a, b + 1, rfl, by go_num, by omega, by omega, hP, HO, HB, IH⟩
        case measure => simp [RowKit.intOf]; omega
    · have IE := Lib.hid (Spl.inv_end HI.out HA.out hroom)
      have S3 := fun w => slice_from (P := Tryz.prog) 9 Tryz.underlying9 s .i64 a (by omega) w
      clear HI
      generalize s.drop a = u at *
      have hown := HO.out
      have hbs := HB.out.size
      go_wp2_with (at_builtin; refine wpList_append_own _ rfl _ _ 45 rfl w.heap.size 9 i0 (.string ByteArray.empty) 1 16 Tryz.underlying45 hi hz0 hz1 hz2 rfl (by decide) _ _ _ rfl (hown.alloc _) ⟨wr.heap.size, 0, none⟩ 1 1 [txtV u] rfl rfl (cell_one_new _ _ _) (fun x hx => by simp at hx; subst hx; rfl) (by unfold maxLen; omega) (by omega) (by simp; omega) ?_; intro v' w1 hown' hgrow _)
      have HO' := Lib.hid (show w1.ownsRow w.heap.size 9 1 v' (P ++ [u]).length ((P ++ [u]).map txtV) by simpa using hown')
      have HB' := Lib.hid (show Below w.heap.size w w1 from (HB.out.alloc hbs _).grown hgrow (by simp; omega) (fun k hk => (hown.lt k hk).1))
      clear hown hown' hgrow hbs HO HB S3
      go_wp2_with fail
      go_ret
      exact ⟨_, rfl, by rw [IE.out]; exact StrsAt.of_row HO'.out, HB'.out⟩
end Go.Proofs.YtainindkndjkbaaGreatDoor
namespace Go.Proofs.YtainindkndjkbaaGreatDoor
open Go.RowKit

/-- a call that makes a list of these texts, and turns nothing old -/
def OwnsStrs (w : World) (l : List (List UInt8)) (e : Ending) (w' : World) : Prop := ∃ v, e = .returned v ∧ w'.ownsRow w.heap.size 9 1 v l.length (l.map txtV) ∧ Below w.heap.size w w'
set_option maxRecDepth 100000 in
set_option maxHeartbeats 1000000 in
theorem cut_own (s at_ : List UInt8) (w : World) (ha : at_ ≠ []) (hs : s.length ≤ 4000000000) (hat : at_.length ≤ 4000000000) :
    Calls Tryz.prog 59 #[.string ⟨s.toArray⟩, .string ⟨at_.toArray⟩] w (OwnsStrs w (Lib.split s at_)) := by
  obtain ⟨i0, hi, hz0, hz1, hz2⟩ := info_parts infoStr
  have hm : 0 < at_.length := List.length_pos_iff.2 ha
  have HA := Lib.hid ha
  clear ha
  go_enter Tryz.func59, Tryz.ntmps59
  go_wp2_with fail
  go_loopw [5, 6, 7] (fun o f i wr => ∃ (P : List (List UInt8)) (a b : Nat), f = .int .i64 a ∧ i = .int .i64 b ∧ a ≤ b ∧ b ≤ s.length ∧ P.length ≤ a ∧ Hid (wr.ownsRow w.heap.size 9 1 o P.length (P.map txtV)) ∧ Hid (Below w.heap.size w wr) ∧ Hid (Spl.Inv s at_ P a b)) (fun _ _ i _ => s.length - (RowKit.intOf i).toNat)
  case atStart => exact ⟨[], 0, 0, rfl, rfl, Nat.le_refl _, Nat.zero_le _, Nat.le_refl _, ⟨rfl, .inl ⟨rfl, rfl⟩⟩, Below.refl _ _, Spl.inv_start s at_⟩
  case round =>
    obtain ⟨P, a, b, rfl, rfl, hab, hb, hP, HO, HB, HI⟩ := hrel
    by_cases hroom : b + at_.length ≤ s.length
    · have SM := fun w => slice_midI (P := Tryz.prog) 9 Tryz.underlying9 s (b : Int) ((b : Int) + (at_.length : Int)) b (b + at_.length) rfl (by omega) (by omega) hroom w
      have e0 : b + at_.length - b = at_.length := by omega
      rw [e0] at SM
      clear e0
      by_cases hX : (s.drop b).take at_.length = at_
      · have IH := Lib.hid (Spl.inv_hit HI.out HA.out hab hroom hX)
        rw [hX] at SM
        have S2 := fun w => slice_midI (P := Tryz.prog) 9 Tryz.underlying9 s (a : Int) (b : Int) a b rfl rfl hab hb w
        clear hX HI
        generalize (s.drop a).take (b - a) = u at *
        have hown := HO.out
        have hbs := HB.out.size
        go_wp2_with (at_builtin; refine wpList_append_own _ rfl _ _ 45 rfl w.heap.size 9 i0 (.string ByteArray.empty) 1 16 Tryz.underlying45 hi hz0 hz1 hz2 rfl (by decide) _ _ _ rfl (hown.alloc _) ⟨wr.heap.size, 0, none⟩ 1 1 [txtV u] rfl rfl (cell_one_new _ _ _) (fun x hx => by simp at hx; subst hx; rfl) (by unfold maxLen; omega) (by omega) (by simp; omega) ?_; intro v' w1 hown' hgrow _)
        have HO' := Lib.hid (show w1.ownsRow w.heap.size 9 1 v' (P ++ [u]).length ((P ++ [u]).map txtV) by simpa using hown')
        have HB' := Lib.hid (show Below w.heap.size w w1 from (HB.out.alloc hbs _).grown hgrow (by simp; omega) (fun k hk => (hown.lt k hk).1))
        clear hown hown' hgrow hbs HO HB S2
        go_wp2_with fail
        go_roundw
        case rel => exact ⟨P ++ [u], b + at_.length, b + at_.length, by go_num, by go_num, Nat.le_refl _, hroom, by simp; omega, HO', HB', IH⟩
        case measure => simp [RowKit.intOf]; omega
      · have IH := Lib.hid (Spl.inv_miss HI.out hroom hX)
        have hXb : ((s.drop b).take at_.length == at_) = false := beq_eq_false_iff_ne.2 hX
        clear HI hX
        generalize (s.drop b).take at_.length = u at *
        go_wp2_with fail
        go_roundw
        case rel => exact ⟨P, a, b + 1, rfl, by go_num, by omega, by omega, hP, HO, HB, IH⟩
        case measure => simp [RowKit.intOf]; omega
    · have IE := Lib.hid (Spl.inv_end HI.out HA.out hroom)
      have S3 := fun w => slice_from (P := Tryz.prog) 9 Tryz.underlying9 s .i64 a (by omega) w
      clear HI
      generalize s.drop a = u at *
      have hown := HO.out
      have hbs := HB.out.size
      go_wp2_with (at_builtin; refine wpList_append_own _ rfl _ _ 45 rfl w.heap.size 9 i0 (.string ByteArray.empty) 1 16 Tryz.underlying45 hi hz0 hz1 hz2 rfl (by decide) _ _ _ rfl (hown.alloc _) ⟨wr.heap.size, 0, none⟩ 1 1 [txtV u] rfl rfl (cell_one_new _ _ _) (fun x hx => by simp at hx; subst hx; rfl) (by unfold maxLen; omega) (by omega) (by simp; omega) ?_; intro v' w1 hown' hgrow _)
      have HO' := Lib.hid (show w1.ownsRow w.heap.size 9 1 v' (P ++ [u]).length ((P ++ [u]).map txtV) by simpa using hown')
      have HB' := Lib.hid (show Below w.heap.size w w1 from (HB.out.alloc hbs _).grown hgrow (by simp; omega) (fun k hk => (hown.lt k hk).1))
      clear hown hown' hgrow hbs HO HB S3
      go_wp2_with fail
      go_ret
      exact ⟨_, rfl, by rw [IE.out]; exact HO'.out, HB'.out⟩
end Go.Proofs.YtainindkndjkbaaGreatDoor
namespace Go.Proofs.YtainindkndjkbaaGreatDoor
open Go.RowKit Go.Shelf

/-- the cells of ranges -/
def qrf (l : List (List UInt8)) : List Value := l.flatMap fun x => [.int .i64 (Rul.rngQ x).1, .int .i64 (Rul.rngQ x).2]
theorem qrf_at {l : List (List UInt8)} : ∀ {j : Nat} {x : List UInt8}, l[j]? = some x → (qrf l)[j * 2]? = some (.int .i64 (Rul.rngQ x).1) ∧ (qrf l)[j * 2 + 1]? = some (.int .i64 (Rul.rngQ x).2) := by
  induction l with
  | nil => intro j x h; simp at h
  | cons a l ih =>
    intro j x h
    cases j with
    | zero => simp at h; subst h; exact ⟨rfl, rfl⟩
    | succ j =>
      have h' := ih (by simpa using h)
      have e : (j + 1) * 2 = j * 2 + 1 + 1 := by omega
      rw [e]
      exact h'
/-- the round's world: the box of the relation, the row of its ranges -/
structure QX (w : World) (B p : Nat) (o m b vb vr : Value) (g5 : Nat) (L pre : List (List UInt8)) (W : World) : Prop where
  box : Boxed W p #[o, m, b, vb]
  row : W.ownsRow B 141 2 vr pre.length (qrf pre)
  res : Boxed W w.heap.size #[.int .u8 0, .int .i64 0, .bool false, .slice none 0 0]
  low : Below w.heap.size w W
  sz : B ≤ W.heap.size
  strs : ∀ (j : Nat) x, L[j]? = some x → W.cell? ⟨g5, j, none⟩ = some (.string ⟨x.toArray⟩)
theorem QX.grown {w : World} {B p : Nat} {o m b vb vr : Value} {g5 : Nat} {L pre : List (List UInt8)} {A C : World} {r : Option Nat} (h : QX w B p o m b vb vr g5 L pre A) (g : A.grownBy C r)
    (hr : ∀ k, r = some k → w.heap.size < k ∧ k ≠ p ∧ vr.ownBlock ≠ some k ∧ k ≠ g5) : QX w B p o m b vb vr g5 L pre C :=
  ⟨boxed_grown h.box g (fun e => (hr _ e.symm).2.1 rfl), h.row.kept g (by
      cases hv : vr.ownBlock with
      | none => exact .inl rfl
      | some k => exact .inr fun e => (hr k e.symm).2.2.1 hv), boxed_grown h.res g (fun e => by have := (hr _ e.symm).1; omega),
    h.low.grown g h.low.size (fun k hk => by have := (hr k hk).1; omega), Nat.le_trans h.sz g.size, fun j x hx => g.cell (h.strs j x hx) (fun e => (hr _ e.symm).2.2.2 rfl)⟩

theorem QX.lies {w : World} {B p : Nat} {o m b vb vr : Value} {g5 : Nat} {L pre : List (List UInt8)} {A C : World} (h : QX w B p o m b vb vr g5 L pre A)
    (hC : ∀ (g : Nat) cur e, B ≤ g → A.heap[g]? = some (.cells cur e (0, 0)) → C.heap[g]? = A.heap[g]?) : SlAt 2 RngC C vr (pre.map Rul.rngQ) := by
  rcases hv : h.row.2 with ⟨rfl, hn⟩ | ⟨g, cap, cur, rfl, hB, hg, hc, hm, _⟩
  · exact .inl ⟨by rw [List.length_eq_zero_iff.1 hn]; rfl, _, _, rfl⟩
  · by_cases h0 : pre.length = 0
    · exact .inl ⟨by rw [List.length_eq_zero_iff.1 h0]; rfl, some ⟨g, 0, none⟩, cap, by rw [h0]⟩
    · have hgC := hC g cur _ hB hg
      refine .inr ⟨g, 0, cap, by rw [List.length_map], by rw [List.length_map]; omega, by rw [List.length_map]; exact hc, hm, fun j x hx => ?_⟩
      rw [List.getElem?_map] at hx
      obtain ⟨y, hy, rfl⟩ := Option.map_eq_some_iff.1 hx
      have hj : j < pre.length := (List.getElem?_eq_some_iff.1 hy).1
      obtain ⟨e0, e1⟩ := qrf_at hy
      have c0 := h.row.cellAt (g := g) (j * 2) (by omega)
      have c1 := h.row.cellAt (g := g) (j * 2 + 1) (by omega)
      rw [e0] at c0
      rw [e1] at c1
      rw [Nat.zero_add]
      exact ⟨(World.cell?_of_block (a := ⟨g, j * 2, none⟩) hgC).trans c0, (World.cell?_of_block (a := ⟨g, j * 2 + 1, none⟩) hgC).trans c1⟩
theorem QX.below {w : World} {B p : Nat} {o m b vb vr : Value} {g5 : Nat} {L pre : List (List UInt8)} {A C : World} (h : QX w B p o m b vb vr g5 L pre A) (hb : Below A.heap.size A C) : QX w B p o m b vb vr g5 L pre C :=
  h.grown (grown_below hb) (fun k e => by cases e)
theorem QX.append {w : World} {B p : Nat} {o m b vb vr v' : Value} {g5 : Nat} {L pre : List (List UInt8)} {x : List UInt8} {A C : World} (h : QX w B p o m b vb vr g5 L pre A)
    (hown : C.ownsRow B 141 2 v' (pre.length + 1) (qrf pre ++ [.int .i64 (Rul.rngQ x).1, .int .i64 (Rul.rngQ x).2])) (g : A.grownBy C vr.ownBlock) (hw : w.heap.size < B) (hp : p < B) (h5 : g5 < B) : QX w B p o m b vb v' g5 L (pre ++ [x]) C := by
  have hB : ∀ k, vr.ownBlock = some k → B ≤ k := fun k hk => (h.row.lt k hk).1
  refine ⟨boxed_grown h.box g (fun e => by have := hB _ e.symm; omega), ?_, boxed_grown h.res g (fun e => by have := hB _ e.symm; omega),
    h.low.grown g h.low.size (fun k hk => by have := hB _ hk; omega), Nat.le_trans h.sz g.size, fun j y hy => g.cell (h.strs j y hy) (fun e => by have := hB g5 e.symm; omega)⟩
  have e : qrf (pre ++ [x]) = qrf pre ++ [.int .i64 (Rul.rngQ x).1, .int .i64 (Rul.rngQ x).2] := by unfold qrf; rw [List.flatMap_append]; rfl
  rw [e, List.length_append]
  exact hown
theorem QX.stored {w : World} {B p : Nat} {o m b vb vr : Value} {g5 : Nat} {L pre : List (List UInt8)} {A : World} (h : QX w B p o m b vb vr g5 L pre A) (hw : w.heap.size < p) (hp : p < B) (h5 : g5 ≠ p) : QX w B p o m b vr vr g5 L pre (A.setCell ⟨p, 3, none⟩ vr) := by
  have g : A.grownBy (A.setCell ⟨p, 3, none⟩ vr) (some p) := ⟨rfl, rfl, rfl, by rw [size_setCell]; exact Nat.le_refl _, fun k _ hk => set_else (fun e => hk (by rw [← e]))⟩
  refine ⟨h.box.set 3 vr (by show 3 < 4; omega), h.row.kept g ?_, h.res.far (by omega) 3 vr, h.low.setCell (p := ⟨p, 3, none⟩) (show w.heap.size ≤ p by omega) vr, by rw [size_setCell]; exact h.sz, fun j y hy => g.cell (h.strs j y hy) (fun e => by injection e with e; exact h5 e)⟩
  cases hv : vr.ownBlock with
  | none => exact .inl rfl
  | some k => exact .inr fun e => by have := h.row.lt k hv; injection e with e; omega
/-- the row of texts that a call made, opened -/
theorem row_txt {w : World} {base : Nat} {v : Value} {L : List (List UInt8)} (h : w.ownsRow base 9 1 v L.length (L.map txtV)) (h0 : 0 < L.length) :
    ∃ g cap, v = .slice (some ⟨g, 0, none⟩) L.length cap ∧ base ≤ g ∧ g < w.heap.size ∧ L.length ≤ cap ∧ cap ≤ maxLen ∧ ∀ (j : Nat) x, L[j]? = some x → w.cell? ⟨g, j, none⟩ = some (.string ⟨x.toArray⟩) := by
  rcases h.2 with ⟨e, hn⟩ | ⟨g, cap, cur, e, hB, hg, hc, hm, _⟩
  · omega
  · refine ⟨g, cap, e, hB, (Array.getElem?_eq_some_iff.1 hg).1, hc, hm, fun j x hx => ?_⟩
    subst e
    have hj := (List.getElem?_eq_some_iff.1 hx).1
    rw [h.cellAt j (by omega), List.getElem?_map, hx]; rfl
theorem row_any {w : World} {base n k : Nat} {e : TypeId} {v : Value} {xs : List Value} (h : w.ownsRow base e k v n xs) : ∃ a c, v = .slice a n c := by
  rcases h.2 with ⟨rfl, rfl⟩ | ⟨g, cap, cur, rfl, _⟩
  · exact ⟨_, _, rfl⟩
  · exact ⟨_, _, rfl⟩
theorem words_short {L : List (List UInt8)} (h : L.length < 3) : Rul.wordsQ L = ⟨0, 0, false, []⟩ := by
  rcases L with _ | ⟨a, _ | ⟨b, _ | ⟨c, r⟩⟩⟩
  · rfl
  · cases a with
    | nil => rfl
    | cons x t => cases t <;> rfl
  · cases a with
    | nil => rfl
    | cons x t => cases t <;> rfl
  · simp at h; omega
theorem words_op {a u v : List UInt8} {r : List (List UInt8)} (h : a.length ≠ 1) : Rul.wordsQ (a :: u :: v :: r) = ⟨0, 0, false, []⟩ := by
  rcases a with _ | ⟨x, _ | ⟨y, t⟩⟩
  · rfl
  · simp at h
  · rfl
theorem beq_dec (a b : List UInt8) : (a == b) = decide (a = b) := by
  by_cases h : a = b <;> simp [h]
theorem words_any (c : UInt8) (u v : List UInt8) (r : List (List UInt8)) : ∃ MO X Y bx, Rul.wordsQ ([c] :: u :: v :: r) = ⟨c, MO, bx, (Lib.split Y [44]).map Rul.rngQ⟩ ∧ (X == [33, 61]) = bx ∧
    (u = [37] ∧ r.length = 2 → MO = Byt.numP v ∧ r = [X, Y]) ∧ (¬ (u = [37] ∧ r.length = 2) → MO = 0 ∧ X = u ∧ Y = v) := by
  by_cases h : u = [37] ∧ r.length = 2
  · obtain ⟨X, Y, rfl⟩ : ∃ X Y, r = [X, Y] := by
      rcases r with _ | ⟨a, _ | ⟨b, _ | ⟨c, t⟩⟩⟩
      · simp at h
      · simp at h
      · exact ⟨_, _, rfl⟩
      · simp at h
    obtain ⟨rfl, _⟩ := h
    exact ⟨_, X, Y, decide (X = [33, 61]), Rul.words5 c v X Y, beq_dec X _, fun _ => ⟨rfl, rfl⟩, fun hn => absurd ⟨rfl, rfl⟩ hn⟩
  · refine ⟨0, u, v, decide (u = [33, 61]), ?_, beq_dec u _, fun hn => absurd hn h, fun _ => ⟨rfl, rfl, rfl⟩⟩
    show (if u = [37] ∧ r.length = 2 then _ else _) = _
    rw [if_neg h]
end Go.Proofs.YtainindkndjkbaaGreatDoor
namespace Go.Proofs.YtainindkndjkbaaGreatDoor
open Go.RowKit

attribute [local go_sem] Oper.semAt_some

theorem grown_two {A C : World} {r : Option Nat} {g i j : Nat} {u v : Value} (h : A.grownBy C r) (h1 : A.cell? ⟨g, i, none⟩ = some u) (h2 : A.cell? ⟨g, j, none⟩ = some v) (hr : ∀ k, r = some k → k < g) :
    C.cell? ⟨g, i, none⟩ = some u ∧ C.cell? ⟨g, j, none⟩ = some v :=
  ⟨h.cell h1 (fun e => by have := hr g e.symm; omega), h.cell h2 (fun e => by have := hr g e.symm; omega)⟩
theorem store_two {A : World} {g p i j k : Nat} {u v x : Value} (hg : g ≠ p) (h1 : A.cell? ⟨g, i, none⟩ = some u) (h2 : A.cell? ⟨g, j, none⟩ = some v) :
    (A.setCell ⟨p, k, none⟩ x).cell? ⟨g, i, none⟩ = some u ∧ (A.setCell ⟨p, k, none⟩ x).cell? ⟨g, j, none⟩ = some v :=
  ⟨(World.cell?_setCell_other _ _ _ _ (fun e => hg (by injection e with e; exact e.symm))).trans h1, (World.cell?_setCell_other _ _ _ _ (fun e => hg (by injection e with e; exact e.symm))).trans h2⟩

set_option maxRecDepth 100000 in
set_option maxHeartbeats 8000000 in
theorem relof_any (s : List UInt8) (w : World) (hs : s.length ≤ 100000000) :
    Calls Tryz.prog 60 #[.string ⟨s.toArray⟩] w fun e w' => ∃ a n c, e = .returned (.agg #[.int .u8 ((Rul.relQ s).op.toNat : Int), .int .i64 (Rul.relQ s).mod, .bool (Rul.relQ s).no, .slice a n c]) ∧ SlAt 2 RngC w' (.slice a n c) (Rul.relQ s).rs ∧ (∀ b, (Value.slice a n c).ownBlock = some b → w.heap.size ≤ b) ∧ Below w.heap.size w w' := by
  have CW := Lib.hid fun w => cut_own s [32] w (by simp) (by omega) (by simp)
  have hsl := Rul.split_short (s := s) (sub := [32]) (by simp)
  have HPL := Lib.hid fun x (hx : x ∈ Lib.split s [32]) => piece_le hx
  have hR : Rul.relQ s = Rul.wordsQ (Lib.split s [32]) := rfl
  rw [hR]
  clear hR
  generalize Lib.split s [32] = L at *
  generalize hRQ : Rul.wordsQ L = RQ at *
  have HRQ := Lib.hid hRQ
  clear hRQ
  go_enter Tryz.func60, Tryz.ntmps60
  go_wp2_with fail
  refine (CW.out _).mono ?_
  rintro e w1 ⟨v3, rfl, hown, hb⟩
  have W1 := Lib.hid (blw_trans (blw_alloc w (.cells #[.int .u8 0, .int .i64 0, .bool false, .slice none 0 0] 108)) hb)
  have B1 := Lib.hid ((Boxed.made w #[.int .u8 0, .int .i64 0, .bool false, .slice none 0 0] 108).below hb)
  have hz1 : w.heap.size < w1.heap.size := by have := hb.size; simp at this; omega
  obtain ⟨w2, hw2⟩ : ∃ w2, w1.alloc (.cells #[.int .u8 0, .int .i64 0, .bool false, .slice none 0 0] 108) = w2 := ⟨_, rfl⟩
  have W2 := Lib.hid (show Below w.heap.size w w2 by rw [← hw2]; exact blw_trans W1.out (blw_alloc _ _))
  have B2 := Lib.hid (show Boxed w2 w.heap.size _ by rw [← hw2]; exact B1.out.alloc _)
  have A2 := Lib.hid (show Boxed w2 w1.heap.size _ by rw [← hw2]; exact Boxed.made w1 #[.int .u8 0, .int .i64 0, .bool false, .slice none 0 0] 108)
  have O2 := Lib.hid (show w2.ownsRow _ _ _ _ _ _ by rw [← hw2]; exact hown.alloc (.cells #[.int .u8 0, .int .i64 0, .bool false, .slice none 0 0] 108))
  have hgl := fun g h => (hown.lt g h).2
  clear hown hb W1 B1 CW
  by_cases h3 : L.length < 3
  · obtain ⟨a3, c3, rfl⟩ := row_any O2.out
    have d3 : decide ((L.length : Int) < 3) = true := dec_yes (by omega)
    obtain rfl : RQ = ⟨0, 0, false, []⟩ := by rw [← HRQ.out]; exact words_short h3
    clear h3 O2 hgl HPL hsl
    have k0 := A2.out.cell 0 _ rfl
    have k1 := A2.out.cell 1 _ rfl
    have k2 := A2.out.cell 2 _ rfl
    have k3 := A2.out.cell 3 _ rfl
    have q0 := B2.out.free 0 (by show 0 < 4; omega)
    have q1 := B2.out.free 1 (by show 1 < 4; omega)
    have q2 := B2.out.free 2 (by show 2 < 4; omega)
    have q3 := B2.out.free 3 (by show 3 < 4; omega)
    have c0 := B2.out.cell 0 _ rfl
    have c1 := B2.out.cell 1 _ rfl
    have c2 := B2.out.cell 2 _ rfl
    have c3 := B2.out.cell 3 _ rfl
    have s0 := B2.out.lt
    have s1 := A2.out.lt
    go_wp2_with fail
    have BD := Lib.hid ((((B2.out.set 0 (.int .u8 0) (by show 0 < 4; omega)).set 1 (.int .i64 0) (by show 1 < 4; omega)).set 2 (.bool false) (by show 2 < 4; omega)).set 3 (.slice none 0 0) (by show 3 < 4; omega))
    have WD := Lib.hid (show Below w.heap.size w ((((w2.setCell ⟨w.heap.size, 0, none⟩ (.int .u8 0)).setCell ⟨w.heap.size, 1, none⟩ (.int .i64 0)).setCell ⟨w.heap.size, 2, none⟩ (.bool false)).setCell ⟨w.heap.size, 3, none⟩ (.slice none 0 0)) from ((((W2.out.setCell (p := ⟨w.heap.size, 0, none⟩) (Nat.le_refl _) (.int .u8 0)).setCell (p := ⟨w.heap.size, 1, none⟩) (Nat.le_refl _) (.int .i64 0)).setCell (p := ⟨w.heap.size, 2, none⟩) (Nat.le_refl _) (.bool false)).setCell (p := ⟨w.heap.size, 3, none⟩) (Nat.le_refl _) (.slice none 0 0)))
    have y0 := BD.out.cell 0 _ rfl
    have y1 := BD.out.cell 1 _ rfl
    have y2 := BD.out.cell 2 _ rfl
    have y3 := BD.out.cell 3 _ rfl
    generalize ((((w2.setCell ⟨w.heap.size, 0, none⟩ (.int .u8 0)).setCell ⟨w.heap.size, 1, none⟩ (.int .i64 0)).setCell ⟨w.heap.size, 2, none⟩ (.bool false)).setCell ⟨w.heap.size, 3, none⟩ (.slice none 0 0)) = Z at *
    try simp only [Exit.inBlock, Exit.then]
    refine bodyPost_ret (by simp [results, Tryz.results60, go_sem, y0, y1, y2, y3]; try rfl) rfl ?_
    exact ⟨_, _, _, rfl, .inl ⟨rfl, _, _, rfl⟩, (fun b hb => by cases hb), WD.out⟩
  · obtain ⟨c, u, v, r, rfl⟩ : ∃ c u v r, L = c :: u :: v :: r := by
      rcases L with _ | ⟨a, _ | ⟨b, _ | ⟨c, r⟩⟩⟩
      · simp at h3
      · simp at h3
      · simp at h3
      · exact ⟨_, _, _, _, rfl⟩
    obtain ⟨g3, cap3, rfl, hg3, _, hc3, hm3, hcell⟩ := row_txt O2.out (by simp)
    have hg3' := hgl g3 rfl
    have x0 := hcell 0 c rfl
    have x1 := hcell 1 u rfl
    have x2 := hcell 2 v rfl
    have x3 := hcell 3
    have x4 := hcell 4
    have d3 : decide (((c :: u :: v :: r).length : Int) < 3) = false := dec_no (by simp; omega)
    by_cases h1 : c.length = 1
    · obtain ⟨ch, rfl⟩ := List.length_eq_one_iff.1 h1
      have IX : ∀ w, (Instr.index 9 (.string ⟨[ch].toArray⟩) (.int .i64 0)).run Tryz.prog w = .ok (.int .u8 (ch.toNat : Int)) w := fun w => index_str (P := Tryz.prog) 9 Tryz.underlying9 [ch] .i64 0 ch rfl w
      have q1 : ((([ch] : List UInt8).length : Int) != 1) = false := rfl
      have hvl := HPL.out v (by simp)
      obtain ⟨MO, X, Y, bx, hrq, hbx, hyes, hno⟩ := words_any ch u v r
      have HBX := Lib.hid hbx
      clear hbx
      obtain rfl : RQ = ⟨ch, MO, bx, (Lib.split Y [44]).map Rul.rngQ⟩ := HRQ.out.symm.trans hrq
      have hYl : Y.length ≤ s.length := by
        by_cases hc : u = [37] ∧ r.length = 2
        · have := (hyes hc).2
          exact HPL.out Y (by rw [this]; simp)
        · rw [(hno hc).2.2]; exact hvl
      have HYes := Lib.hid hyes
      have HNo := Lib.hid hno
      obtain ⟨w3, hw3⟩ : ∃ w3, w2.setCell ⟨w1.heap.size, 0, none⟩ (.int .u8 (ch.toNat : Int)) = w3 := ⟨_, rfl⟩
      have hne : w1.heap.size ≠ g3 := by omega
      have KP := Lib.hid (show ∀ j x, w2.cell? ⟨g3, j, none⟩ = some x → w3.cell? ⟨g3, j, none⟩ = some x from fun j x hx => by rw [← hw3]; exact (World.cell?_setCell_other _ _ _ _ (fun e => hne (by injection e))).trans hx)
      have W3 := Lib.hid (show Below w.heap.size w w3 by rw [← hw3]; exact W2.out.setCell (p := ⟨w1.heap.size, 0, none⟩) (show w.heap.size ≤ w1.heap.size by omega) _)
      have B3 := Lib.hid (show Boxed w3 w.heap.size _ by rw [← hw3]; exact B2.out.far (by omega) 0 _)
      have A3 := Lib.hid (show Boxed w3 w1.heap.size #[.int .u8 (ch.toNat : Int), .int .i64 0, .bool false, .slice none 0 0] by rw [← hw3]; exact A2.out.set 0 (.int .u8 (ch.toNat : Int)) (by show 0 < 4; omega))
      have y1 := KP.out _ _ x1
      have X2 := Lib.hid (KP.out _ _ x2)
      have X3 := Lib.hid fun x h => KP.out _ _ (x3 x h)
      have X4 := Lib.hid fun x h => KP.out _ _ (x4 x h)
      have z0 := A2.out.free 0 (by show 0 < 4; omega)
      have z1 := A2.out.lt
      have k0 := A2.out.cell 0 _ rfl
      have i0 : 0 < ([ch] :: u :: v :: r).length := by simp
      have i1 : 1 < ([ch] :: u :: v :: r).length := by simp
      have HN3 := Lib.hid (show ([ch] :: u :: v :: r).length = r.length + 3 from rfl)
      clear h3 h1 O2 hgl HPL hsl x1 x2 x3 x4 hcell hrq hyes hno hg3 HRQ
      generalize ([ch] :: u :: v :: r).length = n3 at *
      generalize [ch] = nm at *
      go_upto_region 6 with fail
      obtain ⟨bq, hbq⟩ : ∃ bq, bq = decide (u = [37] ∧ r.length = 2) := ⟨_, rfl⟩
      go_cut [34] from 26 to 33 (fun f wx => f = .bool bq ∧ wx = w3)
      case first =>
        obtain ⟨bu, hbu⟩ : ∃ bu, (u == [37]) = bu := ⟨_, rfl⟩
        obtain ⟨b5, hb5⟩ : ∃ b5, ((n3 : Int) == 5) = b5 := ⟨_, rfl⟩
        have HB := Lib.hid (show bq = (bu && b5) by
          have hn := HN3.out
          rw [hbq, ← hbu, ← hb5]
          by_cases hu : u = [37]
          · by_cases hr : r.length = 2
            · have e : ((n3 : Int) == 5) = true := beq_yes (by omega)
              simp [hu, hr, e]
            · have e : ((n3 : Int) == 5) = false := beq_no (by omega)
              simp [hr, e]
          · simp [hu])
        clear hbq
        go_wp2_with fail
        · rename_i hh
          go_meet
          exact ⟨by rw [HB.out, hh]; rfl, rfl⟩
        · rename_i hh
          go_meet
          exact ⟨by rw [HB.out]; simp [hh], rfl⟩
      case rest =>
      obtain ⟨rfl, rfl⟩ := hcut
      have HBQ := Lib.hid hbq
      clear hbq
      go_upto_if 34 with fail
      go_cut [3] from 34 (fun s3 wx => ∃ o N C, s3 = .slice (some ⟨g3, o, none⟩) N C ∧ 3 ≤ N ∧ Hid (wx.cell? ⟨g3, o + 1, none⟩ = some (.string ⟨X.toArray⟩)) ∧ Hid (wx.cell? ⟨g3, o + 2, none⟩ = some (.string ⟨Y.toArray⟩)) ∧ Hid (Boxed wx w1.heap.size #[.int .u8 (ch.toNat : Int), .int .i64 MO, .bool false, .slice none 0 0]) ∧ Hid (Boxed wx w.heap.size #[.int .u8 0, .int .i64 0, .bool false, .slice none 0 0]) ∧ Hid (Below w.heap.size w wx))
      case first =>
        cases bq with
        | false =>
          obtain ⟨rfl, rfl, rfl⟩ := HNo.out (fun h => by have := HBQ.out; simp [h] at this)
          go_wp2_with fail
          go_meet
          exact ⟨0, n3, cap3, rfl, by have := HN3.out; omega, Lib.hid (by exact y1), X2, A3, B3, W3⟩
        | true =>
          obtain ⟨hMO, hr2⟩ := HYes.out (of_decide_eq_true HBQ.out.symm)
          have CV := Lib.hid fun w => numof_any v w (by omega)
          rw [← hMO] at CV
          obtain rfl : n3 = 5 := by have := HN3.out; rw [hr2] at this; exact this
          obtain ⟨ce, rfl⟩ : ∃ ce, cap3 = ce + 5 := ⟨cap3 - 5, by omega⟩
          have y2 := X2.out
          have hcx := X3.out X (by rw [hr2]; rfl)
          have hcy := X4.out Y (by rw [hr2]; rfl)
          have HCX := Lib.hid hcx
          have HCY := Lib.hid hcy
          clear hr2 hMO HYes HNo hcx hcy X2 X3 X4 y1
          go_wp2_with fail
          refine (CV.out _).mono ?_
          rintro e w4 ⟨rfl, hb⟩
          have A4 := Lib.hid (A3.out.below hb)
          have B4 := Lib.hid (B3.out.below hb)
          have W4 := Lib.hid (blw_trans W3.out hb)
          replace HCX := Lib.hid (cell_keep HCX.out hb)
          replace HCY := Lib.hid (cell_keep HCY.out hb)
          have f1 := A4.out.free 1 (by show 1 < 4; omega)
          have f2 := A4.out.lt
          have f3 := A4.out.cell 1 _ rfl
          clear hb CV y2 A3 B3 W3 KP
          go_wp2_with fail
          go_meet
          exact ⟨2, 3, ce + 3, rfl, by omega, Lib.hid ((World.cell?_setCell_other _ _ _ _ (fun e => hne (by injection e))).trans HCX.out), Lib.hid ((World.cell?_setCell_other _ _ _ _ (fun e => hne (by injection e))).trans HCY.out), Lib.hid (by exact A4.out.set 1 (.int .i64 MO) (by show 1 < 4; omega)), Lib.hid (by exact B4.out.far (by omega) 1 _), Lib.hid (by exact W4.out.setCell (p := ⟨w1.heap.size, 1, none⟩) (show w.heap.size ≤ w1.heap.size by omega) _)⟩
      case rest =>
        obtain ⟨o, N, C, rfl, hN, HX, HY, A5, B5, W5⟩ := hcut
        have cx := HX.out
        have HQ := Lib.hid (show bx = (X == [33, 61]) from HBX.out.symm)
        have xb := HBX.out
        have j1 : 1 < N := by omega
        have j2 : 2 < N := by omega
        obtain ⟨p, hp⟩ : ∃ p, w1.heap.size = p := ⟨_, rfl⟩
        rw [hp] at A5 hz1 hne ⊢
        have f2 := A5.out.free 2 (by show 2 < 4; omega)
        have f3 := A5.out.lt
        have f4 := A5.out.cell 2 _ rfl
        obtain ⟨w6, hw6⟩ : ∃ w6, wc.setCell ⟨p, 2, none⟩ (.bool bx) = w6 := ⟨_, rfl⟩
        have cy := (World.cell?_setCell_other wc ⟨p, 2, none⟩ _ (.bool bx) (fun e => hne (by injection e))).trans HY.out
        have A6 := Lib.hid (A5.out.set 2 (.bool bx) (by show 2 < 4; omega))
        have B6 := Lib.hid (B5.out.far (q := p) (by omega) 2 (.bool bx))
        have W6 := Lib.hid (W5.out.setCell (p := ⟨p, 2, none⟩) (show w.heap.size ≤ p by omega) (.bool bx))
        rw [hw6] at cy A6 B6 W6
        have CY := Lib.hid fun w => cut_own Y [44] w (by simp) (by omega) (by simp)
        have hL0 : 0 < (Lib.split Y [44]).length := by rw [Spl.split_len (by simp)]; omega
        have hLm := Rul.split_short (s := Y) (sub := [44]) (by simp)
        have HLS := Lib.hid fun x (hx : x ∈ Lib.split Y [44]) => Nat.le_trans (piece_le hx) hYl
        generalize hL2 : Lib.split Y [44] = L2 at *
        have HL2 := Lib.hid hL2
        clear hL2
        clear A3 B3 W3 A5 B5 W5 HX HY KP X2 X3 X4 HBQ HNo HYes HQ HBX hp
        go_wp2_with fail
        clear hw6
        refine (CY.out _).mono ?_
        rintro e w7 ⟨v5, rfl, hown5, hb⟩
        obtain ⟨g5, cap5, rfl, hg5, hg5', hc5, hm5, hcell5⟩ := row_txt hown5 hL0
        have A7 := Lib.hid (A6.out.below hb)
        have B7 := Lib.hid (B6.out.below hb)
        have W7 := Lib.hid (blw_trans W6.out hb)
        have hp6 : p < w6.heap.size := A6.out.lt
        have QX0 := Lib.hid (show QX w w7.heap.size p (.int .u8 (ch.toNat : Int)) (.int .i64 MO) (.bool bx) (.slice none 0 0) (.slice none 0 0) g5 L2 (L2.take 0) w7 from ⟨A7.out, ⟨rfl, .inl ⟨rfl, by simp⟩⟩, B7.out, W7.out, Nat.le_refl _, hcell5⟩)
        have hpB : p < w7.heap.size := Nat.lt_of_lt_of_le hp6 hb.size
        have h5p : g5 ≠ p := by omega
        obtain ⟨m, hm⟩ : ∃ m, L2.length = m := ⟨_, rfl⟩
        rw [hm] at hL0 hLm hc5 ⊢
        have HM := Lib.hid hm
        generalize w7.heap.size = B at *
        clear hb hown5 hcell5 A6 B6 W6 A7 B7 W7 CY cx cy f2 f3 f4 xb hm hm5 hw3 hw2 hp6 hg5
        go_wp2_with fail
        go_loopw [6, 7] (fun i _ wx => ∃ (k : Nat) (v : Value), i = .int .i64 k ∧ k ≤ m ∧ Hid (QX w B p (.int .u8 (ch.toNat : Int)) (.int .i64 MO) (.bool bx) v v g5 L2 (L2.take k) wx)) (fun i _ _ => m - (RowKit.intOf i).toNat)
        case atStart => exact ⟨0, _, rfl, Nat.zero_le _, QX0⟩
        case round =>
          obtain ⟨k, v, rfl, hk, P⟩ := hrel
          clear QX0
          by_cases hlt : k < m
          · obtain ⟨x, hx⟩ : ∃ x, L2[k]? = some x := ⟨L2[k]'(by have := HM.out; omega), List.getElem?_eq_getElem (by have := HM.out; omega)⟩
            have cz := P.out.strs k x hx
            have hxl := HLS.out x (List.mem_of_getElem? hx)
            have CX := Lib.hid fun w => cut_own x [46, 46] w (by simp) (by omega) (by simp)
            have hx0 : 0 < (Lib.split x [46, 46]).length := by rw [Spl.split_len (by simp)]; omega
            have hxm := Rul.split_short (s := x) (sub := [46, 46]) (by simp)
            have er : Rul.rngQ x = (Byt.numP (((Lib.split x [46, 46])[0]?).getD []), Byt.numP (((Lib.split x [46, 46]).getLast?).getD [])) := rfl
            have HXS := Lib.hid fun y (hy : y ∈ Lib.split x [46, 46]) => Nat.le_trans (piece_le hy) hxl
            generalize Lib.split x [46, 46] = L7 at *
            have hvk := fun k h => (P.out.row.lt k h).2
            have HTK := Lib.hid (show L2.take (k + 1) = L2.take k ++ [x] by rw [List.take_add_one, hx]; rfl)
            have hpl : (L2.take k).length = k := by rw [List.length_take, HM.out]; omega
            obtain ⟨pre, hpre⟩ : ∃ pre, L2.take k = pre := ⟨_, rfl⟩
            rw [hpre] at HTK P hpl
            have k0 : (0 : Int) ≤ (k : Int) := by omega
            have k1 : (k : Int) < (m : Int) := by omega
            clear hx hpre
            go_wp2_with fail
            refine (CX.out _).mono ?_
            rintro e w8 ⟨v7, rfl, hown7, hb⟩
            obtain ⟨g7, cap7, rfl, hg7, _, hc7, hm7, hcell7⟩ := row_txt hown7 hx0
            have P1 := Lib.hid (P.out.below hb)
            have hv7 : ∀ j, v.ownBlock = some j → j < g7 := fun j h => by have := hvk j h; omega
            have hsz := P.out.sz
            obtain ⟨mm, hmm⟩ : ∃ mm, L7.length = mm + 1 := ⟨L7.length - 1, by omega⟩
            obtain ⟨xa, hxa⟩ : ∃ xa, L7[0]? = some xa := ⟨_, List.getElem?_eq_getElem hx0⟩
            obtain ⟨xb, hxb⟩ : ∃ xb, L7[mm]? = some xb := ⟨_, List.getElem?_eq_getElem (by omega)⟩
            have y0 := hcell7 0 xa hxa
            have y1 := hcell7 mm xb hxb
            have CN1 := Lib.hid fun w => numof_any xa w (by have := HXS.out xa (List.mem_of_getElem? hxa); omega)
            have CN2 := Lib.hid fun w => numof_any xb w (by have := HXS.out xb (List.mem_of_getElem? hxb); omega)
            have HER := Lib.hid (show Rul.rngQ x = (Byt.numP xa, Byt.numP xb) by rw [er, hxa, List.getLast?_eq_getElem?, hmm, Nat.add_sub_cancel, hxb]; rfl)
            rw [hmm] at hc7 ⊢
            generalize Byt.numP xa = N1 at *
            generalize Byt.numP xb = N2 at *
            have hmb : mm ≤ 200000000 := by omega
            have hp7 : g7 ≠ p := by omega
            have hwB : w.heap.size < B := by omega
            have m1 : (mm : Int) < (mm : Int) + 1 := by omega
            have m2 : (0 : Int) ≤ (mm : Int) := by omega
            have m3 : IntKind.i64.wrap (mm : Int) = (mm : Int) := IntWalk.i64_in _ (by omega)
            clear hb hown7 hcell7 CX hmm hxa hxb cz hvk er P hx0 hxm HXS
            obtain ⟨iR, hiR, hR0, hR1, hR2⟩ := info_parts infoRng
            go_wp2_with fail
            refine wp_region_held_drew (S := fun w' => w'.cell? ⟨g7, 0, none⟩ = some (.string ⟨xa.toArray⟩) ∧ w'.cell? ⟨g7, mm, none⟩ = some (.string ⟨xb.toArray⟩)) (by kernel_rfl) (by exact ⟨y0, y1⟩) (fun hHeld => ?_)
            have P := Lib.hid (P1.out.below (Below.drew (Below.refl _ _)))
            clear P1 y0 y1
            generalize World.drew _ = w3 at *
            refine take_run (d := some 62) (v := ?v1) 0 rfl rfl (by kernel_rfl) (by kernel_rfl) (by kernel_rfl) (fun _ _ _ h => h) (by rfl) hHeld ?hy1 ?rs1
            case hy1 => (intro w hSw; (try dsimp only at hSw); go_simp) <;> (try with_reducible rfl)
            (try simp only [Act.put, List.setIfInBounds_toArray, List.set_cons_zero, List.set_cons_succ])
            refine take_run (d := some 64) (v := ?v2) 2 rfl rfl (by kernel_rfl) (by kernel_rfl) (by kernel_rfl) (fun _ _ _ h => h) (by rfl) hHeld ?hy2 ?rs2
            case hy2 => (intro w hSw; (try dsimp only at hSw); go_simp) <;> (try with_reducible rfl)
            (try simp only [Act.put, List.setIfInBounds_toArray, List.set_cons_zero, List.set_cons_succ])
            refine take_run (d := some 65) (v := ?v3) 3 rfl rfl (by kernel_rfl) (by kernel_rfl) (by kernel_rfl) (fun _ _ _ h => h) (by rfl) hHeld ?hy3 ?rs3
            case hy3 => (intro w hSw; (try dsimp only at hSw); go_simp) <;> (try with_reducible rfl)
            (try simp only [Act.put, List.setIfInBounds_toArray, List.set_cons_zero, List.set_cons_succ])
            refine take_run (d := some 66) (v := ?v4) 4 rfl rfl (by kernel_rfl) (by kernel_rfl) (by kernel_rfl) (fun _ _ _ h => h) (by rfl) hHeld ?hy4 ?rs4
            case hy4 => (intro w hSw; (try dsimp only at hSw); go_simp) <;> (try with_reducible rfl)
            (try simp only [Act.put, List.setIfInBounds_toArray, List.set_cons_zero, List.set_cons_succ])
            refine take_run (d := some 68) (v := ?v12) 6 rfl rfl (by kernel_rfl) (by kernel_rfl) (by kernel_rfl) (fun _ _ _ h => h) (by rfl) hHeld ?hy12 ?rs12
            case hy12 => (intro w hSw; (try dsimp only at hSw); go_simp) <;> (try with_reducible rfl)
            (try simp only [Act.put, List.setIfInBounds_toArray, List.set_cons_zero, List.set_cons_succ])
            refine take_run (d := some 69) (v := ?v13) 7 rfl rfl (by kernel_rfl) (by kernel_rfl) (by kernel_rfl) (fun _ _ _ h => h) (by rfl) hHeld ?hy13 ?rs13
            case hy13 => (intro w hSw; (try dsimp only at hSw); go_simp) <;> (try with_reducible rfl)
            (try simp only [Act.put, List.setIfInBounds_toArray, List.set_cons_zero, List.set_cons_succ])
            refine take_run (d := some 70) (v := ?v14) 8 rfl rfl (by kernel_rfl) (by kernel_rfl) (by kernel_rfl) (fun _ _ _ h => h) (by rfl) hHeld ?hy14 ?rs14
            case hy14 => (intro w hSw; (try dsimp only at hSw); go_simp) <;> (try with_reducible rfl)
            (try simp only [Act.put, List.setIfInBounds_toArray, List.set_cons_zero, List.set_cons_succ])
            refine take_run (d := some 71) (v := ?v15) 9 rfl rfl (by kernel_rfl) (by kernel_rfl) (by kernel_rfl) (fun _ _ _ h => h) (by rfl) hHeld ?hy15 ?rs15
            case hy15 => (intro w hSw; (try dsimp only at hSw); go_simp) <;> (try with_reducible rfl)
            (try simp only [Act.put, List.setIfInBounds_toArray, List.set_cons_zero, List.set_cons_succ])
            refine take_run (d := some 72) (v := ?v16) 10 rfl rfl (by kernel_rfl) (by kernel_rfl) (by kernel_rfl) (fun _ _ _ h => h) (by rfl) hHeld ?hy16 ?rs16
            case hy16 => (intro w hSw; (try dsimp only at hSw); go_simp) <;> (try with_reducible rfl)
            (try simp only [Act.put, List.setIfInBounds_toArray, List.set_cons_zero, List.set_cons_succ])
            refine take_run (d := some 73) (v := ?v17) 11 rfl rfl (by kernel_rfl) (by kernel_rfl) (by kernel_rfl) (fun _ _ _ h => h) (by rfl) hHeld ?hy17 ?rs17
            case hy17 => (intro w hSw; (try dsimp only at hSw); go_simp) <;> (try with_reducible rfl)
            (try simp only [Act.put, List.setIfInBounds_toArray, List.set_cons_zero, List.set_cons_succ])
            refine take_two 1 5 rfl rfl (by kernel_rfl) (by rfl) (by rfl) (fun K hK => ?_) (fun K hK => ?_)
            · have k3 := P.out.box.cell 3 _ rfl
              go_simp
              clear k3
              refine hK.out _ _ (hHeld) (fun hHeld => ?_)
              clear hK K
              (try simp only [Act.put, List.setIfInBounds_toArray, List.set_cons_zero, List.set_cons_succ])
              refine take_call 5 rfl (by kernel_rfl) (by rfl) (fun K hK => ?_)
              go_simp
              refine (CN1.out _).mono ?_
              rintro e w' ⟨rfl, hb⟩
              replace P := Lib.hid (P.out.below hb)
              refine hK.out _ _ (⟨cell_keep hHeld.1 hb, cell_keep hHeld.2 hb⟩) (fun hHeld => ?_)
              clear hK K
              (try simp only [Act.put, List.setIfInBounds_toArray, List.set_cons_zero, List.set_cons_succ])
              clear hb
              refine take_call 12 rfl (by kernel_rfl) (by rfl) (fun K hK => ?_)
              go_simp
              refine (CN2.out _).mono ?_
              rintro e w' ⟨rfl, hb⟩
              replace P := Lib.hid (P.out.below hb)
              refine hK.out _ _ (⟨cell_keep hHeld.1 hb, cell_keep hHeld.2 hb⟩) (fun hHeld => ?_)
              clear hK K
              (try simp only [Act.put, List.setIfInBounds_toArray, List.set_cons_zero, List.set_cons_succ])
              clear hb
              refine take_run (d := some 75) (v := ?v18) 13 rfl rfl (by kernel_rfl) (by kernel_rfl) (by kernel_rfl) (fun _ _ _ h => h) (by rfl) hHeld ?hy18 ?rs18
              case hy18 => (intro w hSw; (try dsimp only at hSw); go_simp) <;> (try with_reducible rfl)
              (try simp only [Act.put, List.setIfInBounds_toArray, List.set_cons_zero, List.set_cons_succ])
              refine take_call 14 rfl (by kernel_rfl) (by rfl) (fun K hK => ?_)
              go_simp
              refine hK.out _ _ (⟨cell_keep hHeld.1 (blw_alloc _ _), cell_keep hHeld.2 (blw_alloc _ _)⟩) (fun hHeld => ?_)
              clear hK K
              (try simp only [Act.put, List.setIfInBounds_toArray, List.set_cons_zero, List.set_cons_succ])
              replace P := Lib.hid (P.out.below (blw_alloc _ (.cells #[.int .i64 N1, .int .i64 N2] 141)))
              have BN := Lib.hid (Boxed.made _ #[.int .i64 N1, .int .i64 N2] 141 : Boxed (World.alloc w' (.cells #[.int .i64 N1, .int .i64 N2] 141)) w'.heap.size _)
              generalize hq : w'.heap.size = q at *
              generalize World.alloc w' (.cells #[.int .i64 N1, .int .i64 N2] 141) = w5 at *
              clear hq
              refine take_call 15 rfl (by kernel_rfl) (by rfl) (fun K hK => ?_)
              refine wp_append_own _ _ _ 106 rfl B 141 iR _ 2 16 Tryz.underlying106 hiR hR0 hR1 hR2 rfl (by decide) v pre.length (qrf pre) (by simp [go_sem]) P.out.row ⟨q, 0, none⟩ 1 1 [.int .i64 N1, .int .i64 N2] (by simp [go_sem]) rfl (boxed_add BN.out) (fun u hu => by simp at hu; rcases hu with rfl | rfl <;> rfl) (by unfold maxLen; omega) (by omega) P.out.sz ?_
              intro v' w6 hown hgrow hnil
              clear hnil
              obtain ⟨g', cap', rfl⟩ := row_some hown (by omega)
              have hHeld2 := grown_two hgrow hHeld.1 hHeld.2 hv7
              replace P := Lib.hid (P.out.append (x := x) (by rw [HER.out]; exact hown) hgrow hwB hpB hg5')
              clear hown hgrow
              refine hK.out _ _ (hHeld2) (fun hHeld => ?_)
              clear hK K
              (try simp only [Act.put, List.setIfInBounds_toArray, List.set_cons_zero, List.set_cons_succ])
              clear hHeld2
              refine take_run (d := some 78) (v := ?v19) 16 rfl rfl (by kernel_rfl) (by kernel_rfl) (by kernel_rfl) (fun _ _ _ h => h) (by rfl) hHeld ?hy19 ?rs19
              case hy19 => (intro w hSw; (try dsimp only at hSw); go_simp) <;> (try with_reducible rfl)
              (try simp only [Act.put, List.setIfInBounds_toArray, List.set_cons_zero, List.set_cons_succ])
              refine take_call 17 rfl (by kernel_rfl) (by rfl) (fun K hK => ?_)
              have k3 := P.out.box.cell 3 _ rfl
              have z3 := P.out.box.free 3 (by show 3 < 4; omega)
              have hlt := P.out.box.lt
              go_simp
              clear k3 z3 hlt
              refine hK.out _ _ (store_two hp7 hHeld.1 hHeld.2) (fun hHeld => ?_)
              clear hK K
              (try simp only [Act.put, List.setIfInBounds_toArray, List.set_cons_zero, List.set_cons_succ])
              replace P := Lib.hid (P.out.stored hz1 hpB h5p)
              refine wpAnyH_done (by kernel_rfl) ?_ _
              clear hHeld
              rw [hpl] at P
              go_wp2_with fail
              go_roundw
              case rel => exact ⟨k + 1, _, by go_num, by omega, by rw [HTK.out]; exact P⟩
              case measure => simp [RowKit.intOf]; omega
            · go_simp
              refine (CN1.out _).mono ?_
              rintro e w' ⟨rfl, hb⟩
              replace P := Lib.hid (P.out.below hb)
              refine hK.out _ _ (⟨cell_keep hHeld.1 hb, cell_keep hHeld.2 hb⟩) (fun hHeld => ?_)
              clear hK K
              (try simp only [Act.put, List.setIfInBounds_toArray, List.set_cons_zero, List.set_cons_succ])
              clear hb
              refine take_two 1 12 rfl rfl (by kernel_rfl) (by rfl) (by rfl) (fun K hK => ?_) (fun K hK => ?_)
              · have k3 := P.out.box.cell 3 _ rfl
                go_simp
                clear k3
                refine hK.out _ _ (hHeld) (fun hHeld => ?_)
                clear hK K
                (try simp only [Act.put, List.setIfInBounds_toArray, List.set_cons_zero, List.set_cons_succ])
                refine take_call 12 rfl (by kernel_rfl) (by rfl) (fun K hK => ?_)
                go_simp
                refine (CN2.out _).mono ?_
                rintro e w' ⟨rfl, hb⟩
                replace P := Lib.hid (P.out.below hb)
                refine hK.out _ _ (⟨cell_keep hHeld.1 hb, cell_keep hHeld.2 hb⟩) (fun hHeld => ?_)
                clear hK K
                (try simp only [Act.put, List.setIfInBounds_toArray, List.set_cons_zero, List.set_cons_succ])
                clear hb
                refine take_run (d := some 75) (v := ?v23) 13 rfl rfl (by kernel_rfl) (by kernel_rfl) (by kernel_rfl) (fun _ _ _ h => h) (by rfl) hHeld ?hy23 ?rs23
                case hy23 => (intro w hSw; (try dsimp only at hSw); go_simp) <;> (try with_reducible rfl)
                (try simp only [Act.put, List.setIfInBounds_toArray, List.set_cons_zero, List.set_cons_succ])
                refine take_call 14 rfl (by kernel_rfl) (by rfl) (fun K hK => ?_)
                go_simp
                refine hK.out _ _ (⟨cell_keep hHeld.1 (blw_alloc _ _), cell_keep hHeld.2 (blw_alloc _ _)⟩) (fun hHeld => ?_)
                clear hK K
                (try simp only [Act.put, List.setIfInBounds_toArray, List.set_cons_zero, List.set_cons_succ])
                replace P := Lib.hid (P.out.below (blw_alloc _ (.cells #[.int .i64 N1, .int .i64 N2] 141)))
                have BN := Lib.hid (Boxed.made _ #[.int .i64 N1, .int .i64 N2] 141 : Boxed (World.alloc w' (.cells #[.int .i64 N1, .int .i64 N2] 141)) w'.heap.size _)
                generalize hq : w'.heap.size = q at *
                generalize World.alloc w' (.cells #[.int .i64 N1, .int .i64 N2] 141) = w5 at *
                clear hq
                refine take_call 15 rfl (by kernel_rfl) (by rfl) (fun K hK => ?_)
                refine wp_append_own _ _ _ 106 rfl B 141 iR _ 2 16 Tryz.underlying106 hiR hR0 hR1 hR2 rfl (by decide) v pre.length (qrf pre) (by simp [go_sem]) P.out.row ⟨q, 0, none⟩ 1 1 [.int .i64 N1, .int .i64 N2] (by simp [go_sem]) rfl (boxed_add BN.out) (fun u hu => by simp at hu; rcases hu with rfl | rfl <;> rfl) (by unfold maxLen; omega) (by omega) P.out.sz ?_
                intro v' w6 hown hgrow hnil
                clear hnil
                obtain ⟨g', cap', rfl⟩ := row_some hown (by omega)
                have hHeld2 := grown_two hgrow hHeld.1 hHeld.2 hv7
                replace P := Lib.hid (P.out.append (x := x) (by rw [HER.out]; exact hown) hgrow hwB hpB hg5')
                clear hown hgrow
                refine hK.out _ _ (hHeld2) (fun hHeld => ?_)
                clear hK K
                (try simp only [Act.put, List.setIfInBounds_toArray, List.set_cons_zero, List.set_cons_succ])
                clear hHeld2
                refine take_run (d := some 78) (v := ?v24) 16 rfl rfl (by kernel_rfl) (by kernel_rfl) (by kernel_rfl) (fun _ _ _ h => h) (by rfl) hHeld ?hy24 ?rs24
                case hy24 => (intro w hSw; (try dsimp only at hSw); go_simp) <;> (try with_reducible rfl)
                (try simp only [Act.put, List.setIfInBounds_toArray, List.set_cons_zero, List.set_cons_succ])
                refine take_call 17 rfl (by kernel_rfl) (by rfl) (fun K hK => ?_)
                have k3 := P.out.box.cell 3 _ rfl
                have z3 := P.out.box.free 3 (by show 3 < 4; omega)
                have hlt := P.out.box.lt
                go_simp
                clear k3 z3 hlt
                refine hK.out _ _ (store_two hp7 hHeld.1 hHeld.2) (fun hHeld => ?_)
                clear hK K
                (try simp only [Act.put, List.setIfInBounds_toArray, List.set_cons_zero, List.set_cons_succ])
                replace P := Lib.hid (P.out.stored hz1 hpB h5p)
                refine wpAnyH_done (by kernel_rfl) ?_ _
                clear hHeld
                rw [hpl] at P
                go_wp2_with fail
                go_roundw
                case rel => exact ⟨k + 1, _, by go_num, by omega, by rw [HTK.out]; exact P⟩
                case measure => simp [RowKit.intOf]; omega
              · go_simp
                refine (CN2.out _).mono ?_
                rintro e w' ⟨rfl, hb⟩
                replace P := Lib.hid (P.out.below hb)
                refine hK.out _ _ (⟨cell_keep hHeld.1 hb, cell_keep hHeld.2 hb⟩) (fun hHeld => ?_)
                clear hK K
                (try simp only [Act.put, List.setIfInBounds_toArray, List.set_cons_zero, List.set_cons_succ])
                clear hb
                refine take_run (d := some 75) (v := ?v20) 13 rfl rfl (by kernel_rfl) (by kernel_rfl) (by kernel_rfl) (fun _ _ _ h => h) (by rfl) hHeld ?hy20 ?rs20
                case hy20 => (intro w hSw; (try dsimp only at hSw); go_simp) <;> (try with_reducible rfl)
                (try simp only [Act.put, List.setIfInBounds_toArray, List.set_cons_zero, List.set_cons_succ])
                refine take_two 1 14 rfl rfl (by kernel_rfl) (by rfl) (by rfl) (fun K hK => ?_) (fun K hK => ?_)
                · have k3 := P.out.box.cell 3 _ rfl
                  go_simp
                  clear k3
                  refine hK.out _ _ (hHeld) (fun hHeld => ?_)
                  clear hK K
                  (try simp only [Act.put, List.setIfInBounds_toArray, List.set_cons_zero, List.set_cons_succ])
                  refine take_call 14 rfl (by kernel_rfl) (by rfl) (fun K hK => ?_)
                  go_simp
                  refine hK.out _ _ (⟨cell_keep hHeld.1 (blw_alloc _ _), cell_keep hHeld.2 (blw_alloc _ _)⟩) (fun hHeld => ?_)
                  clear hK K
                  (try simp only [Act.put, List.setIfInBounds_toArray, List.set_cons_zero, List.set_cons_succ])
                  replace P := Lib.hid (P.out.below (blw_alloc _ (.cells #[.int .i64 N1, .int .i64 N2] 141)))
                  have BN := Lib.hid (Boxed.made _ #[.int .i64 N1, .int .i64 N2] 141 : Boxed (World.alloc w' (.cells #[.int .i64 N1, .int .i64 N2] 141)) w'.heap.size _)
                  generalize hq : w'.heap.size = q at *
                  generalize World.alloc w' (.cells #[.int .i64 N1, .int .i64 N2] 141) = w5 at *
                  clear hq
                  refine take_call 15 rfl (by kernel_rfl) (by rfl) (fun K hK => ?_)
                  refine wp_append_own _ _ _ 106 rfl B 141 iR _ 2 16 Tryz.underlying106 hiR hR0 hR1 hR2 rfl (by decide) v pre.length (qrf pre) (by simp [go_sem]) P.out.row ⟨q, 0, none⟩ 1 1 [.int .i64 N1, .int .i64 N2] (by simp [go_sem]) rfl (boxed_add BN.out) (fun u hu => by simp at hu; rcases hu with rfl | rfl <;> rfl) (by unfold maxLen; omega) (by omega) P.out.sz ?_
                  intro v' w6 hown hgrow hnil
                  clear hnil
                  obtain ⟨g', cap', rfl⟩ := row_some hown (by omega)
                  have hHeld2 := grown_two hgrow hHeld.1 hHeld.2 hv7
                  replace P := Lib.hid (P.out.append (x := x) (by rw [HER.out]; exact hown) hgrow hwB hpB hg5')
                  clear hown hgrow
                  refine hK.out _ _ (hHeld2) (fun hHeld => ?_)
                  clear hK K
                  (try simp only [Act.put, List.setIfInBounds_toArray, List.set_cons_zero, List.set_cons_succ])
                  clear hHeld2
                  refine take_run (d := some 78) (v := ?v21) 16 rfl rfl (by kernel_rfl) (by kernel_rfl) (by kernel_rfl) (fun _ _ _ h => h) (by rfl) hHeld ?hy21 ?rs21
                  case hy21 => (intro w hSw; (try dsimp only at hSw); go_simp) <;> (try with_reducible rfl)
                  (try simp only [Act.put, List.setIfInBounds_toArray, List.set_cons_zero, List.set_cons_succ])
                  refine take_call 17 rfl (by kernel_rfl) (by rfl) (fun K hK => ?_)
                  have k3 := P.out.box.cell 3 _ rfl
                  have z3 := P.out.box.free 3 (by show 3 < 4; omega)
                  have hlt := P.out.box.lt
                  go_simp
                  clear k3 z3 hlt
                  refine hK.out _ _ (store_two hp7 hHeld.1 hHeld.2) (fun hHeld => ?_)
                  clear hK K
                  (try simp only [Act.put, List.setIfInBounds_toArray, List.set_cons_zero, List.set_cons_succ])
                  replace P := Lib.hid (P.out.stored hz1 hpB h5p)
                  refine wpAnyH_done (by kernel_rfl) ?_ _
                  clear hHeld
                  rw [hpl] at P
                  go_wp2_with fail
                  go_roundw
                  case rel => exact ⟨k + 1, _, by go_num, by omega, by rw [HTK.out]; exact P⟩
                  case measure => simp [RowKit.intOf]; omega
                · go_simp
                  refine hK.out _ _ (⟨cell_keep hHeld.1 (blw_alloc _ _), cell_keep hHeld.2 (blw_alloc _ _)⟩) (fun hHeld => ?_)
                  clear hK K
                  (try simp only [Act.put, List.setIfInBounds_toArray, List.set_cons_zero, List.set_cons_succ])
                  replace P := Lib.hid (P.out.below (blw_alloc _ (.cells #[.int .i64 N1, .int .i64 N2] 141)))
                  have BN := Lib.hid (Boxed.made _ #[.int .i64 N1, .int .i64 N2] 141 : Boxed (World.alloc w' (.cells #[.int .i64 N1, .int .i64 N2] 141)) w'.heap.size _)
                  generalize hq : w'.heap.size = q at *
                  generalize World.alloc w' (.cells #[.int .i64 N1, .int .i64 N2] 141) = w5 at *
                  clear hq
                  refine take_call 1 rfl (by kernel_rfl) (by rfl) (fun K hK => ?_)
                  have k3 := P.out.box.cell 3 _ rfl
                  go_simp
                  clear k3
                  refine hK.out _ _ (hHeld) (fun hHeld => ?_)
                  clear hK K
                  (try simp only [Act.put, List.setIfInBounds_toArray, List.set_cons_zero, List.set_cons_succ])
                  refine take_call 15 rfl (by kernel_rfl) (by rfl) (fun K hK => ?_)
                  refine wp_append_own _ _ _ 106 rfl B 141 iR _ 2 16 Tryz.underlying106 hiR hR0 hR1 hR2 rfl (by decide) v pre.length (qrf pre) (by simp [go_sem]) P.out.row ⟨q, 0, none⟩ 1 1 [.int .i64 N1, .int .i64 N2] (by simp [go_sem]) rfl (boxed_add BN.out) (fun u hu => by simp at hu; rcases hu with rfl | rfl <;> rfl) (by unfold maxLen; omega) (by omega) P.out.sz ?_
                  intro v' w6 hown hgrow hnil
                  clear hnil
                  obtain ⟨g', cap', rfl⟩ := row_some hown (by omega)
                  have hHeld2 := grown_two hgrow hHeld.1 hHeld.2 hv7
                  replace P := Lib.hid (P.out.append (x := x) (by rw [HER.out]; exact hown) hgrow hwB hpB hg5')
                  clear hown hgrow
                  refine hK.out _ _ (hHeld2) (fun hHeld => ?_)
                  clear hK K
                  (try simp only [Act.put, List.setIfInBounds_toArray, List.set_cons_zero, List.set_cons_succ])
                  clear hHeld2
                  refine take_run (d := some 78) (v := ?v22) 16 rfl rfl (by kernel_rfl) (by kernel_rfl) (by kernel_rfl) (fun _ _ _ h => h) (by rfl) hHeld ?hy22 ?rs22
                  case hy22 => (intro w hSw; (try dsimp only at hSw); go_simp) <;> (try with_reducible rfl)
                  (try simp only [Act.put, List.setIfInBounds_toArray, List.set_cons_zero, List.set_cons_succ])
                  refine take_call 17 rfl (by kernel_rfl) (by rfl) (fun K hK => ?_)
                  have k3 := P.out.box.cell 3 _ rfl
                  have z3 := P.out.box.free 3 (by show 3 < 4; omega)
                  have hlt := P.out.box.lt
                  go_simp
                  clear k3 z3 hlt
                  refine hK.out _ _ (store_two hp7 hHeld.1 hHeld.2) (fun hHeld => ?_)
                  clear hK K
                  (try simp only [Act.put, List.setIfInBounds_toArray, List.set_cons_zero, List.set_cons_succ])
                  replace P := Lib.hid (P.out.stored hz1 hpB h5p)
                  refine wpAnyH_done (by kernel_rfl) ?_ _
                  clear hHeld
                  rw [hpl] at P
                  go_wp2_with fail
                  go_roundw
                  case rel => exact ⟨k + 1, _, by go_num, by omega, by rw [HTK.out]; exact P⟩
                  case measure => simp [RowKit.intOf]; omega
          · have e : k = m := by omega
            subst e
            have P2 := P.out
            rw [List.take_of_length_le (by have := HM.out; omega)] at P2
            have HP := Lib.hid P2
            have hpw := P2.box.lt
            obtain ⟨a5, n5, c5, rfl⟩ : ∃ a n c, v = .slice a n c := by
              obtain ⟨a, c, e⟩ := row_any P2.row
              exact ⟨a, _, c, e⟩
            clear P P2
            have k0 := HP.out.box.cell 0 _ rfl
            have k1 := HP.out.box.cell 1 _ rfl
            have k2 := HP.out.box.cell 2 _ rfl
            have k3 := HP.out.box.cell 3 _ rfl
            have q0 := HP.out.res.free 0 (by show 0 < 4; omega)
            have q1 := HP.out.res.free 1 (by show 1 < 4; omega)
            have q2 := HP.out.res.free 2 (by show 2 < 4; omega)
            have q3 := HP.out.res.free 3 (by show 3 < 4; omega)
            have c0 := HP.out.res.cell 0 _ rfl
            have c1 := HP.out.res.cell 1 _ rfl
            have c2 := HP.out.res.cell 2 _ rfl
            have c3 := HP.out.res.cell 3 _ rfl
            have s0 := HP.out.res.lt
            have s1 := HP.out.box.lt
            go_wp2_with fail
            have BD := Lib.hid ((((HP.out.res.set 0 (.int .u8 (ch.toNat : Int)) (by show 0 < 4; omega)).set 1 (.int .i64 MO) (by show 1 < 4; omega)).set 2 (.bool bx) (by show 2 < 4; omega)).set 3 (.slice a5 n5 c5) (by show 3 < 4; omega))
            have WD := Lib.hid (show Below w.heap.size w ((((wr.setCell ⟨w.heap.size, 0, none⟩ (.int .u8 (ch.toNat : Int))).setCell ⟨w.heap.size, 1, none⟩ (.int .i64 MO)).setCell ⟨w.heap.size, 2, none⟩ (.bool bx)).setCell ⟨w.heap.size, 3, none⟩ (.slice a5 n5 c5)) from ((((HP.out.low.setCell (p := ⟨w.heap.size, 0, none⟩) (Nat.le_refl _) (.int .u8 (ch.toNat : Int))).setCell (p := ⟨w.heap.size, 1, none⟩) (Nat.le_refl _) (.int .i64 MO)).setCell (p := ⟨w.heap.size, 2, none⟩) (Nat.le_refl _) (.bool bx)).setCell (p := ⟨w.heap.size, 3, none⟩) (Nat.le_refl _) (.slice a5 n5 c5)))
            have y0 := BD.out.cell 0 _ rfl
            have y1 := BD.out.cell 1 _ rfl
            have y2 := BD.out.cell 2 _ rfl
            have y3 := BD.out.cell 3 _ rfl
            have SD := Lib.hid (HP.out.lies (C := ((((wr.setCell ⟨w.heap.size, 0, none⟩ (.int .u8 (ch.toNat : Int))).setCell ⟨w.heap.size, 1, none⟩ (.int .i64 MO)).setCell ⟨w.heap.size, 2, none⟩ (.bool bx)).setCell ⟨w.heap.size, 3, none⟩ (.slice a5 n5 c5))) (fun g cur e hg h => by rw [set_else (by show w.heap.size ≠ g; omega), set_else (by show w.heap.size ≠ g; omega), set_else (by show w.heap.size ≠ g; omega), set_else (by show w.heap.size ≠ g; omega)]))
            have FR : ∀ b, (Value.slice a5 n5 c5).ownBlock = some b → w.heap.size ≤ b := fun b hb => by have := (HP.out.row.lt b hb).1; omega
            generalize ((((wr.setCell ⟨w.heap.size, 0, none⟩ (.int .u8 (ch.toNat : Int))).setCell ⟨w.heap.size, 1, none⟩ (.int .i64 MO)).setCell ⟨w.heap.size, 2, none⟩ (.bool bx)).setCell ⟨w.heap.size, 3, none⟩ (.slice a5 n5 c5)) = Z at *
            try simp only [Exit.inBlock, Exit.then]
            refine bodyPost_ret (by simp [results, Tryz.results60, go_sem, y0, y1, y2, y3]; try rfl) rfl ?_
            rw [← HL2.out] at SD
            exact ⟨_, _, _, rfl, SD.out, FR, WD.out⟩
    · have q1 : ((c.length : Int) == 1) = false := beq_no (by omega)
      obtain rfl : RQ = ⟨0, 0, false, []⟩ := by rw [← HRQ.out]; exact words_op h1
      clear h3 O2 hgl HPL hsl x1 x2 x3 x4 hcell
      have i0 : 0 < (c :: u :: v :: r).length := by simp
      generalize (c :: u :: v :: r).length = n3 at *
      have k0 := A2.out.cell 0 _ rfl
      have k1 := A2.out.cell 1 _ rfl
      have k2 := A2.out.cell 2 _ rfl
      have k3 := A2.out.cell 3 _ rfl
      have q0 := B2.out.free 0 (by show 0 < 4; omega)
      have q1 := B2.out.free 1 (by show 1 < 4; omega)
      have q2 := B2.out.free 2 (by show 2 < 4; omega)
      have q3 := B2.out.free 3 (by show 3 < 4; omega)
      have c0 := B2.out.cell 0 _ rfl
      have c1 := B2.out.cell 1 _ rfl
      have c2 := B2.out.cell 2 _ rfl
      have c3 := B2.out.cell 3 _ rfl
      have s0 := B2.out.lt
      have s1 := A2.out.lt
      go_wp2_with fail
      have BD := Lib.hid ((((B2.out.set 0 (.int .u8 0) (by show 0 < 4; omega)).set 1 (.int .i64 0) (by show 1 < 4; omega)).set 2 (.bool false) (by show 2 < 4; omega)).set 3 (.slice none 0 0) (by show 3 < 4; omega))
      have WD := Lib.hid (show Below w.heap.size w ((((w2.setCell ⟨w.heap.size, 0, none⟩ (.int .u8 0)).setCell ⟨w.heap.size, 1, none⟩ (.int .i64 0)).setCell ⟨w.heap.size, 2, none⟩ (.bool false)).setCell ⟨w.heap.size, 3, none⟩ (.slice none 0 0)) from ((((W2.out.setCell (p := ⟨w.heap.size, 0, none⟩) (Nat.le_refl _) (.int .u8 0)).setCell (p := ⟨w.heap.size, 1, none⟩) (Nat.le_refl _) (.int .i64 0)).setCell (p := ⟨w.heap.size, 2, none⟩) (Nat.le_refl _) (.bool false)).setCell (p := ⟨w.heap.size, 3, none⟩) (Nat.le_refl _) (.slice none 0 0)))
      have y0 := BD.out.cell 0 _ rfl
      have y1 := BD.out.cell 1 _ rfl
      have y2 := BD.out.cell 2 _ rfl
      have y3 := BD.out.cell 3 _ rfl
      generalize ((((w2.setCell ⟨w.heap.size, 0, none⟩ (.int .u8 0)).setCell ⟨w.heap.size, 1, none⟩ (.int .i64 0)).setCell ⟨w.heap.size, 2, none⟩ (.bool false)).setCell ⟨w.heap.size, 3, none⟩ (.slice none 0 0)) = Z at *
      try simp only [Exit.inBlock, Exit.then]
      refine bodyPost_ret (by simp [results, Tryz.results60, go_sem, y0, y1, y2, y3]; try rfl) rfl ?_
      exact ⟨_, _, _, rfl, .inl ⟨rfl, _, _, rfl⟩, (fun b hb => by cases hb), WD.out⟩
  
end Go.Proofs.YtainindkndjkbaaGreatDoor
namespace Rul
open Go Go.Lib
theorem count_Q (s : List UInt8) : (ruleQ s).length ≤ s.length + 1 ∧ count (ruleQ s) ≤ 2 * s.length + 2 := by
  have h := count_P s
  have e : (ruleQ s).map List.length = (ruleP s).map List.length := by
    unfold ruleQ ruleP
    rw [List.map_map, List.map_map]
    exact List.map_congr_left fun x _ => by simp [partQ, partP]
  have el : (ruleQ s).length = (ruleP s).length := by simpa using congrArg List.length e
  refine ⟨by rw [el]; exact h.1, ?_⟩
  have h2 := h.2
  unfold count at h2 ⊢
  rw [e]; exact h2
theorem rs_words : ∀ (L : List (List UInt8)) (n : Nat), (∀ x ∈ L, x.length ≤ n) → (wordsQ L).rs.length ≤ n + 1 := by
  intro L n h
  rcases L with _ | ⟨a, _ | ⟨u, _ | ⟨v, r⟩⟩⟩
  · simp [wordsQ]
  · rcases a with _ | ⟨x, _ | ⟨y, t⟩⟩ <;> simp [wordsQ]
  · rcases a with _ | ⟨x, _ | ⟨y, t⟩⟩ <;> simp [wordsQ]
  · rcases a with _ | ⟨x, _ | ⟨y, t⟩⟩
    · simp [wordsQ]
    · have key : ∀ y ∈ [x] :: u :: v :: r, ((split y [44]).map rngQ).length ≤ n + 1 := fun y hy => by
        have h4 := split_short (s := y) (sub := [44]) (by decide)
        have := h y hy
        rw [List.length_map]; omega
      show (if u = [37] ∧ r.length = 2 then _ else _ : Rl).rs.length ≤ _
      split
      · rename_i hc
        obtain ⟨X, Y, rfl⟩ : ∃ X Y, r = [X, Y] := by
          rcases r with _ | ⟨a, _ | ⟨b, _ | ⟨c, t⟩⟩⟩
          · simp at hc
          · simp at hc
          · exact ⟨_, _, rfl⟩
          · simp at hc
        exact key Y (by simp)
      · exact key v (by simp)
    · simp [wordsQ]
theorem rs_Q (s : List UInt8) : ∀ l ∈ ruleQ s, ∀ x ∈ l, x.rs.length ≤ s.length + 1 := by
  intro l hl x hx
  obtain ⟨p, hp, rfl⟩ := List.mem_map.1 hl
  obtain ⟨q, hq, rfl⟩ := List.mem_map.1 hx
  have h1 := mem_split hp
  have h2 := mem_split hq
  exact rs_words _ _ fun y hy => Nat.le_trans (mem_split hy) (Nat.le_trans h2 h1)
end Rul
namespace Go.Proofs.YtainindkndjkbaaGreatDoor
open Go.RowKit Go.Shelf

/-- the row of relations that grows -/
structure QI (B : Nat) (vr : Value) (qs : List (Rul.Rl × Value)) (S : Nat → Prop) (pre : List (List UInt8)) (W : World) : Prop where
  row : W.ownsRow B 108 4 vr qs.length (qflat qs)
  fst : qs.map (·.1) = pre.map Rul.relQ
  it : ∀ q ∈ qs, ∃ a n c, q.2 = .slice a n c ∧ SlAt 2 (RngI S) W (.slice a n c) q.1.rs
  own : Own B S vr W
  sz : B ≤ W.heap.size
theorem QI.grown {B : Nat} {vr : Value} {qs : List (Rul.Rl × Value)} {S : Nat → Prop} {pre : List (List UInt8)} {A C : World} {r : Option Nat} (h : QI B vr qs S pre A) (g : A.grownBy C r)
    (hr : ∀ k, r = some k → vr.ownBlock ≠ some k ∧ ¬ S k) : QI B vr qs S pre C := by
  have hS : ∀ b, S b → some b ≠ r := fun b hb e => (hr b e.symm).2 hb
  refine ⟨h.row.kept g ?_, h.fst, fun q hq => ?_, h.own.grown g hS, Nat.le_trans h.sz g.size⟩
  · cases hv : vr.ownBlock with
    | none => exact .inl rfl
    | some k => exact .inr fun e => (hr k e.symm).1 hv
  · obtain ⟨a, n, c, e, hs⟩ := h.it q hq
    exact ⟨a, n, c, e, rngsI_kept hs (same_grown h.own g hS) (fun _ hb => hb)⟩
theorem QI.len {B : Nat} {vr : Value} {qs : List (Rul.Rl × Value)} {S : Nat → Prop} {pre : List (List UInt8)} {W : World} (h : QI B vr qs S pre W) : qs.length = pre.length := by
  have := congrArg List.length h.fst
  simpa using this
/-- the relation that was read is added -/
theorem QI.append {B : Nat} {vr v' : Value} {qs : List (Rul.Rl × Value)} {S : Nat → Prop} {pre : List (List UInt8)} {x : List UInt8} {a : Option Addr} {n c : Nat} {A C : World} (h : QI B vr qs S pre A)
    (hown : C.ownsRow B 108 4 v' (qs.length + 1) (qflat qs ++ [.int .u8 ((Rul.relQ x).op.toNat : Int), .int .i64 (Rul.relQ x).mod, .bool (Rul.relQ x).no, .slice a n c])) (g : A.grownBy C vr.ownBlock)
    (hat : v'.ownBlock = vr.ownBlock ∨ v'.ownBlock = some A.heap.size)
    (hs : SlAt 2 RngC A (.slice a n c) (Rul.relQ x).rs) (hb : ∀ b, (Value.slice a n c).ownBlock = some b → B ≤ b ∧ vr.ownBlock ≠ some b) :
    QI B v' (qs ++ [(Rul.relQ x, .slice a n c)]) (fun b => S b ∨ ((Rul.relQ x).rs ≠ [] ∧ (Value.slice a n c).ownBlock = some b)) (pre ++ [x]) C := by
  have hB : ∀ k, vr.ownBlock = some k → B ≤ k := fun k hk => (h.row.lt k hk).1
  have hS : ∀ b, S b → some b ≠ vr.ownBlock := fun b hb e => h.own.ne b hb e.symm
  have hT : ∀ b, (Rul.relQ x).rs ≠ [] → (Value.slice a n c).ownBlock = some b → IsC A b := by
    intro b hn hb
    rcases hs with ⟨e, _⟩ | ⟨b', off, cap, e1, e2, _, _, e3⟩
    · exact absurd e hn
    · injection e1 with e1 _ _
      subst e1
      injection hb with hb
      subst hb
      have hq := e3 0 _ (List.getElem?_eq_getElem e2)
      exact IsC.of_cell hq.1
  have hs' : SlAt 2 (RngI (fun b => S b ∨ ((Rul.relQ x).rs ≠ [] ∧ (Value.slice a n c).ownBlock = some b))) C (.slice a n c) (Rul.relQ x).rs := by
    rcases hs with ⟨e, z⟩ | ⟨b', off, cap, e1, e2, e4, e5, e3⟩
    · exact .inl ⟨e, z⟩
    · have hne : (Rul.relQ x).rs ≠ [] := by rintro e; rw [e] at e2; simp at e2
      have ho : (Value.slice a n c).ownBlock = some b' := by rw [e1]; rfl
      have hC := g.block b' (hT b' hne ho).lt (fun e => (hb b' ho).2 e.symm)
      refine .inr ⟨b', off, cap, e1, e2, e4, e5, fun j y hy => ⟨.inr ⟨hne, ho⟩, ?_, ?_⟩⟩
      · exact (World.cell?_of_block (a := ⟨b', off + j * 2, none⟩) hC).trans (e3 j y hy).1
      · exact (World.cell?_of_block (a := ⟨b', off + j * 2 + 1, none⟩) hC).trans (e3 j y hy).2
  refine ⟨?_, ?_, ?_, ⟨?_, ?_, ?_⟩, Nat.le_trans h.sz g.size⟩
  · rw [qflat_add, List.length_append]; exact hown
  · rw [List.map_append, List.map_append, h.fst]; rfl
  · intro q hq
    rcases List.mem_append.1 hq with hq | hq
    · obtain ⟨a', n', c', e, z⟩ := h.it q hq
      exact ⟨a', n', c', e, rngsI_kept z (same_grown h.own g hS) (fun _ hb => .inl hb)⟩
    · rw [List.mem_singleton.1 hq]
      exact ⟨a, n, c, rfl, hs'⟩
  · rintro b (hb' | hb')
    · exact h.own.ge b hb'
    · exact (hb b hb'.2).1
  · rintro b (hb' | hb') e
    · rcases hat with e' | e'
      · exact h.own.ne b hb' (e'.symm.trans e)
      · have := (h.own.is b hb').lt
        rw [e'] at e; injection e with e; omega
    · rcases hat with e' | e'
      · exact (hb b hb'.2).2 (e'.symm.trans e)
      · have := (hT b hb'.1 hb'.2).lt
        rw [e'] at e; injection e with e; omega
  · rintro b (hb' | hb')
    · exact (h.own.is b hb').grown g (hS b hb')
    · exact (hT b hb'.1 hb'.2).grown g (fun e => (hb b hb'.2).2 e.symm)
/-- the row as it lies -/
theorem QI.lies {B : Nat} {a : Option Addr} {n c : Nat} {qs : List (Rul.Rl × Value)} {S : Nat → Prop} {pre : List (List UInt8)} {A : World} (h : QI B (.slice a n c) qs S pre A) :
    SlAt 4 (RelI (fun b => S b ∨ (Value.slice a n c).ownBlock = some b)) A (.slice a n c) (pre.map Rul.relQ) ∧ ∀ b, (S b ∨ (Value.slice a n c).ownBlock = some b) → B ≤ b ∧ IsC A b := by
  refine ⟨?_, ?_⟩
  · rw [← h.fst]
    have hr := h.row
    rcases hr.2 with ⟨e, hn⟩ | ⟨g, cap, cur, e, hB, hg, hc, hm, _⟩
    · have : qs = [] := List.eq_nil_of_length_eq_zero hn
      subst this
      injection e with e1 e2 e3
      subst e1 e2 e3
      exact .inl ⟨rfl, _, _, rfl⟩
    · injection e with e1 e2 e3
      subst e1 e2 e3
      by_cases h0 : qs.length = 0
      · have : qs = [] := List.eq_nil_of_length_eq_zero h0
        subst this
        exact .inl ⟨rfl, _, _, rfl⟩
      · refine .inr ⟨g, 0, _, by rw [List.length_map], by rw [List.length_map]; omega, by rw [List.length_map]; exact hc, hm, fun j x hx => ?_⟩
        rw [List.getElem?_map] at hx
        obtain ⟨q, hq, rfl⟩ := Option.map_eq_some_iff.1 hx
        obtain ⟨e0, e1, e2, e3⟩ := qflat_at hq
        have hj : j < qs.length := (List.getElem?_eq_some_iff.1 hq).1
        have c0 := hr.cellAt (g := g) (j * 4) (by omega)
        have c1 := hr.cellAt (g := g) (j * 4 + 1) (by omega)
        have c2 := hr.cellAt (g := g) (j * 4 + 2) (by omega)
        have c3 := hr.cellAt (g := g) (j * 4 + 3) (by omega)
        rw [e0] at c0
        rw [e1] at c1
        rw [e2] at c2
        rw [e3] at c3
        rw [Nat.zero_add]
        obtain ⟨a', n', c', e, z⟩ := h.it q (List.mem_of_getElem? hq)
        rw [e] at c3
        exact ⟨.inr rfl, a', n', c', c0, c1, c2, c3, rngsI_kept z (fun _ _ => rfl) (fun _ hb => .inl hb)⟩
  · rintro b (hb | hb)
    · exact ⟨h.own.ge b hb, h.own.is b hb⟩
    · exact ⟨(h.row.lt b hb).1, IsC.row h.row hb⟩

/-- the row of parts that grows -/
structure QO (w : World) (B : Nat) (vr : Value) (ps : List (List Rul.Rl × Value)) (S : Nat → Prop) (pre : List (List UInt8)) (W : World) : Prop where
  row : W.ownsRow B 105 1 vr ps.length (ps.map (·.2))
  fst : ps.map (·.1) = pre.map Rul.partQ
  it : ∀ q ∈ ps, ∃ a n c, q.2 = .slice a n c ∧ SlAt 4 (RelI S) W (.slice a n c) q.1
  own : Own B S vr W
  low : Below w.heap.size w W
  sz : B ≤ W.heap.size
theorem QO.grown {w : World} {B : Nat} {vr : Value} {ps : List (List Rul.Rl × Value)} {S : Nat → Prop} {pre : List (List UInt8)} {A C : World} {r : Option Nat} (h : QO w B vr ps S pre A) (g : A.grownBy C r)
    (hr : ∀ k, r = some k → w.heap.size ≤ k ∧ vr.ownBlock ≠ some k ∧ ¬ S k) : QO w B vr ps S pre C := by
  have hS : ∀ b, S b → some b ≠ r := fun b hb e => (hr b e.symm).2.2 hb
  refine ⟨h.row.kept g ?_, h.fst, fun q hq => ?_, h.own.grown g hS, h.low.grown g h.low.size (fun k hk => (hr k hk).1), Nat.le_trans h.sz g.size⟩
  · cases hv : vr.ownBlock with
    | none => exact .inl rfl
    | some k => exact .inr fun e => (hr k e.symm).2.1 hv
  · obtain ⟨a, n, c, e, hs⟩ := h.it q hq
    exact ⟨a, n, c, e, relsI_kept hs (same_grown h.own g hS) (fun _ hb => hb)⟩
theorem QO.len {w : World} {B : Nat} {vr : Value} {ps : List (List Rul.Rl × Value)} {S : Nat → Prop} {pre : List (List UInt8)} {W : World} (h : QO w B vr ps S pre W) : ps.length = pre.length := by
  have := congrArg List.length h.fst
  simpa using this
theorem QO.append {w : World} {B : Nat} {vr v' : Value} {ps : List (List Rul.Rl × Value)} {S S2 : Nat → Prop} {pre : List (List UInt8)} {x : List UInt8} {a : Option Addr} {n c : Nat} {A C : World} (h : QO w B vr ps S pre A)
    (hown : C.ownsRow B 105 1 v' (ps.length + 1) (ps.map (·.2) ++ [.slice a n c])) (g : A.grownBy C vr.ownBlock)
    (hat : v'.ownBlock = vr.ownBlock ∨ v'.ownBlock = some A.heap.size) (hw : w.heap.size ≤ B)
    (hs : SlAt 4 (RelI S2) A (.slice a n c) (Rul.partQ x)) (hb : ∀ b, S2 b → B ≤ b ∧ vr.ownBlock ≠ some b ∧ IsC A b) :
    QO w B v' (ps ++ [(Rul.partQ x, .slice a n c)]) (fun b => S b ∨ S2 b) (pre ++ [x]) C := by
  have hB : ∀ k, vr.ownBlock = some k → B ≤ k := fun k hk => (h.row.lt k hk).1
  have hS : ∀ b, S b → some b ≠ vr.ownBlock := fun b hb e => h.own.ne b hb e.symm
  have hS2 : ∀ b, S2 b → some b ≠ vr.ownBlock := fun b hb' e => (hb b hb').2.1 e.symm
  have sm2 : SameOn S2 A C := fun b hb' => g.block b (hb b hb').2.2.lt (hS2 b hb')
  refine ⟨?_, ?_, ?_, ⟨?_, ?_, ?_⟩, h.low.grown g h.low.size (fun k hk => by have := hB k hk; omega), Nat.le_trans h.sz g.size⟩
  · rw [List.length_append, List.map_append]; exact hown
  · rw [List.map_append, List.map_append, h.fst]; rfl
  · intro q hq
    rcases List.mem_append.1 hq with hq | hq
    · obtain ⟨a', n', c', e, z⟩ := h.it q hq
      exact ⟨a', n', c', e, relsI_kept z (same_grown h.own g hS) (fun _ hb => .inl hb)⟩
    · rw [List.mem_singleton.1 hq]
      exact ⟨a, n, c, rfl, relsI_kept hs sm2 (fun _ hb => .inr hb)⟩
  · rintro b (hb' | hb')
    · exact h.own.ge b hb'
    · exact (hb b hb').1
  · rintro b (hb' | hb') e
    · rcases hat with e' | e'
      · exact h.own.ne b hb' (e'.symm.trans e)
      · have := (h.own.is b hb').lt
        rw [e'] at e; injection e with e; omega
    · rcases hat with e' | e'
      · exact (hb b hb').2.1 (e'.symm.trans e)
      · have := (hb b hb').2.2.lt
        rw [e'] at e; injection e with e; omega
  · rintro b (hb' | hb')
    · exact (h.own.is b hb').grown g (hS b hb')
    · exact (hb b hb').2.2.grown g (hS2 b hb')
theorem QO.lies {w : World} {B : Nat} {a : Option Addr} {n c : Nat} {ps : List (List Rul.Rl × Value)} {S : Nat → Prop} {pre : List (List UInt8)} {A : World} (h : QO w B (.slice a n c) ps S pre A) :
    SlAt 1 PartC A (.slice a n c) (pre.map Rul.partQ) := by
  rw [← h.fst]
  have hr := h.row
  rcases hr.2 with ⟨e, hn⟩ | ⟨g, cap, cur, e, hB, hg, hc, hm, _⟩
  · have : ps = [] := List.eq_nil_of_length_eq_zero hn
    subst this
    injection e with e1 e2 e3
    subst e1 e2 e3
    exact .inl ⟨rfl, _, _, rfl⟩
  · injection e with e1 e2 e3
    subst e1 e2 e3
    by_cases h0 : ps.length = 0
    · have : ps = [] := List.eq_nil_of_length_eq_zero h0
      subst this
      exact .inl ⟨rfl, _, _, rfl⟩
    · refine .inr ⟨g, 0, _, by rw [List.length_map], by rw [List.length_map]; omega, by rw [List.length_map]; exact hc, hm, fun j x hx => ?_⟩
      rw [List.getElem?_map] at hx
      obtain ⟨q, hq, rfl⟩ := Option.map_eq_some_iff.1 hx
      have hj : j < ps.length := (List.getElem?_eq_some_iff.1 hq).1
      have c0 := hr.cellAt (g := g) (j * 1) (by omega)
      rw [Nat.mul_one, List.getElem?_map, hq] at c0
      rw [Nat.zero_add, Nat.mul_one]
      obtain ⟨a', n', c', e, z⟩ := h.it q (List.mem_of_getElem? hq)
      exact ⟨a', n', c', c0.trans (by rw [← e]; rfl), relsI_plain z⟩

theorem QI.below {B : Nat} {vr : Value} {qs : List (Rul.Rl × Value)} {S : Nat → Prop} {pre : List (List UInt8)} {A C : World} (h : QI B vr qs S pre A) (hb : Below A.heap.size A C) : QI B vr qs S pre C :=
  h.grown (grown_below hb) (fun k e => by cases e)
theorem QO.below {w : World} {B : Nat} {vr : Value} {ps : List (List Rul.Rl × Value)} {S : Nat → Prop} {pre : List (List UInt8)} {A C : World} (h : QO w B vr ps S pre A) (hb : Below A.heap.size A C) : QO w B vr ps S pre C :=
  h.grown (grown_below hb) (fun k e => by cases e)
end Go.Proofs.YtainindkndjkbaaGreatDoor
namespace Go.Proofs.YtainindkndjkbaaGreatDoor
open Go.RowKit

/-- all but the operand's name -/
def relR (mod : Int) (rs : List (Int × Int)) : Bool := decide (0 ≤ mod) && decide (mod ≤ 1000000) && !rs.isEmpty && rs.all Rul.rngOk

set_option maxRecDepth 100000 in
set_option maxHeartbeats 4000000 in
theorem relfault_at (opI mod : Int) (no : Bool) (rs : List (Int × Int)) (a : Option Addr) (n c : Nat) (w : World) (hs : SlAt 2 RngC w (.slice a n c) rs)
    (hop : opI = 110 ∨ opI = 105 ∨ opI = 118 ∨ opI = 119 ∨ opI = 102 ∨ opI = 116) :
    Calls Tryz.prog 84 #[.agg #[.int .u8 opI, .int .i64 mod, .bool no, .slice a n c]] w fun e w' => e = .returned (.bool (!relR mod rs)) ∧ Below w.heap.size w w' := by
  have HR := Lib.hid (show relR mod rs = (decide (0 ≤ mod) && decide (mod ≤ 1000000) && !rs.isEmpty && rs.all Rul.rngOk) from rfl)
  generalize relR mod rs = R at *
  obtain ⟨A, cap, e, hm, hcell⟩ := hs.spread
  injection e with e1 e2 e3
  subst e1 e2 e3
  have HC := Lib.hid hcell
  have hE : rs.isEmpty = decide ((rs.length : Int) = 0) := by cases rs <;> simp <;> omega
  rw [hE] at HR
  obtain ⟨n, hn⟩ : ∃ n, rs.length = n := ⟨_, rfl⟩
  rw [hn] at hm HR ⊢
  have HN := Lib.hid hn
  unfold maxLen at hm
  have W1 := Lib.hid (blw_alloc w (.cells #[.int .u8 opI, .int .i64 mod, .bool no, .slice a n c] 108))
  have B1 := Lib.hid (Boxed.made w #[.int .u8 opI, .int .i64 mod, .bool no, .slice a n c] 108)
  clear hs hcell hn hE
  rcases hop with rfl | rfl | rfl | rfl | rfl | rfl
  · skip
    by_cases h0 : mod < 0
    · obtain rfl : R = false := by rw [HR.out, dec_no (show ¬ 0 ≤ mod by omega)]; rfl
      have d0 : decide (mod < 0) = true := dec_yes h0
      go_enter Tryz.func84, Tryz.ntmps84
      go_wp2_with fail
      go_ret
      exact ⟨rfl, W1.out⟩
    · have d0 : decide (mod < 0) = false := dec_no h0
      by_cases h1 : 1000000 < mod
      · obtain rfl : R = false := by rw [HR.out, dec_yes (show 0 ≤ mod by omega), dec_no (show ¬ mod ≤ 1000000 by omega)]; rfl
        have d1 : decide (1000000 < mod) = true := dec_yes h1
        go_enter Tryz.func84, Tryz.ntmps84
        go_wp2_with fail
        go_ret
        exact ⟨rfl, W1.out⟩
      · have d1 : decide (1000000 < mod) = false := dec_no h1
        by_cases h2 : (n : Int) = 0
        · obtain rfl : R = false := by rw [HR.out, dec_yes (show 0 ≤ mod by omega), dec_yes (show mod ≤ 1000000 by omega), dec_yes h2]; rfl
          have e2 : ((n : Int) == 0) = true := beq_yes h2
          go_enter Tryz.func84, Tryz.ntmps84
          go_wp2_with fail
          go_ret
          exact ⟨rfl, W1.out⟩
        · obtain rfl : R = rs.all Rul.rngOk := by rw [HR.out, dec_yes (show 0 ≤ mod by omega), dec_yes (show mod ≤ 1000000 by omega), dec_no h2]; simp
          have e2 : ((n : Int) == 0) = false := beq_no h2
          clear HR
          go_enter Tryz.func84, Tryz.ntmps84
          go_wp2_with fail
          obtain ⟨v, hv⟩ : ∃ v, w.alloc (.cells #[.int .u8 110, .int .i64 mod, .bool no, .slice a n c] 108) = v := ⟨_, rfl⟩
          rw [hv] at W1 B1 ⊢
          clear hv
          clear h0 h1 h2 d0 d1 e2
          go_loopw [3] (fun i wr => ∃ k : Nat, i = .int .i64 k ∧ k ≤ n ∧ Hid (Drew v wr) ∧ Hid ((rs.take k).all Rul.rngOk = true)) (fun i _ => n - (RowKit.intOf i).toNat)
          case atStart => exact ⟨0, rfl, Nat.zero_le _, Drew.refl _, Lib.hid (by simp)⟩
          case round =>
            obtain ⟨k, rfl, hk, HD, HA⟩ := hrel
            have K3 := (B1.out.below HD.out.below).cell 3 _ rfl
            by_cases hlt : k < n
            · obtain ⟨x, hx⟩ : ∃ x, rs[k]? = some x := ⟨rs[k]'(by have := HN.out; omega), List.getElem?_eq_getElem (by have := HN.out; omega)⟩
              obtain ⟨b, off, rfl, hx0, hx1⟩ := HC.out k x hx
              have x0 := cell_keep (cell_keep hx0 W1.out) HD.out.below
              have x1 := cell_keep (cell_keep hx1 W1.out) HD.out.below
              have HT := Lib.hid (all_take (p := Rul.rngOk) hx HA.out)
              have HF : Hid (Rul.rngOk x = false → rs.all Rul.rngOk = false) := Lib.hid fun h => by
                rw [List.all_eq_false]
                exact ⟨x, List.mem_of_getElem? hx, by rw [h]; decide⟩
              have HO := Lib.hid (show Rul.rngOk x = (decide (0 ≤ x.1) && decide (x.1 ≤ x.2) && decide (x.2 ≤ 1000000)) from rfl)
              clear hx hx0 hx1
              obtain ⟨p, q⟩ := x
              dsimp only at *
              have k0 : (0 : Int) ≤ (k : Int) := by omega
              have k1 : (k : Int) < (n : Int) := by omega
              by_cases g0 : p < 0
              · have gd : decide (p < 0) = true := dec_yes g0
                have hf := HF.out (by rw [HO.out, dec_no (show ¬ 0 ≤ p by omega)]; rfl)
                go_wp2_with fail
                go_region
                go_wp2_with fail
                go_ret
                exact ⟨ret_bool (by rw [hf]; rfl), W1.out.trans (Below.mono (Below.drew HD.out.below) W1.out.size)⟩
              · have gd : decide (p < 0) = false := dec_no g0
                by_cases g1 : q < p
                · have gd1 : decide (q < p) = true := dec_yes g1
                  have hf := HF.out (by rw [HO.out, dec_no (show ¬ p ≤ q by omega)]; simp)
                  go_wp2_with fail
                  go_region
                  go_wp2_with fail
                  go_ret
                  exact ⟨ret_bool (by rw [hf]; rfl), W1.out.trans (Below.mono (Below.drew HD.out.below) W1.out.size)⟩
                · have gd1 : decide (q < p) = false := dec_no g1
                  by_cases g2 : 1000000 < q
                  · have gd2 : decide (1000000 < q) = true := dec_yes g2
                    have hf := HF.out (by rw [HO.out, dec_no (show ¬ q ≤ 1000000 by omega)]; simp)
                    go_wp2_with fail
                    go_region
                    go_wp2_with fail
                    go_ret
                    exact ⟨ret_bool (by rw [hf]; rfl), W1.out.trans (Below.mono (Below.drew HD.out.below) W1.out.size)⟩
                  · have gd2 : decide (1000000 < q) = false := dec_no g2
                    have ht := Lib.hid (HT.out (by rw [HO.out, dec_yes (show 0 ≤ p by omega), dec_yes (show p ≤ q by omega), dec_yes (show q ≤ 1000000 by omega)]; rfl))
                    go_wp2_with fail
                    go_region
                    go_wp2_with fail
                    go_roundw
                    case rel => exact ⟨k + 1, by go_num, by omega, Lib.hid (HD.out.drewN 1), ht⟩
                    case measure => simp [RowKit.intOf]; omega
            · have e : k = n := by omega
              subst e
              have hf : rs.all Rul.rngOk = true := by have := HA.out; rwa [List.take_of_length_le (by have := HN.out; omega)] at this
              go_wp2_with fail
              go_ret
              exact ⟨ret_bool (by rw [hf]; rfl), W1.out.trans (Below.mono HD.out.below W1.out.size)⟩
  · skip
    by_cases h0 : mod < 0
    · obtain rfl : R = false := by rw [HR.out, dec_no (show ¬ 0 ≤ mod by omega)]; rfl
      have d0 : decide (mod < 0) = true := dec_yes h0
      go_enter Tryz.func84, Tryz.ntmps84
      go_wp2_with fail
      go_ret
      exact ⟨rfl, W1.out⟩
    · have d0 : decide (mod < 0) = false := dec_no h0
      by_cases h1 : 1000000 < mod
      · obtain rfl : R = false := by rw [HR.out, dec_yes (show 0 ≤ mod by omega), dec_no (show ¬ mod ≤ 1000000 by omega)]; rfl
        have d1 : decide (1000000 < mod) = true := dec_yes h1
        go_enter Tryz.func84, Tryz.ntmps84
        go_wp2_with fail
        go_ret
        exact ⟨rfl, W1.out⟩
      · have d1 : decide (1000000 < mod) = false := dec_no h1
        by_cases h2 : (n : Int) = 0
        · obtain rfl : R = false := by rw [HR.out, dec_yes (show 0 ≤ mod by omega), dec_yes (show mod ≤ 1000000 by omega), dec_yes h2]; rfl
          have e2 : ((n : Int) == 0) = true := beq_yes h2
          go_enter Tryz.func84, Tryz.ntmps84
          go_wp2_with fail
          go_ret
          exact ⟨rfl, W1.out⟩
        · obtain rfl : R = rs.all Rul.rngOk := by rw [HR.out, dec_yes (show 0 ≤ mod by omega), dec_yes (show mod ≤ 1000000 by omega), dec_no h2]; simp
          have e2 : ((n : Int) == 0) = false := beq_no h2
          clear HR
          go_enter Tryz.func84, Tryz.ntmps84
          go_wp2_with fail
          obtain ⟨v, hv⟩ : ∃ v, w.alloc (.cells #[.int .u8 105, .int .i64 mod, .bool no, .slice a n c] 108) = v := ⟨_, rfl⟩
          rw [hv] at W1 B1 ⊢
          clear hv
          clear h0 h1 h2 d0 d1 e2
          go_loopw [3] (fun i wr => ∃ k : Nat, i = .int .i64 k ∧ k ≤ n ∧ Hid (Drew v wr) ∧ Hid ((rs.take k).all Rul.rngOk = true)) (fun i _ => n - (RowKit.intOf i).toNat)
          case atStart => exact ⟨0, rfl, Nat.zero_le _, Drew.refl _, Lib.hid (by simp)⟩
          case round =>
            obtain ⟨k, rfl, hk, HD, HA⟩ := hrel
            have K3 := (B1.out.below HD.out.below).cell 3 _ rfl
            by_cases hlt : k < n
            · obtain ⟨x, hx⟩ : ∃ x, rs[k]? = some x := ⟨rs[k]'(by have := HN.out; omega), List.getElem?_eq_getElem (by have := HN.out; omega)⟩
              obtain ⟨b, off, rfl, hx0, hx1⟩ := HC.out k x hx
              have x0 := cell_keep (cell_keep hx0 W1.out) HD.out.below
              have x1 := cell_keep (cell_keep hx1 W1.out) HD.out.below
              have HT := Lib.hid (all_take (p := Rul.rngOk) hx HA.out)
              have HF : Hid (Rul.rngOk x = false → rs.all Rul.rngOk = false) := Lib.hid fun h => by
                rw [List.all_eq_false]
                exact ⟨x, List.mem_of_getElem? hx, by rw [h]; decide⟩
              have HO := Lib.hid (show Rul.rngOk x = (decide (0 ≤ x.1) && decide (x.1 ≤ x.2) && decide (x.2 ≤ 1000000)) from rfl)
              clear hx hx0 hx1
              obtain ⟨p, q⟩ := x
              dsimp only at *
              have k0 : (0 : Int) ≤ (k : Int) := by omega
              have k1 : (k : Int) < (n : Int) := by omega
              by_cases g0 : p < 0
              · have gd : decide (p < 0) = true := dec_yes g0
                have hf := HF.out (by rw [HO.out, dec_no (show ¬ 0 ≤ p by omega)]; rfl)
                go_wp2_with fail
                go_region
                go_wp2_with fail
                go_ret
                exact ⟨ret_bool (by rw [hf]; rfl), W1.out.trans (Below.mono (Below.drew HD.out.below) W1.out.size)⟩
              · have gd : decide (p < 0) = false := dec_no g0
                by_cases g1 : q < p
                · have gd1 : decide (q < p) = true := dec_yes g1
                  have hf := HF.out (by rw [HO.out, dec_no (show ¬ p ≤ q by omega)]; simp)
                  go_wp2_with fail
                  go_region
                  go_wp2_with fail
                  go_ret
                  exact ⟨ret_bool (by rw [hf]; rfl), W1.out.trans (Below.mono (Below.drew HD.out.below) W1.out.size)⟩
                · have gd1 : decide (q < p) = false := dec_no g1
                  by_cases g2 : 1000000 < q
                  · have gd2 : decide (1000000 < q) = true := dec_yes g2
                    have hf := HF.out (by rw [HO.out, dec_no (show ¬ q ≤ 1000000 by omega)]; simp)
                    go_wp2_with fail
                    go_region
                    go_wp2_with fail
                    go_ret
                    exact ⟨ret_bool (by rw [hf]; rfl), W1.out.trans (Below.mono (Below.drew HD.out.below) W1.out.size)⟩
                  · have gd2 : decide (1000000 < q) = false := dec_no g2
                    have ht := Lib.hid (HT.out (by rw [HO.out, dec_yes (show 0 ≤ p by omega), dec_yes (show p ≤ q by omega), dec_yes (show q ≤ 1000000 by omega)]; rfl))
                    go_wp2_with fail
                    go_region
                    go_wp2_with fail
                    go_roundw
                    case rel => exact ⟨k + 1, by go_num, by omega, Lib.hid (HD.out.drewN 1), ht⟩
                    case measure => simp [RowKit.intOf]; omega
            · have e : k = n := by omega
              subst e
              have hf : rs.all Rul.rngOk = true := by have := HA.out; rwa [List.take_of_length_le (by have := HN.out; omega)] at this
              go_wp2_with fail
              go_ret
              exact ⟨ret_bool (by rw [hf]; rfl), W1.out.trans (Below.mono HD.out.below W1.out.size)⟩
  · skip
    by_cases h0 : mod < 0
    · obtain rfl : R = false := by rw [HR.out, dec_no (show ¬ 0 ≤ mod by omega)]; rfl
      have d0 : decide (mod < 0) = true := dec_yes h0
      go_enter Tryz.func84, Tryz.ntmps84
      go_wp2_with fail
      go_ret
      exact ⟨rfl, W1.out⟩
    · have d0 : decide (mod < 0) = false := dec_no h0
      by_cases h1 : 1000000 < mod
      · obtain rfl : R = false := by rw [HR.out, dec_yes (show 0 ≤ mod by omega), dec_no (show ¬ mod ≤ 1000000 by omega)]; rfl
        have d1 : decide (1000000 < mod) = true := dec_yes h1
        go_enter Tryz.func84, Tryz.ntmps84
        go_wp2_with fail
        go_ret
        exact ⟨rfl, W1.out⟩
      · have d1 : decide (1000000 < mod) = false := dec_no h1
        by_cases h2 : (n : Int) = 0
        · obtain rfl : R = false := by rw [HR.out, dec_yes (show 0 ≤ mod by omega), dec_yes (show mod ≤ 1000000 by omega), dec_yes h2]; rfl
          have e2 : ((n : Int) == 0) = true := beq_yes h2
          go_enter Tryz.func84, Tryz.ntmps84
          go_wp2_with fail
          go_ret
          exact ⟨rfl, W1.out⟩
        · obtain rfl : R = rs.all Rul.rngOk := by rw [HR.out, dec_yes (show 0 ≤ mod by omega), dec_yes (show mod ≤ 1000000 by omega), dec_no h2]; simp
          have e2 : ((n : Int) == 0) = false := beq_no h2
          clear HR
          go_enter Tryz.func84, Tryz.ntmps84
          go_wp2_with fail
          obtain ⟨v, hv⟩ : ∃ v, w.alloc (.cells #[.int .u8 118, .int .i64 mod, .bool no, .slice a n c] 108) = v := ⟨_, rfl⟩
          rw [hv] at W1 B1 ⊢
          clear hv
          clear h0 h1 h2 d0 d1 e2
          go_loopw [3] (fun i wr => ∃ k : Nat, i = .int .i64 k ∧ k ≤ n ∧ Hid (Drew v wr) ∧ Hid ((rs.take k).all Rul.rngOk = true)) (fun i _ => n - (RowKit.intOf i).toNat)
          case atStart => exact ⟨0, rfl, Nat.zero_le _, Drew.refl _, Lib.hid (by simp)⟩
          case round =>
            obtain ⟨k, rfl, hk, HD, HA⟩ := hrel
            have K3 := (B1.out.below HD.out.below).cell 3 _ rfl
            by_cases hlt : k < n
            · obtain ⟨x, hx⟩ : ∃ x, rs[k]? = some x := ⟨rs[k]'(by have := HN.out; omega), List.getElem?_eq_getElem (by have := HN.out; omega)⟩
              obtain ⟨b, off, rfl, hx0, hx1⟩ := HC.out k x hx
              have x0 := cell_keep (cell_keep hx0 W1.out) HD.out.below
              have x1 := cell_keep (cell_keep hx1 W1.out) HD.out.below
              have HT := Lib.hid (all_take (p := Rul.rngOk) hx HA.out)
              have HF : Hid (Rul.rngOk x = false → rs.all Rul.rngOk = false) := Lib.hid fun h => by
                rw [List.all_eq_false]
                exact ⟨x, List.mem_of_getElem? hx, by rw [h]; decide⟩
              have HO := Lib.hid (show Rul.rngOk x = (decide (0 ≤ x.1) && decide (x.1 ≤ x.2) && decide (x.2 ≤ 1000000)) from rfl)
              clear hx hx0 hx1
              obtain ⟨p, q⟩ := x
              dsimp only at *
              have k0 : (0 : Int) ≤ (k : Int) := by omega
              have k1 : (k : Int) < (n : Int) := by omega
              by_cases g0 : p < 0
              · have gd : decide (p < 0) = true := dec_yes g0
                have hf := HF.out (by rw [HO.out, dec_no (show ¬ 0 ≤ p by omega)]; rfl)
                go_wp2_with fail
                go_region
                go_wp2_with fail
                go_ret
                exact ⟨ret_bool (by rw [hf]; rfl), W1.out.trans (Below.mono (Below.drew HD.out.below) W1.out.size)⟩
              · have gd : decide (p < 0) = false := dec_no g0
                by_cases g1 : q < p
                · have gd1 : decide (q < p) = true := dec_yes g1
                  have hf := HF.out (by rw [HO.out, dec_no (show ¬ p ≤ q by omega)]; simp)
                  go_wp2_with fail
                  go_region
                  go_wp2_with fail
                  go_ret
                  exact ⟨ret_bool (by rw [hf]; rfl), W1.out.trans (Below.mono (Below.drew HD.out.below) W1.out.size)⟩
                · have gd1 : decide (q < p) = false := dec_no g1
                  by_cases g2 : 1000000 < q
                  · have gd2 : decide (1000000 < q) = true := dec_yes g2
                    have hf := HF.out (by rw [HO.out, dec_no (show ¬ q ≤ 1000000 by omega)]; simp)
                    go_wp2_with fail
                    go_region
                    go_wp2_with fail
                    go_ret
                    exact ⟨ret_bool (by rw [hf]; rfl), W1.out.trans (Below.mono (Below.drew HD.out.below) W1.out.size)⟩
                  · have gd2 : decide (1000000 < q) = false := dec_no g2
                    have ht := Lib.hid (HT.out (by rw [HO.out, dec_yes (show 0 ≤ p by omega), dec_yes (show p ≤ q by omega), dec_yes (show q ≤ 1000000 by omega)]; rfl))
                    go_wp2_with fail
                    go_region
                    go_wp2_with fail
                    go_roundw
                    case rel => exact ⟨k + 1, by go_num, by omega, Lib.hid (HD.out.drewN 1), ht⟩
                    case measure => simp [RowKit.intOf]; omega
            · have e : k = n := by omega
              subst e
              have hf : rs.all Rul.rngOk = true := by have := HA.out; rwa [List.take_of_length_le (by have := HN.out; omega)] at this
              go_wp2_with fail
              go_ret
              exact ⟨ret_bool (by rw [hf]; rfl), W1.out.trans (Below.mono HD.out.below W1.out.size)⟩
  · skip
    by_cases h0 : mod < 0
    · obtain rfl : R = false := by rw [HR.out, dec_no (show ¬ 0 ≤ mod by omega)]; rfl
      have d0 : decide (mod < 0) = true := dec_yes h0
      go_enter Tryz.func84, Tryz.ntmps84
      go_wp2_with fail
      go_ret
      exact ⟨rfl, W1.out⟩
    · have d0 : decide (mod < 0) = false := dec_no h0
      by_cases h1 : 1000000 < mod
      · obtain rfl : R = false := by rw [HR.out, dec_yes (show 0 ≤ mod by omega), dec_no (show ¬ mod ≤ 1000000 by omega)]; rfl
        have d1 : decide (1000000 < mod) = true := dec_yes h1
        go_enter Tryz.func84, Tryz.ntmps84
        go_wp2_with fail
        go_ret
        exact ⟨rfl, W1.out⟩
      · have d1 : decide (1000000 < mod) = false := dec_no h1
        by_cases h2 : (n : Int) = 0
        · obtain rfl : R = false := by rw [HR.out, dec_yes (show 0 ≤ mod by omega), dec_yes (show mod ≤ 1000000 by omega), dec_yes h2]; rfl
          have e2 : ((n : Int) == 0) = true := beq_yes h2
          go_enter Tryz.func84, Tryz.ntmps84
          go_wp2_with fail
          go_ret
          exact ⟨rfl, W1.out⟩
        · obtain rfl : R = rs.all Rul.rngOk := by rw [HR.out, dec_yes (show 0 ≤ mod by omega), dec_yes (show mod ≤ 1000000 by omega), dec_no h2]; simp
          have e2 : ((n : Int) == 0) = false := beq_no h2
          clear HR
          go_enter Tryz.func84, Tryz.ntmps84
          go_wp2_with fail
          obtain ⟨v, hv⟩ : ∃ v, w.alloc (.cells #[.int .u8 119, .int .i64 mod, .bool no, .slice a n c] 108) = v := ⟨_, rfl⟩
          rw [hv] at W1 B1 ⊢
          clear hv
          clear h0 h1 h2 d0 d1 e2
          go_loopw [3] (fun i wr => ∃ k : Nat, i = .int .i64 k ∧ k ≤ n ∧ Hid (Drew v wr) ∧ Hid ((rs.take k).all Rul.rngOk = true)) (fun i _ => n - (RowKit.intOf i).toNat)
          case atStart => exact ⟨0, rfl, Nat.zero_le _, Drew.refl _, Lib.hid (by simp)⟩
          case round =>
            obtain ⟨k, rfl, hk, HD, HA⟩ := hrel
            have K3 := (B1.out.below HD.out.below).cell 3 _ rfl
            by_cases hlt : k < n
            · obtain ⟨x, hx⟩ : ∃ x, rs[k]? = some x := ⟨rs[k]'(by have := HN.out; omega), List.getElem?_eq_getElem (by have := HN.out; omega)⟩
              obtain ⟨b, off, rfl, hx0, hx1⟩ := HC.out k x hx
              have x0 := cell_keep (cell_keep hx0 W1.out) HD.out.below
              have x1 := cell_keep (cell_keep hx1 W1.out) HD.out.below
              have HT := Lib.hid (all_take (p := Rul.rngOk) hx HA.out)
              have HF : Hid (Rul.rngOk x = false → rs.all Rul.rngOk = false) := Lib.hid fun h => by
                rw [List.all_eq_false]
                exact ⟨x, List.mem_of_getElem? hx, by rw [h]; decide⟩
              have HO := Lib.hid (show Rul.rngOk x = (decide (0 ≤ x.1) && decide (x.1 ≤ x.2) && decide (x.2 ≤ 1000000)) from rfl)
              clear hx hx0 hx1
              obtain ⟨p, q⟩ := x
              dsimp only at *
              have k0 : (0 : Int) ≤ (k : Int) := by omega
              have k1 : (k : Int) < (n : Int) := by omega
              by_cases g0 : p < 0
              · have gd : decide (p < 0) = true := dec_yes g0
                have hf := HF.out (by rw [HO.out, dec_no (show ¬ 0 ≤ p by omega)]; rfl)
                go_wp2_with fail
                go_region
                go_wp2_with fail
                go_ret
                exact ⟨ret_bool (by rw [hf]; rfl), W1.out.trans (Below.mono (Below.drew HD.out.below) W1.out.size)⟩
              · have gd : decide (p < 0) = false := dec_no g0
                by_cases g1 : q < p
                · have gd1 : decide (q < p) = true := dec_yes g1
                  have hf := HF.out (by rw [HO.out, dec_no (show ¬ p ≤ q by omega)]; simp)
                  go_wp2_with fail
                  go_region
                  go_wp2_with fail
                  go_ret
                  exact ⟨ret_bool (by rw [hf]; rfl), W1.out.trans (Below.mono (Below.drew HD.out.below) W1.out.size)⟩
                · have gd1 : decide (q < p) = false := dec_no g1
                  by_cases g2 : 1000000 < q
                  · have gd2 : decide (1000000 < q) = true := dec_yes g2
                    have hf := HF.out (by rw [HO.out, dec_no (show ¬ q ≤ 1000000 by omega)]; simp)
                    go_wp2_with fail
                    go_region
                    go_wp2_with fail
                    go_ret
                    exact ⟨ret_bool (by rw [hf]; rfl), W1.out.trans (Below.mono (Below.drew HD.out.below) W1.out.size)⟩
                  · have gd2 : decide (1000000 < q) = false := dec_no g2
                    have ht := Lib.hid (HT.out (by rw [HO.out, dec_yes (show 0 ≤ p by omega), dec_yes (show p ≤ q by omega), dec_yes (show q ≤ 1000000 by omega)]; rfl))
                    go_wp2_with fail
                    go_region
                    go_wp2_with fail
                    go_roundw
                    case rel => exact ⟨k + 1, by go_num, by omega, Lib.hid (HD.out.drewN 1), ht⟩
                    case measure => simp [RowKit.intOf]; omega
            · have e : k = n := by omega
              subst e
              have hf : rs.all Rul.rngOk = true := by have := HA.out; rwa [List.take_of_length_le (by have := HN.out; omega)] at this
              go_wp2_with fail
              go_ret
              exact ⟨ret_bool (by rw [hf]; rfl), W1.out.trans (Below.mono HD.out.below W1.out.size)⟩
  · skip
    by_cases h0 : mod < 0
    · obtain rfl : R = false := by rw [HR.out, dec_no (show ¬ 0 ≤ mod by omega)]; rfl
      have d0 : decide (mod < 0) = true := dec_yes h0
      go_enter Tryz.func84, Tryz.ntmps84
      go_wp2_with fail
      go_ret
      exact ⟨rfl, W1.out⟩
    · have d0 : decide (mod < 0) = false := dec_no h0
      by_cases h1 : 1000000 < mod
      · obtain rfl : R = false := by rw [HR.out, dec_yes (show 0 ≤ mod by omega), dec_no (show ¬ mod ≤ 1000000 by omega)]; rfl
        have d1 : decide (1000000 < mod) = true := dec_yes h1
        go_enter Tryz.func84, Tryz.ntmps84
        go_wp2_with fail
        go_ret
        exact ⟨rfl, W1.out⟩
      · have d1 : decide (1000000 < mod) = false := dec_no h1
        by_cases h2 : (n : Int) = 0
        · obtain rfl : R = false := by rw [HR.out, dec_yes (show 0 ≤ mod by omega), dec_yes (show mod ≤ 1000000 by omega), dec_yes h2]; rfl
          have e2 : ((n : Int) == 0) = true := beq_yes h2
          go_enter Tryz.func84, Tryz.ntmps84
          go_wp2_with fail
          go_ret
          exact ⟨rfl, W1.out⟩
        · obtain rfl : R = rs.all Rul.rngOk := by rw [HR.out, dec_yes (show 0 ≤ mod by omega), dec_yes (show mod ≤ 1000000 by omega), dec_no h2]; simp
          have e2 : ((n : Int) == 0) = false := beq_no h2
          clear HR
          go_enter Tryz.func84, Tryz.ntmps84
          go_wp2_with fail
          obtain ⟨v, hv⟩ : ∃ v, w.alloc (.cells #[.int .u8 102, .int .i64 mod, .bool no, .slice a n c] 108) = v := ⟨_, rfl⟩
          rw [hv] at W1 B1 ⊢
          clear hv
          clear h0 h1 h2 d0 d1 e2
          go_loopw [3] (fun i wr => ∃ k : Nat, i = .int .i64 k ∧ k ≤ n ∧ Hid (Drew v wr) ∧ Hid ((rs.take k).all Rul.rngOk = true)) (fun i _ => n - (RowKit.intOf i).toNat)
          case atStart => exact ⟨0, rfl, Nat.zero_le _, Drew.refl _, Lib.hid (by simp)⟩
          case round =>
            obtain ⟨k, rfl, hk, HD, HA⟩ := hrel
            have K3 := (B1.out.below HD.out.below).cell 3 _ rfl
            by_cases hlt : k < n
            · obtain ⟨x, hx⟩ : ∃ x, rs[k]? = some x := ⟨rs[k]'(by have := HN.out; omega), List.getElem?_eq_getElem (by have := HN.out; omega)⟩
              obtain ⟨b, off, rfl, hx0, hx1⟩ := HC.out k x hx
              have x0 := cell_keep (cell_keep hx0 W1.out) HD.out.below
              have x1 := cell_keep (cell_keep hx1 W1.out) HD.out.below
              have HT := Lib.hid (all_take (p := Rul.rngOk) hx HA.out)
              have HF : Hid (Rul.rngOk x = false → rs.all Rul.rngOk = false) := Lib.hid fun h => by
                rw [List.all_eq_false]
                exact ⟨x, List.mem_of_getElem? hx, by rw [h]; decide⟩
              have HO := Lib.hid (show Rul.rngOk x = (decide (0 ≤ x.1) && decide (x.1 ≤ x.2) && decide (x.2 ≤ 1000000)) from rfl)
              clear hx hx0 hx1
              obtain ⟨p, q⟩ := x
              dsimp only at *
              have k0 : (0 : Int) ≤ (k : Int) := by omega
              have k1 : (k : Int) < (n : Int) := by omega
              by_cases g0 : p < 0
              · have gd : decide (p < 0) = true := dec_yes g0
                have hf := HF.out (by rw [HO.out, dec_no (show ¬ 0 ≤ p by omega)]; rfl)
                go_wp2_with fail
                go_region
                go_wp2_with fail
                go_ret
                exact ⟨ret_bool (by rw [hf]; rfl), W1.out.trans (Below.mono (Below.drew HD.out.below) W1.out.size)⟩
              · have gd : decide (p < 0) = false := dec_no g0
                by_cases g1 : q < p
                · have gd1 : decide (q < p) = true := dec_yes g1
                  have hf := HF.out (by rw [HO.out, dec_no (show ¬ p ≤ q by omega)]; simp)
                  go_wp2_with fail
                  go_region
                  go_wp2_with fail
                  go_ret
                  exact ⟨ret_bool (by rw [hf]; rfl), W1.out.trans (Below.mono (Below.drew HD.out.below) W1.out.size)⟩
                · have gd1 : decide (q < p) = false := dec_no g1
                  by_cases g2 : 1000000 < q
                  · have gd2 : decide (1000000 < q) = true := dec_yes g2
                    have hf := HF.out (by rw [HO.out, dec_no (show ¬ q ≤ 1000000 by omega)]; simp)
                    go_wp2_with fail
                    go_region
                    go_wp2_with fail
                    go_ret
                    exact ⟨ret_bool (by rw [hf]; rfl), W1.out.trans (Below.mono (Below.drew HD.out.below) W1.out.size)⟩
                  · have gd2 : decide (1000000 < q) = false := dec_no g2
                    have ht := Lib.hid (HT.out (by rw [HO.out, dec_yes (show 0 ≤ p by omega), dec_yes (show p ≤ q by omega), dec_yes (show q ≤ 1000000 by omega)]; rfl))
                    go_wp2_with fail
                    go_region
                    go_wp2_with fail
                    go_roundw
                    case rel => exact ⟨k + 1, by go_num, by omega, Lib.hid (HD.out.drewN 1), ht⟩
                    case measure => simp [RowKit.intOf]; omega
            · have e : k = n := by omega
              subst e
              have hf : rs.all Rul.rngOk = true := by have := HA.out; rwa [List.take_of_length_le (by have := HN.out; omega)] at this
              go_wp2_with fail
              go_ret
              exact ⟨ret_bool (by rw [hf]; rfl), W1.out.trans (Below.mono HD.out.below W1.out.size)⟩
  · skip
    by_cases h0 : mod < 0
    · obtain rfl : R = false := by rw [HR.out, dec_no (show ¬ 0 ≤ mod by omega)]; rfl
      have d0 : decide (mod < 0) = true := dec_yes h0
      go_enter Tryz.func84, Tryz.ntmps84
      go_wp2_with fail
      go_ret
      exact ⟨rfl, W1.out⟩
    · have d0 : decide (mod < 0) = false := dec_no h0
      by_cases h1 : 1000000 < mod
      · obtain rfl : R = false := by rw [HR.out, dec_yes (show 0 ≤ mod by omega), dec_no (show ¬ mod ≤ 1000000 by omega)]; rfl
        have d1 : decide (1000000 < mod) = true := dec_yes h1
        go_enter Tryz.func84, Tryz.ntmps84
        go_wp2_with fail
        go_ret
        exact ⟨rfl, W1.out⟩
      · have d1 : decide (1000000 < mod) = false := dec_no h1
        by_cases h2 : (n : Int) = 0
        · obtain rfl : R = false := by rw [HR.out, dec_yes (show 0 ≤ mod by omega), dec_yes (show mod ≤ 1000000 by omega), dec_yes h2]; rfl
          have e2 : ((n : Int) == 0) = true := beq_yes h2
          go_enter Tryz.func84, Tryz.ntmps84
          go_wp2_with fail
          go_ret
          exact ⟨rfl, W1.out⟩
        · obtain rfl : R = rs.all Rul.rngOk := by rw [HR.out, dec_yes (show 0 ≤ mod by omega), dec_yes (show mod ≤ 1000000 by omega), dec_no h2]; simp
          have e2 : ((n : Int) == 0) = false := beq_no h2
          clear HR
          go_enter Tryz.func84, Tryz.ntmps84
          go_wp2_with fail
          obtain ⟨v, hv⟩ : ∃ v, w.alloc (.cells #[.int .u8 116, .int .i64 mod, .bool no, .slice a n c] 108) = v := ⟨_, rfl⟩
          rw [hv] at W1 B1 ⊢
          clear hv
          clear h0 h1 h2 d0 d1 e2
          go_loopw [3] (fun i wr => ∃ k : Nat, i = .int .i64 k ∧ k ≤ n ∧ Hid (Drew v wr) ∧ Hid ((rs.take k).all Rul.rngOk = true)) (fun i _ => n - (RowKit.intOf i).toNat)
          case atStart => exact ⟨0, rfl, Nat.zero_le _, Drew.refl _, Lib.hid (by simp)⟩
          case round =>
            obtain ⟨k, rfl, hk, HD, HA⟩ := hrel
            have K3 := (B1.out.below HD.out.below).cell 3 _ rfl
            by_cases hlt : k < n
            · obtain ⟨x, hx⟩ : ∃ x, rs[k]? = some x := ⟨rs[k]'(by have := HN.out; omega), List.getElem?_eq_getElem (by have := HN.out; omega)⟩
              obtain ⟨b, off, rfl, hx0, hx1⟩ := HC.out k x hx
              have x0 := cell_keep (cell_keep hx0 W1.out) HD.out.below
              have x1 := cell_keep (cell_keep hx1 W1.out) HD.out.below
              have HT := Lib.hid (all_take (p := Rul.rngOk) hx HA.out)
              have HF : Hid (Rul.rngOk x = false → rs.all Rul.rngOk = false) := Lib.hid fun h => by
                rw [List.all_eq_false]
                exact ⟨x, List.mem_of_getElem? hx, by rw [h]; decide⟩
              have HO := Lib.hid (show Rul.rngOk x = (decide (0 ≤ x.1) && decide (x.1 ≤ x.2) && decide (x.2 ≤ 1000000)) from rfl)
              clear hx hx0 hx1
              obtain ⟨p, q⟩ := x
              dsimp only at *
              have k0 : (0 : Int) ≤ (k : Int) := by omega
              have k1 : (k : Int) < (n : Int) := by omega
              by_cases g0 : p < 0
              · have gd : decide (p < 0) = true := dec_yes g0
                have hf := HF.out (by rw [HO.out, dec_no (show ¬ 0 ≤ p by omega)]; rfl)
                go_wp2_with fail
                go_region
                go_wp2_with fail
                go_ret
                exact ⟨ret_bool (by rw [hf]; rfl), W1.out.trans (Below.mono (Below.drew HD.out.below) W1.out.size)⟩
              · have gd : decide (p < 0) = false := dec_no g0
                by_cases g1 : q < p
                · have gd1 : decide (q < p) = true := dec_yes g1
                  have hf := HF.out (by rw [HO.out, dec_no (show ¬ p ≤ q by omega)]; simp)
                  go_wp2_with fail
                  go_region
                  go_wp2_with fail
                  go_ret
                  exact ⟨ret_bool (by rw [hf]; rfl), W1.out.trans (Below.mono (Below.drew HD.out.below) W1.out.size)⟩
                · have gd1 : decide (q < p) = false := dec_no g1
                  by_cases g2 : 1000000 < q
                  · have gd2 : decide (1000000 < q) = true := dec_yes g2
                    have hf := HF.out (by rw [HO.out, dec_no (show ¬ q ≤ 1000000 by omega)]; simp)
                    go_wp2_with fail
                    go_region
                    go_wp2_with fail
                    go_ret
                    exact ⟨ret_bool (by rw [hf]; rfl), W1.out.trans (Below.mono (Below.drew HD.out.below) W1.out.size)⟩
                  · have gd2 : decide (1000000 < q) = false := dec_no g2
                    have ht := Lib.hid (HT.out (by rw [HO.out, dec_yes (show 0 ≤ p by omega), dec_yes (show p ≤ q by omega), dec_yes (show q ≤ 1000000 by omega)]; rfl))
                    go_wp2_with fail
                    go_region
                    go_wp2_with fail
                    go_roundw
                    case rel => exact ⟨k + 1, by go_num, by omega, Lib.hid (HD.out.drewN 1), ht⟩
                    case measure => simp [RowKit.intOf]; omega
            · have e : k = n := by omega
              subst e
              have hf : rs.all Rul.rngOk = true := by have := HA.out; rwa [List.take_of_length_le (by have := HN.out; omega)] at this
              go_wp2_with fail
              go_ret
              exact ⟨ret_bool (by rw [hf]; rfl), W1.out.trans (Below.mono HD.out.below W1.out.size)⟩
set_option maxRecDepth 100000 in
set_option maxHeartbeats 1000000 in
theorem relfault_bad (opI mod : Int) (no : Bool) (a : Option Addr) (n c : Nat) (w : World) (h0 : opI ≠ 110) (h1 : opI ≠ 105) (h2 : opI ≠ 118) (h3 : opI ≠ 119) (h4 : opI ≠ 102) (h5 : opI ≠ 116) :
    Calls Tryz.prog 84 #[.agg #[.int .u8 opI, .int .i64 mod, .bool no, .slice a n c]] w fun e w' => e = .returned (.bool true) ∧ Below w.heap.size w w' := by
  have e0 : (opI == 110) = false := beq_no h0
  have e1 : (opI == 105) = false := beq_no h1
  have e2 : (opI == 118) = false := beq_no h2
  have e3 : (opI == 119) = false := beq_no h3
  have e4 : (opI == 102) = false := beq_no h4
  have e5 : (opI == 116) = false := beq_no h5
  have f0 : (opI != 110) = true := by rw [bne, e0]; rfl
  have f1 : (opI != 105) = true := by rw [bne, e1]; rfl
  have f2 : (opI != 118) = true := by rw [bne, e2]; rfl
  have f3 : (opI != 119) = true := by rw [bne, e3]; rfl
  have f4 : (opI != 102) = true := by rw [bne, e4]; rfl
  have f5 : (opI != 116) = true := by rw [bne, e5]; rfl
  go_enter Tryz.func84, Tryz.ntmps84
  go_wp2_with fail
  go_ret
  exact ⟨rfl, blw_alloc _ _⟩
theorem op_num {c : UInt8} {k : Nat} (hk : k < 256) (h : c ≠ UInt8.ofNat k) : (c.toNat : Int) ≠ (k : Int) := fun e => h (by
  apply UInt8.toNat_inj.1
  rw [UInt8.toNat_ofNat']
  omega)
theorem relfault_any (x : Rul.Rl) (a : Option Addr) (n c : Nat) (w : World) (hs : SlAt 2 RngC w (.slice a n c) x.rs) :
    Calls Tryz.prog 84 #[.agg #[.int .u8 (x.op.toNat : Int), .int .i64 x.mod, .bool x.no, .slice a n c]] w fun e w' => e = .returned (.bool (!Rul.relOk x)) ∧ Below w.heap.size w w' := by
  by_cases h : Rul.opOk x.op = true
  · have e : Rul.relOk x = relR x.mod x.rs := by unfold Rul.relOk relR; rw [h]; simp
    rw [e]
    refine relfault_at _ x.mod x.no x.rs a n c w hs ?_
    rcases Rul.op_cases h with e | e | e | e | e | e <;> rw [e] <;> decide
  · have e : Rul.relOk x = false := by
      unfold Rul.relOk
      rw [show Rul.opOk x.op = false by simpa using h]; rfl
    rw [e]
    have hh : ∀ k : UInt8, k ∈ ([110, 105, 118, 119, 102, 116] : List UInt8) → x.op ≠ k := fun k hk e' => h (by unfold Rul.opOk; rw [e']; simpa using hk)
    exact relfault_bad _ x.mod x.no a n c w (op_num (k := 110) (by omega) (hh 110 (by simp))) (op_num (k := 105) (by omega) (hh 105 (by simp))) (op_num (k := 118) (by omega) (hh 118 (by simp))) (op_num (k := 119) (by omega) (hh 119 (by simp))) (op_num (k := 102) (by omega) (hh 102 (by simp))) (op_num (k := 116) (by omega) (hh 116 (by simp)))
end Go.Proofs.YtainindkndjkbaaGreatDoor
namespace Go.Proofs.YtainindkndjkbaaGreatDoor
open Go.RowKit

set_option maxRecDepth 100000 in
set_option maxHeartbeats 4000000 in
theorem rulefault_some (r : Rul.Rule) (b off cap n : Nat) (w : World) (hn : r.length = n) (h0 : 0 < n) (hm : n ≤ 1000000000) (hcn : Rul.count r ≤ 1000000000) (hc : ∀ (j : Nat) x, r[j]? = some x → PartC w b (off + j * 1) x) :
    Calls Tryz.prog 61 #[.slice (some ⟨b, off, none⟩) n cap] w fun e w' => e = .returned (.int .i64 (Rul.ruleE r)) ∧ Below w.heap.size w w' := by
  have HC := Lib.hid hc
  have HN := Lib.hid hn
  have HCN := Lib.hid hcn
  have n0 : ((n : Int) == 0) = false := beq_no (by omega)
  have HBP := Lib.hid fun k l (h : r[k]? = some l) (hb : Rul.partOk l = false) => bad_part h hb
  have HOK := Lib.hid fun (h : r.all Rul.partOk = true) => ruleE_ok (by omega) h
  generalize hE : Rul.ruleE r = E at *
  clear hc hn hcn hE
  go_enter Tryz.func61, Tryz.ntmps61
  go_wp2_with fail
  go_loopw [3, 4] (fun s i wr => ∃ k : Nat, i = .int .i64 k ∧ k ≤ n ∧ s = .int .i64 (Rul.count (r.take k) : Nat) ∧ Hid ((r.take k).all Rul.partOk = true) ∧ Hid (Below w.heap.size w wr)) (fun _ i _ => n - (RowKit.intOf i).toNat)
  case atStart => exact ⟨0, rfl, Nat.zero_le _, rfl, Lib.hid (by simp), Lib.hid (Below.refl _ _)⟩
  case round =>
    obtain ⟨k, rfl, hk, rfl, HA, HD⟩ := hrel
    by_cases hlt : k < n
    · obtain ⟨l, hl⟩ : ∃ x, r[k]? = some x := ⟨r[k]'(by have := HN.out; omega), List.getElem?_eq_getElem (by have := HN.out; omega)⟩
      have HLK := Lib.hid hl
      have hct := count_take hl
      have hcl := count_le hl
      have hcb := HCN.out
      obtain ⟨pa, pn, pc, p0, ps⟩ := HC.out k l hl
      rw [Nat.mul_one] at p0
      have x0 := cell_keep p0 HD.out
      obtain ⟨A1, cap1, e1, hm1, hcell1⟩ := ps.spread
      injection e1 with e1 e1' e1''
      subst e1 e1' e1''
      have P0 := Lib.hid p0
      have HC1 := Lib.hid hcell1
      obtain ⟨m, hmm⟩ : ∃ m, l.length = m := ⟨_, rfl⟩
      rw [hmm] at x0 P0 hct hcl
      have HX := Lib.hid hmm
      generalize hcc : Rul.count (r.take k) = cc at *
      generalize hc2 : Rul.count (r.take (k + 1)) = c2 at *
      have HC2 := Lib.hid hc2
      clear hl ps p0 hcell1 hm1 hmm hcc hc2
      have k0 : (0 : Int) ≤ (k : Int) := by omega
      have k1 : (k : Int) < (n : Int) := by omega
      by_cases hm0 : m = 0
      · subst hm0
        obtain rfl : E = 3 := HBP.out k l HLK.out (by
          have : l = [] := List.eq_nil_of_length_eq_zero HX.out
          rw [this]; rfl)
        go_wp2_with fail
        go_ret
        exact ⟨rfl, HD.out⟩
      · have m0 : ((m : Int) == 0) = false := beq_no (by omega)
        go_wp2_with fail
        go_loopw [3, 5] (fun s i wr => ∃ j : Nat, i = .int .i64 j ∧ j ≤ m ∧ s = .int .i64 ((cc + j : Nat) : Int) ∧ Hid ((l.take j).all Rul.relOk = true) ∧ Hid (Below w.heap.size w wr)) (fun _ i _ => m - (RowKit.intOf i).toNat)
        case atStart => exact ⟨0, rfl, Nat.zero_le _, rfl, Lib.hid (by simp), HD⟩
        case round =>
          obtain ⟨j, rfl, hj, rfl, HA2, HI⟩ := hrel
          have x1 := cell_keep P0.out HI.out
          by_cases hjm : j < m
          · obtain ⟨y, hy⟩ : ∃ y, l[j]? = some y := ⟨l[j]'(by have := HX.out; omega), List.getElem?_eq_getElem (by have := HX.out; omega)⟩
            obtain ⟨b1, o1, rfl, ra, rn, rc, r0, r1, r2, r3, rs⟩ := HC1.out j y hy
            have z0 := cell_keep r0 HI.out
            have z1 := cell_keep r1 HI.out
            have z2 := cell_keep r2 HI.out
            have z3 := cell_keep r3 HI.out
            have CS := Lib.hid (relfault_any y ra rn rc wr (rs.rngs_below HI.out))
            have HY := Lib.hid hy
            clear hy r0 r1 r2 r3 rs HC1
            have j0 : (0 : Int) ≤ (j : Int) := by omega
            have j1 : (j : Int) < (m : Int) := by omega
            cases ho : Rul.relOk y with
            | true =>
              rw [ho] at CS
              have HA3 := Lib.hid (all_take HY.out HA2.out ho)
              clear ho
              go_wp2_with fail
              refine CS.out.mono ?_
              rintro e w5 ⟨rfl, hb⟩
              have W5 := Lib.hid (blw_trans HI.out hb)
              clear hb CS z0 z1 z2 z3 x1
              go_wp2_with fail
              go_roundw
              case rel => exact ⟨j + 1, by go_num, by omega, by rw [show ((cc + (j + 1) : Nat) : Int) = ((cc + j : Nat) : Int) + 1 by omega]; first | rfl | go_num, HA3, W5⟩
              case measure => simp [RowKit.intOf]; omega
            | false =>
              rw [ho] at CS
              obtain rfl : E = 3 := HBP.out k l HLK.out (bad_rel HY.out ho)
              clear ho
              go_wp2_with fail
              refine CS.out.mono ?_
              rintro e w5 ⟨rfl, hb⟩
              have W5 := Lib.hid (blw_trans HI.out hb)
              clear hb CS z0 z1 z2 z3 x1
              go_wp2_with fail
              go_ret
              exact ⟨rfl, W5.out⟩
          · have e : j = m := by omega
            subst e
            have hp : Rul.partOk l = true := by
              have h2 := HA2.out
              rw [List.take_of_length_le (by have := HX.out; omega)] at h2
              unfold Rul.partOk
              rw [h2]
              have : l ≠ [] := fun e => by have h3 := HX.out; rw [e] at h3; simp at h3; omega
              cases l with
              | nil => exact absurd rfl this
              | cons => rfl
            have HA4 := Lib.hid (all_take HLK.out HA.out hp)
            clear hp
            go_wp2_with fail
            go_roundw
            case rel => exact ⟨k + 1, by go_num, by omega, by rw [HC2.out, hct], HA4, HI⟩
            case measure => simp [RowKit.intOf]; omega
    · have e : k = n := by omega
      subst e
      have hall : r.all Rul.partOk = true := by have := HA.out; rwa [List.take_of_length_le (by have := HN.out; omega)] at this
      have he := HOK.out hall
      have htk : Rul.count (r.take k) = Rul.count r := by rw [List.take_of_length_le (by have := HN.out; omega)]
      rw [htk]
      have hcb := HCN.out
      generalize Rul.count r = cr at *
      clear htk hall
      by_cases h20 : 20 < cr
      · have d : decide (20 < (cr : Int)) = true := dec_yes (by omega)
        rw [if_pos h20] at he
        subst he
        go_wp2_with fail
        go_ret
        exact ⟨rfl, HD.out⟩
      · have d : decide (20 < (cr : Int)) = false := dec_no (by omega)
        rw [if_neg h20] at he
        subst he
        go_wp2_with fail
        go_ret
        exact ⟨rfl, HD.out⟩
set_option maxHeartbeats 400000 in
theorem rulefault_none (A : Option Addr) (c : Nat) (w : World) : Calls Tryz.prog 61 #[.slice A 0 c] w fun e w' => e = .returned (.int .i64 3) ∧ Below w.heap.size w w' := by
  go_enter Tryz.func61, Tryz.ntmps61
  go_wp2_with fail
  go_ret
  exact ⟨rfl, Below.refl _ _⟩
theorem rulefault_any (r : Rul.Rule) (A : Option Addr) (n c : Nat) (w : World) (hr : SlAt 1 PartC w (.slice A n c) r) (hl : r.length ≤ 1000000000) (hc : Rul.count r ≤ 1000000000) :
    Calls Tryz.prog 61 #[.slice A n c] w fun e w' => e = .returned (.int .i64 (Rul.ruleE r)) ∧ Below w.heap.size w w' := by
  rcases hr with ⟨rfl, a, c', e⟩ | ⟨b, off, cap, e, h0, _, _, h3⟩
  · injection e with e1 e2 e3
    subst e2
    exact rulefault_none _ _ w
  · injection e with e1 e2 e3
    subst e1 e2 e3
    exact rulefault_some r b off _ _ w rfl h0 (by omega) hc h3
end Go.Proofs.YtainindkndjkbaaGreatDoor
namespace Go.Proofs.YtainindkndjkbaaGreatDoor
open Go.RowKit

/-- the text of a relation ahead of its ranges -/
def headQ (r : Rul.Rl) : List UInt8 := Rul.headT r ++ (if r.no then [32, 33, 61] else [32, 61])
/-- the text up to the k-th range -/
def txtQ (r : Rul.Rl) (k : Nat) : List UInt8 := if k = 0 then headQ r else headQ r ++ [32] ++ Lst.upto (r.rs.map Rul.rngT) [44] k
theorem txtQ_step (r : Rul.Rl) (k : Nat) (x : Int × Int) (h : r.rs[k]? = some x) : txtQ r (k + 1) = txtQ r k ++ (if k = 0 then [32] else [44]) ++ Rul.rngT x := by
  have hx : (r.rs.map Rul.rngT)[k]? = some (Rul.rngT x) := by rw [List.getElem?_map, h]; rfl
  unfold txtQ
  by_cases hk : k = 0
  · subst hk
    rw [if_neg (by omega), if_pos rfl, if_pos rfl, Lst.upto_one _ _ _ hx]
  · rw [if_neg (by omega), if_neg hk, if_neg hk, Lst.upto_succ _ _ _ _ (by omega) hx]
    simp [List.append_assoc]
theorem txtQ_all (r : Rul.Rl) (h : r.rs ≠ []) : txtQ r r.rs.length = Rul.relT r := by
  unfold txtQ
  rw [if_neg (by have := List.length_pos_iff.2 h; omega), Lst.upto_all _ _ _ (by simp)]
  unfold headQ Rul.relT
  cases r.no <;> simp [Rul.neS, Rul.eqS, List.append_assoc]
theorem txtQ_len (r : Rul.Rl) (hok : Rul.relOk r = true) (k : Nat) : (txtQ r k).length ≤ 20 + r.rs.length * 17 := by
  obtain ⟨_, _, h2, _, h4⟩ := Rul.relOk_parts hok
  have hd := Rul.dg_len h2
  have t := Rul.total_le (l := r.rs.map Rul.rngT) (sep := [44]) (k := 16) (fun x hx => by
    obtain ⟨p, hp, rfl⟩ := List.mem_map.1 hx
    exact Rul.rngT_len (h4 p hp))
  rw [List.length_map] at t
  have u := Lst.upto_le (r.rs.map Rul.rngT) [44] k
  have hh : (headQ r).length ≤ 14 := by
    unfold headQ Rul.headT
    split <;> split <;> simp only [List.length_append, List.length_cons, List.length_nil, Rul.pcS] <;> omega
  simp only [List.length_cons, List.length_nil] at t
  unfold txtQ
  split
  · omega
  · simp only [List.length_append, List.length_cons, List.length_nil]; omega

set_option maxRecDepth 100000 in
set_option maxHeartbeats 8000000 in
theorem rrt_any (r : Rul.Rl) (a : Option Addr) (n c : Nat) (w : World) (hs : SlAt 2 RngC w (.slice a n c) r.rs) (hok : Rul.relOk r = true) (hl : r.rs.length ≤ 100000001) :
    Calls Tryz.prog 85 #[.agg #[.int .u8 (r.op.toNat : Int), .int .i64 r.mod, .bool r.no, .slice a n c]] w fun e w' => e = .returned (.string ⟨(Rul.relT r).toArray⟩) ∧ Below w.heap.size w w' := by
  obtain ⟨hop, hm0, hm1, hne, hrk⟩ := Rul.relOk_parts hok
  have HALL := Lib.hid (txtQ_all r hne)
  have HSTEP := Lib.hid fun k x h => txtQ_step r k x h
  have HLEN := Lib.hid fun k => txtQ_len r hok k
  have HHD := Lib.hid (show txtQ r 0 = Rul.headT r ++ (if r.no then [32, 33, 61] else [32, 61]) from rfl)
  have HHT := Lib.hid (show Rul.headT r = if r.mod = 0 then [r.op] else [r.op] ++ [32, 37, 32] ++ Rul.dg r.mod from rfl)
  have HRK := Lib.hid hrk
  have hml := Rul.dg_len hm1
  generalize Rul.relT r = RT at *
  generalize txtQ r = TX at *
  generalize Rul.headT r = HT at *
  obtain ⟨op, mod, no, rs⟩ := r
  dsimp only at *
  obtain ⟨A, cap, e, hm, hcell⟩ := hs.spread
  injection e with e1 e2 e3
  subst e1 e2 e3
  have HC := Lib.hid hcell
  obtain ⟨n, hn⟩ : ∃ n, rs.length = n := ⟨_, rfl⟩
  rw [hn] at hm hl HALL HLEN ⊢
  have HN := Lib.hid hn
  unfold maxLen at hm
  have W1 := Lib.hid (blw_alloc w (.cells #[.int .u8 (op.toNat : Int), .int .i64 mod, .bool no, .slice a n c] 108))
  have B1 := Lib.hid (Boxed.made w #[.int .u8 (op.toNat : Int), .int .i64 mod, .bool no, .slice a n c] 108)
  have CD := Lib.hid fun (w : World) => digits_none mod w hm0 (by omega)
  clear hs hcell hn hrk hne hok hop
  have CV := conv_one (P := Tryz.prog) 173 9 5 Tryz.underlying173 Tryz.underlying5 Tryz.underlying9 (op.toNat : Int) (w.alloc (.cells #[.int .u8 (op.toNat : Int), .int .i64 mod, .bool no, .slice a n c] 108)) (by omega) (by have := op.toNat_lt; omega)
  rw [show UInt8.ofNat (op.toNat : Int).toNat = op by simp, World.size_alloc] at CV
  have hw2 : ∃ w2, (w.alloc (.cells #[.int .u8 (op.toNat : Int), .int .i64 mod, .bool no, .slice a n c] 108)).alloc (.cells #[.int .u8 (op.toNat : Int)] 5) = w2 := ⟨_, rfl⟩
  obtain ⟨w2, hw2⟩ := hw2
  rw [hw2] at CV
  have W2 := Lib.hid (show Below w.heap.size w w2 by rw [← hw2]; exact W1.out.alloc W1.out.size _)
  have B2 := Lib.hid (show Boxed w2 w.heap.size _ by rw [← hw2]; exact B1.out.alloc _)
  clear W1 B1
  have x1 := B2.out.cell 1 _ rfl
  have x2 := B2.out.cell 2 _ rfl
  have xl := B2.out.lt
  go_enter Tryz.func85, Tryz.ntmps85
  obtain ⟨TT, hTT⟩ : ∃ TT, TX 0 = TT := ⟨_, rfl⟩
  have HTT := Lib.hid hTT
  go_upto_if 11 with fail
  clear CV hw2
  go_cut [3] from 11 (fun s wx => s = .string ⟨HT.toArray⟩ ∧ Hid (Boxed wx w.heap.size #[.int .u8 (op.toNat : Int), .int .i64 mod, .bool no, .slice a n c]) ∧ Hid (Below w.heap.size w wx))
  case first =>
    by_cases hz : mod = 0
    · have d0 : decide (0 < mod) = false := dec_no (by omega)
      have hh := HHT.out
      rw [if_pos hz] at hh
      subst hh
      go_wp2_with fail
      go_meet
      exact ⟨rfl, B2, W2⟩
    · have hmp : 0 < mod := by omega
      have d0 : decide (0 < mod) = true := dec_yes hmp
      have hh := HHT.out
      rw [if_neg hz] at hh
      have ml : (Rul.dg mod).length ≤ 7 := hml
      obtain ⟨Y1, hY1⟩ : ∃ Y1, Y1 = [op] ++ [32, 37, 32] := ⟨_, rfl⟩
      obtain ⟨DG, hDG⟩ : ∃ DG, Rul.dg mod = DG := ⟨_, rfl⟩
      have CD2 : Hid (∀ w : World, Calls Tryz.prog 102 #[.int .i64 mod, .int .i64 0] w fun e w' => e = .returned (.string ⟨DG.toArray⟩) ∧ Below w.heap.size w w') := Lib.hid fun w => hDG ▸ CD.out w
      rw [hDG] at hh ml
      have A1 : ∀ w, (Op.stringOp .add ⟨[op].toArray⟩ ⟨#[32, 37, 32]⟩).run Tryz.prog w = .ok (.string ⟨Y1.toArray⟩) w := fun w => by rw [hY1]; exact add_str (P := Tryz.prog) [op] [32, 37, 32] (by simp) w
      have A2 : ∀ w, (Op.stringOp .add ⟨Y1.toArray⟩ ⟨DG.toArray⟩).run Tryz.prog w = .ok (.string ⟨HT.toArray⟩) w := fun w => by rw [hh, ← hY1]; exact add_str (P := Tryz.prog) Y1 DG (by rw [hY1]; simp; omega) w
      clear hY1 hh hDG hz CD
      go_wp2_with fail
      refine (CD2.out _).mono ?_
      rintro e w3 ⟨rfl, hb⟩
      have W3 := Lib.hid (blw_trans W2.out hb)
      have B3 := Lib.hid (B2.out.below hb)
      clear hb CD2
      go_wp2_with fail
      go_meet
      exact ⟨rfl, B3, W3⟩
  case rest =>
    obtain ⟨rfl, B4, W4⟩ := hcut
    clear CD B2 W2 x1 x2 xl
    have x2 := B4.out.cell 2 _ rfl
    have xl := B4.out.lt
    have hlen0 := HLEN.out 0
    have hhd := HHD.out
    go_upto_if 19 with fail
    go_cut [3] from 19 (fun s wx => s = .string ⟨TT.toArray⟩ ∧ wx = wc)
    case first =>
      have hHTl : HT.length ≤ 100000001 * 18 := by
        have h := hlen0
        rw [hhd, List.length_append] at h
        omega
      cases no with
      | true =>
        have A3 : ∀ w, (Op.stringOp .add ⟨HT.toArray⟩ ⟨#[32, 33, 61]⟩).run Tryz.prog w = .ok (.string ⟨TT.toArray⟩) w := fun w => by rw [← HTT.out, hhd]; exact add_str (P := Tryz.prog) HT [32, 33, 61] (by first | omega | (simp; omega)) w
        go_wp2_with fail
        go_meet
        exact ⟨rfl, rfl⟩
      | false =>
        have A3 : ∀ w, (Op.stringOp .add ⟨HT.toArray⟩ ⟨#[32, 61]⟩).run Tryz.prog w = .ok (.string ⟨TT.toArray⟩) w := fun w => by rw [← HTT.out, hhd]; exact add_str (P := Tryz.prog) HT [32, 61] (by first | omega | (simp; omega)) w
        go_wp2_with fail
        go_meet
        exact ⟨rfl, rfl⟩
    case rest =>
      obtain ⟨rfl, rfl⟩ := hcut
      clear hlen0 hhd HHD HHT x2 xl
      go_wp2_with fail
      go_loopw [3, 4] (fun s i wr => ∃ k : Nat, i = .int .i64 k ∧ k ≤ n ∧ s = .string ⟨(TX k).toArray⟩ ∧ Hid (Below w.heap.size w wr) ∧ Hid (Boxed wr w.heap.size #[.int .u8 (op.toNat : Int), .int .i64 mod, .bool no, .slice a n c])) (fun _ i _ => n - (RowKit.intOf i).toNat)
      case atStart => exact ⟨0, rfl, Nat.zero_le _, by rw [HTT.out], W4, B4⟩
      case round =>
        obtain ⟨k, rfl, hk, rfl, HD, HB⟩ := hrel
        have b3o := HB.out.cell 3 _ rfl
        have blo := HB.out.lt
        by_cases hlt : k < n
        · obtain ⟨x, hx⟩ : ∃ x, rs[k]? = some x := ⟨rs[k]'(by have := HN.out; omega), List.getElem?_eq_getElem (by have := HN.out; omega)⟩
          obtain ⟨b, off, rfl, hx0, hx1⟩ := HC.out k x hx
          have HX := Lib.hid (show ∀ wx, Below w.heap.size w wx → wx.cell? ⟨b, off + k * 2, none⟩ = some (.int .i64 x.1) ∧ wx.cell? ⟨b, off + k * 2 + 1, none⟩ = some (.int .i64 x.2) from fun wx hb => ⟨cell_keep hx0 hb, cell_keep hx1 hb⟩)
          have x0o := (HX.out wr HD.out).1
          have x1o := (HX.out wr HD.out).2
          have HST := Lib.hid (HSTEP.out k x hx)
          have hrg := HRK.out x (List.mem_of_getElem? hx)
          have lp := HLEN.out k
          have hrg' := hrg
          simp only [Rul.rngOk, Bool.and_eq_true, decide_eq_true_eq] at hrg'
          have HRT := Lib.hid (show Rul.rngT x = if x.1 = x.2 then Rul.dg x.1 else Rul.dg x.1 ++ [46, 46] ++ Rul.dg x.2 from rfl)
          have la := Rul.dg_len (v := x.1) (by omega)
          have lb := Rul.dg_len (v := x.2) (by omega)
          have CA : Hid (∀ w : World, Calls Tryz.prog 102 #[.int .i64 x.1, .int .i64 0] w fun e w' => e = .returned (.string ⟨(Rul.dg x.1).toArray⟩) ∧ Below w.heap.size w w') := Lib.hid fun w => digits_none x.1 w (by omega) (by omega)
          have CB : Hid (∀ w : World, Calls Tryz.prog 102 #[.int .i64 x.2, .int .i64 0] w fun e w' => e = .returned (.string ⟨(Rul.dg x.2).toArray⟩) ∧ Below w.heap.size w w') := Lib.hid fun w => digits_none x.2 w (by omega) (by omega)
          generalize Rul.rngT x = RX at *
          obtain ⟨p, q⟩ := x
          dsimp only at *
          generalize Rul.dg p = DA at *
          generalize Rul.dg q = DB at *
          obtain ⟨TN, hTN⟩ : ∃ TN, TX (k + 1) = TN := ⟨_, rfl⟩
          have HTN := Lib.hid hTN
          obtain ⟨P0, hP0⟩ : ∃ P0, TX k = P0 := ⟨_, rfl⟩
          rw [hP0] at HST lp ⊢
          clear hx hx0 hx1 hrg hTN hP0
          have k0 : (0 : Int) ≤ (k : Int) := by omega
          have k1 : (k : Int) < (n : Int) := by omega
          have hpq' : p ≤ q := by omega
          clear hrg'
          by_cases hk0 : k = 0
          · have HX2 := Lib.hid (show ∀ wx, Below w.heap.size w wx → wx.cell? ⟨b, off, none⟩ = some (.int .i64 p) ∧ wx.cell? ⟨b, off + 1, none⟩ = some (.int .i64 q) from fun wx hb => by have h := HX.out wx hb; rw [hk0] at h; simpa using h)
            rw [if_pos hk0] at HST
            subst hk0
            replace HX := HX2
            clear HX2
            replace x0o := (HX.out wr HD.out).1
            replace x1o := (HX.out wr HD.out).2
            have kz : (((0 : Nat) : Int) == 0) = true := rfl
            obtain ⟨Y1, hY1⟩ : ∃ Y1, Y1 = P0 ++ [32] := ⟨_, rfl⟩
            have l1 : Y1.length = P0.length + 1 := by rw [hY1]; simp
            have A1 : ∀ w, (Op.stringOp .add ⟨P0.toArray⟩ ⟨#[32]⟩).run Tryz.prog w = .ok (.string ⟨Y1.toArray⟩) w := fun w => by rw [hY1]; exact add_str (P := Tryz.prog) P0 [32] (by first | omega | (simp; omega)) w
            obtain ⟨Y2, hY2⟩ : ∃ Y2, Y2 = Y1 ++ DA := ⟨_, rfl⟩
            have l2 : Y2.length = Y1.length + DA.length := by rw [hY2]; simp
            have A2 : ∀ w, (Op.stringOp .add ⟨Y1.toArray⟩ ⟨DA.toArray⟩).run Tryz.prog w = .ok (.string ⟨Y2.toArray⟩) w := fun w => by rw [hY2]; exact add_str (P := Tryz.prog) Y1 DA (by first | omega | (simp; omega)) w
            have HY : Hid (Y2 = P0 ++ [32] ++ DA) := Lib.hid (by rw [hY2, hY1])
            have hst := HST.out
            have HS2 := Lib.hid hst
            clear hY1 hY2 hst
            go_wp2_with fail
            refine (CA.out _).mono ?_
            rintro e w5 ⟨rfl, hb⟩
            have W5 := Lib.hid (blw_trans HD.out hb)
            have B5 := Lib.hid (HB.out.below hb)
            have b3 := B5.out.cell 3 _ rfl
            have bl := B5.out.lt
            have x0 := (HX.out w5 W5.out).1
            have x1 := (HX.out w5 W5.out).2
            clear hb CA A1 b3o blo x0o x1o
            by_cases hpq : p = q
            · subst hpq
              have dpq : decide (p < p) = false := dec_no (by omega)
              obtain rfl : TN = Y2 := by rw [← HTN.out, HS2.out, HY.out, HRT.out, if_pos rfl]
              go_wp2_with fail
              go_region
              go_wp2_with fail
              go_roundw
              case rel => exact ⟨0 + 1, by go_num, by omega, by rw [HTN.out], Lib.hid (Below.drew W5.out), Lib.hid B5.out.drew⟩
              case measure => simp [RowKit.intOf]; omega
            · have dpq : decide (p < q) = true := dec_yes (by omega)
              obtain ⟨Y3, hY3⟩ : ∃ Y3, Y3 = Y2 ++ [46, 46] := ⟨_, rfl⟩
              have l3 : Y3.length = Y2.length + 2 := by rw [hY3]; simp
              have A3 : ∀ w, (Op.stringOp .add ⟨Y2.toArray⟩ ⟨#[46, 46]⟩).run Tryz.prog w = .ok (.string ⟨Y3.toArray⟩) w := fun w => by rw [hY3]; exact add_str (P := Tryz.prog) Y2 [46, 46] (by first | omega | (simp; omega)) w
              have hTN : TN = Y3 ++ DB := by rw [← HTN.out, HS2.out, hY3, HY.out, HRT.out, if_neg hpq]; simp only [List.append_assoc]
              have A4 : ∀ w, (Op.stringOp .add ⟨Y3.toArray⟩ ⟨DB.toArray⟩).run Tryz.prog w = .ok (.string ⟨TN.toArray⟩) w := fun w => by rw [hTN]; exact add_str (P := Tryz.prog) Y3 DB (by first | omega | (simp; omega)) w
              have HTN2 := Lib.hid HTN.out
              clear hY3 hTN
              go_wp2_with fail
              go_region
              go_wp2_with fail
              refine (CB.out _).mono ?_
              rintro e w6 ⟨rfl, hb⟩
              have W6 := Lib.hid (blw_trans (Below.drew W5.out) hb)
              have B6 := Lib.hid (B5.out.drew.below hb)
              clear hb CB A3
              go_wp2_with fail
              go_roundw
              case rel => exact ⟨0 + 1, by go_num, by omega, by rw [HTN2.out], W6, B6⟩
              case measure => simp [RowKit.intOf]; omega
          · have kz : ((k : Int) == 0) = false := beq_no (by omega)
            obtain ⟨Y1, hY1⟩ : ∃ Y1, Y1 = P0 ++ [44] := ⟨_, rfl⟩
            have l1 : Y1.length = P0.length + 1 := by rw [hY1]; simp
            have A1 : ∀ w, (Op.stringOp .add ⟨P0.toArray⟩ ⟨#[44]⟩).run Tryz.prog w = .ok (.string ⟨Y1.toArray⟩) w := fun w => by rw [hY1]; exact add_str (P := Tryz.prog) P0 [44] (by first | omega | (simp; omega)) w
            obtain ⟨Y2, hY2⟩ : ∃ Y2, Y2 = Y1 ++ DA := ⟨_, rfl⟩
            have l2 : Y2.length = Y1.length + DA.length := by rw [hY2]; simp
            have A2 : ∀ w, (Op.stringOp .add ⟨Y1.toArray⟩ ⟨DA.toArray⟩).run Tryz.prog w = .ok (.string ⟨Y2.toArray⟩) w := fun w => by rw [hY2]; exact add_str (P := Tryz.prog) Y1 DA (by first | omega | (simp; omega)) w
            have HY : Hid (Y2 = P0 ++ [44] ++ DA) := Lib.hid (by rw [hY2, hY1])
            have hst := HST.out
            rw [if_neg hk0] at hst
            have HS2 := Lib.hid hst
            clear hY1 hY2 hst
            go_wp2_with fail
            refine (CA.out _).mono ?_
            rintro e w5 ⟨rfl, hb⟩
            have W5 := Lib.hid (blw_trans HD.out hb)
            have B5 := Lib.hid (HB.out.below hb)
            have b3 := B5.out.cell 3 _ rfl
            have bl := B5.out.lt
            have x0 := (HX.out w5 W5.out).1
            have x1 := (HX.out w5 W5.out).2
            clear hb CA A1 b3o blo x0o x1o
            by_cases hpq : p = q
            · subst hpq
              have dpq : decide (p < p) = false := dec_no (by omega)
              obtain rfl : TN = Y2 := by rw [← HTN.out, HS2.out, HY.out, HRT.out, if_pos rfl]
              go_wp2_with fail
              go_region
              go_wp2_with fail
              go_roundw
              case rel => exact ⟨k + 1, by go_num, by omega, by rw [HTN.out], Lib.hid (Below.drew W5.out), Lib.hid B5.out.drew⟩
              case measure => simp [RowKit.intOf]; omega
            · have dpq : decide (p < q) = true := dec_yes (by omega)
              obtain ⟨Y3, hY3⟩ : ∃ Y3, Y3 = Y2 ++ [46, 46] := ⟨_, rfl⟩
              have l3 : Y3.length = Y2.length + 2 := by rw [hY3]; simp
              have A3 : ∀ w, (Op.stringOp .add ⟨Y2.toArray⟩ ⟨#[46, 46]⟩).run Tryz.prog w = .ok (.string ⟨Y3.toArray⟩) w := fun w => by rw [hY3]; exact add_str (P := Tryz.prog) Y2 [46, 46] (by first | omega | (simp; omega)) w
              have hTN : TN = Y3 ++ DB := by rw [← HTN.out, HS2.out, hY3, HY.out, HRT.out, if_neg hpq]; simp only [List.append_assoc]
              have A4 : ∀ w, (Op.stringOp .add ⟨Y3.toArray⟩ ⟨DB.toArray⟩).run Tryz.prog w = .ok (.string ⟨TN.toArray⟩) w := fun w => by rw [hTN]; exact add_str (P := Tryz.prog) Y3 DB (by first | omega | (simp; omega)) w
              have HTN2 := Lib.hid HTN.out
              clear hY3 hTN
              go_wp2_with fail
              go_region
              go_wp2_with fail
              refine (CB.out _).mono ?_
              rintro e w6 ⟨rfl, hb⟩
              have W6 := Lib.hid (blw_trans (Below.drew W5.out) hb)
              have B6 := Lib.hid (B5.out.drew.below hb)
              clear hb CB A3
              go_wp2_with fail
              go_roundw
              case rel => exact ⟨k + 1, by go_num, by omega, by rw [HTN2.out], W6, B6⟩
              case measure => simp [RowKit.intOf]; omega
        · have e : k = n := by omega
          subst e
          rw [HALL.out]
          go_wp2_with fail
          go_ret
          exact ⟨rfl, HD.out⟩
end Go.Proofs.YtainindkndjkbaaGreatDoor
namespace Go.Proofs.YtainindkndjkbaaGreatDoor
open Go.RowKit

set_option maxRecDepth 100000 in
set_option maxHeartbeats 1000000 in
theorem joined_any (l : List (List UInt8)) (v : Value) (sep : List UInt8) (w : World) (h : StrsAt w v l) (hn : l.length ≤ 2000000000000) (ht : Lst.total l sep ≤ 2000000000000) (hs : sep.length ≤ 2000000000000) :
    Calls Tryz.prog 86 #[v, .string ⟨sep.toArray⟩] w fun e w' => e = .returned (.string ⟨(Lib.join l sep).toArray⟩) ∧ w = w' := by
  rcases h with ⟨rfl, a, cap, rfl⟩ | ⟨b, off, cap, rfl, h0, hc, hm, hcell⟩
  · go_enter Tryz.func86, Tryz.ntmps86
    go_wp2_with fail
    refine wp_loop_rounds 1 ?_
    rw [rounds_succ]
    go_wp2_with fail
    go_ret
    exact ⟨rfl, rfl⟩
  · have HC := Lib.hid hcell
    have UL := Lib.hid (Lst.upto_le l sep)
    have Z := Lib.hid (Lst.upto_zero l sep)
    have E := Lib.hid (Lst.upto_all l sep)
    clear hcell
    unfold maxLen at hm
    go_enter Tryz.func86, Tryz.ntmps86
    go_wp2_with fail
    go_loop [5, 6] (fun s i => ∃ k : Nat, k ≤ l.length ∧ i = .int .i64 k ∧ s = .string ⟨(Lst.upto l sep k).toArray⟩) (fun _ i => l.length - (RowKit.intOf i).toNat)
    case atStart => exact ⟨0, Nat.zero_le _, rfl, by rw [Z.out]⟩
    case round =>
      obtain ⟨k, hk, rfl, rfl⟩ := hrel
      have hu := UL.out k
      by_cases hlt : k < l.length
      · obtain ⟨x, hx⟩ : ∃ x, l[k]? = some x := ⟨_, List.getElem?_eq_getElem hlt⟩
        have hxl := Nat.le_trans (Lst.lens_at l k x hx) (show Lib.lens l ≤ 2000000000000 by unfold Lst.total at ht; omega)
        have hcell := HC.out k x hx
        have U2 := UL.out (k + 1)
        by_cases hk0 : 0 < k
        · have US := Lib.hid (Lst.upto_succ l sep x k hk0 hx)
          have A1 := fun w => add_str (P := Tryz.prog) (Lst.upto l sep k) sep (by omega) w
          have A2 := fun w => add_str (P := Tryz.prog) (Lst.upto l sep k ++ sep) x (by rw [List.length_append]; omega) w
          clear hx U2
          go_wp2_with fail
          go_round
          case rel => exact ⟨k + 1, by omega, by go_num, by rw [US.out, List.append_assoc]⟩
          case measure => simp [RowKit.intOf]; omega
        · have hk1 : k = 0 := by omega
          subst hk1
          have US := Lib.hid (Lst.upto_one l sep x hx)
          have Z' := Z.out
          simp only [Nat.add_zero] at hcell
          have A1 := fun w => add_str (P := Tryz.prog) [] x (by simp; omega) w
          clear hx U2
          rw [Z']
          go_wp2_with fail
          go_round
          case rel => exact ⟨1, by omega, by go_num, by rw [US.out]⟩
          case measure => simp [RowKit.intOf] <;> omega
      · have e : l.length ≤ k := by omega
        have EE := Lib.hid (E.out k e)
        go_wp2_with fail
        go_ret
        exact ⟨ret_str (by rw [EE.out]), rfl⟩

end Go.Proofs.YtainindkndjkbaaGreatDoor
namespace Go.Proofs.YtainindkndjkbaaGreatDoor
open Go.RowKit

theorem row_below {w w' : World} {base n k : Nat} {e : TypeId} {v : Value} {xs : List Value} (h : w.ownsRow base e k v n xs) (hb : Below w.heap.size w w') : w'.ownsRow base e k v n xs :=
  h.kept (grown_below hb) (by cases v.ownBlock <;> simp)
theorem take_map_add {α : Type} {L : List α} {f : α → List UInt8} {k : Nat} {x : α} (h : L[k]? = some x) : ((L.take (k + 1)).map f).map txtV = ((L.take k).map f).map txtV ++ [txtV (f x)] := by
  rw [List.take_add_one, h]; simp

set_option maxRecDepth 100000 in
set_option maxHeartbeats 4000000 in
theorem ruletext_some (r : Rul.Rule) (b off cap n : Nat) (w : World) (hn : r.length = n) (hm : n ≤ 20) (hok : ∀ l ∈ r, l.length ≤ 20 ∧ ∀ x ∈ l, Rul.relOk x = true ∧ x.rs.length ≤ 100000001)
    (ht : Lst.total (r.map Rul.partT) [32, 111, 114, 32] ≤ 2000000000000) (hpt : ∀ l ∈ r, Lst.total (l.map Rul.relT) [32, 97, 110, 100, 32] ≤ 2000000000000) (hc : ∀ (j : Nat) x, r[j]? = some x → PartC w b (off + j * 1) x) :
    Calls Tryz.prog 62 #[.slice (some ⟨b, off, none⟩) n cap] w fun e w' => e = .returned (.string ⟨(Rul.ruleT r).toArray⟩) ∧ Below w.heap.size w w' := by
  obtain ⟨i0, hi, hz0, hz1, hz2⟩ := info_parts infoStr
  have HC := Lib.hid hc
  have HN := Lib.hid hn
  have HOK := Lib.hid hok
  have HT := Lib.hid ht
  have HPT := Lib.hid hpt
  have HJ := Lib.hid fun (v : Value) (wx : World) (h : StrsAt wx v (r.map Rul.partT)) => joined_any (r.map Rul.partT) v [32, 111, 114, 32] wx h (by rw [List.length_map]; omega) ht (by simp)
  have HJ2 := Lib.hid fun (l : List Rul.Rl) (hl : l ∈ r) (v : Value) (wx : World) (h : StrsAt wx v (l.map Rul.relT)) => joined_any (l.map Rul.relT) v [32, 97, 110, 100, 32] wx h (by rw [List.length_map]; have := (hok l hl).1; omega) (hpt l hl) (by simp)
  have HR := Lib.hid (show Lib.join (r.map Rul.partT) [32, 111, 114, 32] = Rul.ruleT r from rfl)
  have HR2 := Lib.hid fun l => (show Lib.join (l.map Rul.relT) [32, 97, 110, 100, 32] = Rul.partT l from rfl)
  generalize Rul.ruleT r = RT at *
  clear hc hn hok ht hpt
  go_enter Tryz.func62, Tryz.ntmps62
  go_wp2_with fail
  go_loopw [3, 4, 5, 6] (fun o i _ _ wr => ∃ k : Nat, i = .int .i64 k ∧ k ≤ n ∧ Hid (wr.ownsRow w.heap.size 9 1 o k (((r.take k).map Rul.partT).map txtV)) ∧ Hid (Below w.heap.size w wr)) (fun _ i _ _ _ => n - (RowKit.intOf i).toNat)
  case atStart => exact ⟨0, rfl, Nat.zero_le _, Lib.hid (World.ownsRow_nil _ _ _ _), Lib.hid (Below.refl _ _)⟩
  case round =>
    obtain ⟨k, rfl, hk, HO, HD⟩ := hrel
    rename World => wo
    by_cases hlt : k < n
    · obtain ⟨l, hl⟩ : ∃ x, r[k]? = some x := ⟨r[k]'(by have := HN.out; omega), List.getElem?_eq_getElem (by have := HN.out; omega)⟩
      have HLK := Lib.hid hl
      have HLR := Lib.hid (List.mem_of_getElem? hl)
      obtain ⟨pa, pn, pc, p0, ps⟩ := HC.out k l hl
      rw [Nat.mul_one] at p0
      have x0 := cell_keep p0 HD.out
      obtain ⟨A1, cap1, e1, hm1, hcell1⟩ := ps.spread
      injection e1 with e1 e1' e1''
      subst e1 e1' e1''
      have P0 := Lib.hid p0
      have HC1 := Lib.hid hcell1
      have hml := (HOK.out l HLR.out).1
      obtain ⟨m, hmm⟩ : ∃ m, l.length = m := ⟨_, rfl⟩
      rw [hmm] at x0 P0 hml
      have HX := Lib.hid hmm
      clear hl ps p0 hcell1 hm1 hmm
      have k0 : (0 : Int) ≤ (k : Int) := by omega
      have k1 : (k : Int) < (n : Int) := by omega
      go_wp2_with fail
      go_loopw [5, 6] (fun s i wx => ∃ j : Nat, i = .int .i64 j ∧ j ≤ m ∧ Hid (wx.ownsRow wo.heap.size 9 1 s j (((l.take j).map Rul.relT).map txtV)) ∧ Hid (Below wo.heap.size wo wx)) (fun _ i _ => m - (RowKit.intOf i).toNat)
      case atStart => exact ⟨0, rfl, Nat.zero_le _, Lib.hid (World.ownsRow_nil _ _ _ _), Lib.hid (Below.refl _ _)⟩
      case round =>
        obtain ⟨j, rfl, hj, HO2, HI⟩ := hrel
        have HW := Lib.hid (blw_trans HD.out HI.out)
        have x1 := cell_keep P0.out HW.out
        by_cases hjm : j < m
        · obtain ⟨y, hy⟩ : ∃ y, l[j]? = some y := ⟨l[j]'(by have := HX.out; omega), List.getElem?_eq_getElem (by have := HX.out; omega)⟩
          obtain ⟨b1, o1, rfl, ra, rn, rc, r0, r1, r2, r3, rs⟩ := HC1.out j y hy
          have z0 := cell_keep r0 HW.out
          have z1 := cell_keep r1 HW.out
          have z2 := cell_keep r2 HW.out
          have z3 := cell_keep r3 HW.out
          have hyk := (HOK.out l HLR.out).2 y (List.mem_of_getElem? hy)
          have CS := Lib.hid (rrt_any y ra rn rc wr (rs.rngs_below HW.out) hyk.1 hyk.2)
          have HTA := Lib.hid (take_map_add (f := Rul.relT) hy)
          generalize Rul.relT y = yt at *
          clear hy r0 r1 r2 r3 rs HC1 hyk
          have j0 : (0 : Int) ≤ (j : Int) := by omega
          have j1 : (j : Int) < (m : Int) := by omega
          go_wp2_with fail
          refine CS.out.mono ?_
          rintro e w5 ⟨rfl, hb⟩
          have W5 := Lib.hid (blw_trans HI.out hb)
          have hown := row_below HO2.out hb
          have hbs := W5.out.size
          clear hb CS z0 z1 z2 z3 x1
          go_wp2_with (at_builtin; refine wpList_append_own _ rfl _ _ 45 rfl wo.heap.size 9 i0 (.string ByteArray.empty) 1 16 Tryz.underlying45 hi hz0 hz1 hz2 rfl (by decide) _ _ _ rfl (hown.alloc _) ⟨w5.heap.size, 0, none⟩ 1 1 [txtV yt] rfl rfl (cell_one_new _ _ _) (fun x hx => by simp at hx; subst hx; rfl) (by unfold maxLen; omega) (by omega) (by simp; omega) ?_; intro v' w1 hown' hgrow _)
          have HO' := Lib.hid (show w1.ownsRow wo.heap.size 9 1 v' (j + 1) (((l.take (j + 1)).map Rul.relT).map txtV) by rw [HTA.out]; exact hown')
          have HB' := Lib.hid (show Below wo.heap.size wo w1 from (W5.out.alloc hbs _).grown hgrow (by simp; omega) (fun k hk => (hown.lt k hk).1))
          clear hown hown' hgrow hbs
          go_wp2_with fail
          go_roundw
          case rel => exact ⟨j + 1, by go_num, by omega, HO', HB'⟩
          case measure => simp [RowKit.intOf]; omega
        · have e : j = m := by omega
          subst e
          have SA := HO2.out
          rw [List.take_of_length_le (by have := HX.out; omega)] at SA
          have CJ := Lib.hid (HJ2.out l HLR.out _ wr (StrsAt.of_row SA))
          rw [HR2.out l] at CJ
          have HTA := Lib.hid (take_map_add (f := Rul.partT) HLK.out)
          have hown := row_below HO.out HI.out
          have hbs := HW.out.size
          generalize Rul.partT l = yt at *
          clear SA
          go_wp2_with fail
          refine CJ.out.mono ?_
          rintro e w5 ⟨rfl, rfl⟩
          clear CJ
          go_wp2_with (at_builtin; refine wpList_append_own _ rfl _ _ 45 rfl w.heap.size 9 i0 (.string ByteArray.empty) 1 16 Tryz.underlying45 hi hz0 hz1 hz2 rfl (by decide) _ _ _ rfl (hown.alloc _) ⟨wr.heap.size, 0, none⟩ 1 1 [txtV yt] rfl rfl (cell_one_new _ _ _) (fun x hx => by simp at hx; subst hx; rfl) (by unfold maxLen; omega) (by omega) (by simp; omega) ?_; intro v' w1 hown' hgrow _)
          have HO' := Lib.hid (show w1.ownsRow w.heap.size 9 1 v' (k + 1) (((r.take (k + 1)).map Rul.partT).map txtV) by rw [HTA.out]; exact hown')
          have HB' := Lib.hid (show Below w.heap.size w w1 from (HW.out.alloc hbs _).grown hgrow (by simp; omega) (fun k hk => (hown.lt k hk).1))
          clear hown hown' hgrow hbs
          go_wp2_with fail
          go_roundw
          case rel => exact ⟨k + 1, by go_num, by omega, HO', HB'⟩
          case measure => simp [RowKit.intOf]; omega
    · have e : k = n := by omega
      subst e
      have SA := HO.out
      rw [List.take_of_length_le (by have := HN.out; omega)] at SA
      have CJ := Lib.hid (HJ.out _ _ (StrsAt.of_row SA))
      rw [HR.out] at CJ
      clear SA
      go_wp2_with fail
      refine CJ.out.mono ?_
      rintro e w5 ⟨rfl, rfl⟩
      go_wp2_with fail
      go_ret
      exact ⟨rfl, HD.out⟩
theorem ruletext_any (r : Rul.Rule) (A : Option Addr) (n c : Nat) (w : World) (hr : SlAt 1 PartC w (.slice A n c) r) (hE : Rul.ruleE r = 0) (hrs : ∀ l ∈ r, ∀ x ∈ l, x.rs.length ≤ 100000001) :
    Calls Tryz.prog 62 #[.slice A n c] w fun e w' => e = .returned (.string ⟨(Rul.ruleT r).toArray⟩) ∧ Below w.heap.size w w' := by
  obtain ⟨hs, hc⟩ := Rul.ruleE_zero.1 hE
  obtain ⟨t1, t2⟩ := Rul.ok_totals hE hrs
  rcases hr with ⟨rfl, a, c', e⟩ | ⟨b, off, cap, e, h0, _, _, h3⟩
  · exact absurd rfl (Rul.shape_parts hs).1
  · injection e with e1 e2 e3
    subst e1 e2 e3
    refine ruletext_some r b off _ _ w rfl (by have := Rul.len_count (fun l hl => (Rul.part_parts ((Rul.shape_parts hs).2 l hl)).1); omega) (fun l hl => ⟨Nat.le_trans (Rul.count_mem hl) hc, fun x hx => ⟨(Rul.part_parts ((Rul.shape_parts hs).2 l hl)).2 x hx, hrs l hl x hx⟩⟩) ?_ ?_ h3
    · exact t1
    · exact fun l hl => (t2 l hl).2.1
end Go.Proofs.YtainindkndjkbaaGreatDoor
namespace Go.Proofs.YtainindkndjkbaaGreatDoor
open Go.RowKit Go.Shelf

/-- what RuleOf hands back -/
def RuleOfPost (s : List UInt8) (w' : World) (v : Value) : Prop :=
  (Rul.okQ s = true ∧ ∃ a n c, v = .slice a n c ∧ SlAt 1 PartC w' (.slice a n c) (Rul.ruleQ s)) ∨ (Rul.okQ s = false ∧ v = .slice none 0 0)

set_option maxRecDepth 100000 in
set_option maxHeartbeats 8000000 in
theorem ruleof_any (s : List UInt8) (w : World) (ht : s.length ≤ 100000000) :
    Calls Tryz.prog 40 #[.string ⟨s.toArray⟩] w fun e w' => ∃ v, e = .returned (.tuple #[v, .bool (Rul.okQ s)]) ∧ RuleOfPost s w' v ∧ Below w.heap.size w w' := by
  obtain ⟨iR, hiR, hR0, hR1, hR2⟩ := info_parts infoRel
  obtain ⟨iP, hiP, hP0, hP1, hP2⟩ := info_parts infoPart
  have CW := Lib.hid fun w => cut_own s [32, 111, 114, 32] w (by simp) (by omega) (by simp)
  have hL0 : 0 < (Lib.split s [32, 111, 114, 32]).length := by rw [Spl.split_len (by simp)]; omega
  have hLm := Rul.split_short (s := s) (sub := [32, 111, 114, 32]) (by simp)
  have HPL := Lib.hid fun x (hx : x ∈ Lib.split s [32, 111, 114, 32]) => piece_le hx
  have hcnt := Rul.count_Q s
  have HCN := Lib.hid hcnt
  have HRS := Lib.hid (Rul.rs_Q s)
  have HOK := Lib.hid (show Rul.okQ s = (decide (Rul.ruleE (Rul.ruleQ s) = 0) && (Rul.ruleT (Rul.ruleQ s) == s)) from rfl)
  have hQ : Rul.ruleQ s = (Lib.split s [32, 111, 114, 32]).map Rul.partQ := rfl
  have HP1 := Lib.hid (show ∀ w' a n c, Rul.okQ s = true → SlAt 1 PartC w' (.slice a n c) (Rul.ruleQ s) → RuleOfPost s w' (.slice a n c) from fun w' a n c h1 h2 => .inl ⟨h1, _, _, _, rfl, h2⟩)
  have HP2 := Lib.hid (show ∀ w', Rul.okQ s = false → RuleOfPost s w' (.slice none 0 0) from fun w' h => .inr ⟨h, rfl⟩)
  generalize RuleOfPost s = RP at *
  generalize Rul.ruleQ s = RQ at *
  generalize Rul.okQ s = OK at *
  generalize Lib.split s [32, 111, 114, 32] = L at *
  have HQ := Lib.hid hQ
  obtain ⟨m, hm⟩ : ∃ m, L.length = m := ⟨_, rfl⟩
  have HM := Lib.hid hm
  clear hQ hcnt
  go_enter Tryz.func40, Tryz.ntmps40
  go_wp2_with fail
  refine (CW.out _).mono ?_
  rintro e w1 ⟨v5, rfl, hown5, hb⟩
  obtain ⟨g5, cap5, rfl, hg5, hg5', hc5, hm5, hcell5⟩ := row_txt hown5 hL0
  have W1 := Lib.hid hb
  have hs1 := hb.size
  have HC5 := Lib.hid hcell5
  rw [hm] at hL0 hLm hc5 ⊢
  have Q0 := Lib.hid (show QO w w1.heap.size (.slice none 0 0) [] (fun _ => False) (L.take 0) w1 from ⟨⟨rfl, .inl ⟨rfl, rfl⟩⟩, rfl, by simp, ⟨by simp, by simp, by simp⟩, hb, Nat.le_refl _⟩)
  clear hb hown5 hcell5 CW hm hm5 hg5
  go_wp2_with fail
  go_loopw [4, 6, 7, 8, 9] (fun o i _ _ _ wr => ∃ (k : Nat) (ps : List (List Rul.Rl × Value)) (S : Nat → Prop), i = .int .i64 k ∧ k ≤ m ∧ Hid (QO w w1.heap.size o ps S (L.take k) wr) ∧ Hid (Below w1.heap.size w1 wr)) (fun _ i _ _ _ _ => m - (RowKit.intOf i).toNat)
  case atStart => exact ⟨0, [], fun _ => False, rfl, Nat.zero_le _, Q0, Lib.hid (Below.refl _ _)⟩
  case round =>
    obtain ⟨k, ps, S, rfl, hk, P, HD⟩ := hrel
    rename World => wo
    clear Q0
    by_cases hlt : k < m
    · obtain ⟨x, hx⟩ : ∃ x, L[k]? = some x := ⟨L[k]'(by have := HM.out; omega), List.getElem?_eq_getElem (by have := HM.out; omega)⟩
      have cz := cell_keep (HC5.out k x hx) HD.out
      have hxl := HPL.out x (List.mem_of_getElem? hx)
      have CX := Lib.hid fun w => cut_own x [32, 97, 110, 100, 32] w (by simp) (by omega) (by simp)
      have hx0 : 0 < (Lib.split x [32, 97, 110, 100, 32]).length := by rw [Spl.split_len (by simp)]; omega
      have hxm := Rul.split_short (s := x) (sub := [32, 97, 110, 100, 32]) (by simp)
      have HXS := Lib.hid fun y (hy : y ∈ Lib.split x [32, 97, 110, 100, 32]) => Nat.le_trans (piece_le hy) hxl
      have HER := Lib.hid (show Rul.partQ x = (Lib.split x [32, 97, 110, 100, 32]).map Rul.relQ from rfl)
      generalize Lib.split x [32, 97, 110, 100, 32] = L2 at *
      have HTK := Lib.hid (show L.take (k + 1) = L.take k ++ [x] by rw [List.take_add_one, hx]; rfl)
      have hpl : ps.length = k := by rw [P.out.len, List.length_take, HM.out]; omega
      have hov := fun b h => (P.out.row.lt b h).2
      have k0 : (0 : Int) ≤ (k : Int) := by omega
      have k1 : (k : Int) < (m : Int) := by omega
      clear hx
      go_wp2_with fail
      refine (CX.out _).mono ?_
      rintro e w2 ⟨v8, rfl, hown8, hb⟩
      obtain ⟨g8, cap8, rfl, hg8, _, hc8, hm8, hcell8⟩ := row_txt hown8 hx0
      have P1 := Lib.hid (P.out.below hb)
      have D1 := Lib.hid (blw_trans HD.out hb)
      have hs2 := hb.size
      have hs3 := HD.out.size
      have HC8 := Lib.hid hcell8
      obtain ⟨n2, hn2⟩ : ∃ n2, L2.length = n2 := ⟨_, rfl⟩
      rw [hn2] at hx0 hxm hc8 ⊢
      have HN2 := Lib.hid hn2
      have I0 := Lib.hid (show QI w2.heap.size (.slice none 0 0) [] (fun _ => False) (L2.take 0) w2 from ⟨⟨rfl, .inl ⟨rfl, rfl⟩⟩, rfl, by simp, ⟨by simp, by simp, by simp⟩, Nat.le_refl _⟩)
      clear hb hown8 hcell8 CX cz P HD hn2 hm8 hg8
      go_wp2_with fail
      go_loopw [7, 9] (fun o2 i wx => ∃ (j : Nat) (qs : List (Rul.Rl × Value)) (S2 : Nat → Prop), i = .int .i64 j ∧ j ≤ n2 ∧ Hid (QI w2.heap.size o2 qs S2 (L2.take j) wx) ∧ Hid (Below w2.heap.size w2 wx)) (fun _ i _ => n2 - (RowKit.intOf i).toNat)
      case atStart => exact ⟨0, [], fun _ => False, rfl, Nat.zero_le _, I0, Lib.hid (Below.refl _ _)⟩
      case round =>
        obtain ⟨j, qs, S2, rfl, hj, PI, HI⟩ := hrel
        rename World => wi
        clear I0
        by_cases hjn : j < n2
        · obtain ⟨y, hy⟩ : ∃ y, L2[j]? = some y := ⟨L2[j]'(by have := HN2.out; omega), List.getElem?_eq_getElem (by have := HN2.out; omega)⟩
          have cz := cell_keep (HC8.out j y hy) HI.out
          have hyl := HXS.out y (List.mem_of_getElem? hy)
          have CR := Lib.hid fun w => relof_any y w (by omega)
          obtain ⟨R, hR⟩ : ∃ R, Rul.relQ y = R := ⟨_, rfl⟩
          rw [hR] at CR
          have HR := Lib.hid hR
          have HTJ := Lib.hid (show L2.take (j + 1) = L2.take j ++ [y] by rw [List.take_add_one, hy]; rfl)
          have hql : qs.length = j := by rw [PI.out.len, List.length_take, HN2.out]; omega
          have hov2 := fun b h => (PI.out.row.lt b h).2
          have j0 : (0 : Int) ≤ (j : Int) := by omega
          have j1 : (j : Int) < (n2 : Int) := by omega
          clear hy hR
          go_wp2_with fail
          refine (CR.out _).mono ?_
          rintro e w3 ⟨a, n, c, rfl, hsl, hfr, hb⟩
          have HB := Lib.hid (show ∀ b, (Value.slice a n c).ownBlock = some b → w2.heap.size ≤ b ∧ _ ≠ some b from fun b hb' => ⟨by have := hfr b hb'; have := HI.out.size; omega, fun e => by have := hfr b hb'; have := hov2 b e; omega⟩)
          have P3 := Lib.hid ((PI.out.below hb).below (blw_alloc w3 (.cells #[.int .u8 (R.op.toNat : Int), .int .i64 R.mod, .bool R.no, .slice a n c] 108)))
          have BN := Lib.hid (Boxed.made w3 #[.int .u8 (R.op.toNat : Int), .int .i64 R.mod, .bool R.no, .slice a n c] 108)
          have HSL := Lib.hid (hsl.rngs_below (blw_alloc w3 (.cells #[.int .u8 (R.op.toNat : Int), .int .i64 R.mod, .bool R.no, .slice a n c] 108)))
          have I3 := Lib.hid (blw_trans (blw_trans HI.out hb) (blw_alloc w3 (.cells #[.int .u8 (R.op.toNat : Int), .int .i64 R.mod, .bool R.no, .slice a n c] 108)))
          clear hb hsl hfr cz CR PI HI hov2
          go_wp2_with (at_builtin; refine wpList_append_own_at _ rfl _ _ 105 rfl w2.heap.size 108 iR _ 4 48 Tryz.underlying105 hiR hR0 hR1 hR2 rfl (by decide) _ qs.length (qflat qs) rfl P3.out.row ⟨w3.heap.size, 0, none⟩ 1 1 [.int .u8 (R.op.toNat : Int), .int .i64 R.mod, .bool R.no, .slice a n c] rfl rfl (boxed_add BN.out) (fun u hu => by simp at hu; rcases hu with rfl | rfl | rfl | rfl <;> rfl) (by unfold maxLen; omega) (by omega) P3.out.sz ?_; intro v' w5 hown hgrow hnil hat)
          have P4 := Lib.hid (P3.out.append (x := y) (by rw [HR.out]; exact hown) hgrow hat (by rw [HR.out]; exact HSL.out) HB.out)
          have I4 := Lib.hid (show Below w2.heap.size w2 w5 from I3.out.grown hgrow I3.out.size (fun k hk => (P3.out.row.lt k hk).1))
          clear hown hgrow hnil hat P3 I3 HSL BN HB
          go_wp2_with fail
          go_roundw
          case rel => exact ⟨j + 1, _, _, by go_num, by omega, by rw [HTJ.out]; exact P4, I4⟩
          case measure => simp [RowKit.intOf]; omega
        · have e : j = n2 := by omega
          subst e
          obtain ⟨a2, c2, rfl⟩ := row_any PI.out.row
          have li := PI.out.lies
          rw [List.take_of_length_le (by have := HN2.out; omega), ← HER.out] at li
          have hql : qs.length = j := by rw [PI.out.len, List.length_take, HN2.out]; omega
          rw [hql] at li ⊢
          have LI := Lib.hid li
          have P3 := Lib.hid ((P1.out.below HI.out).below (blw_alloc wi (.cells #[.slice a2 j c2] 105)))
          have BN := Lib.hid (Boxed.made wi #[.slice a2 j c2] 105)
          have D3 := Lib.hid (blw_trans (blw_trans D1.out HI.out) (blw_alloc wi (.cells #[.slice a2 j c2] 105)))
          have hs4 := HI.out.size
          clear li PI hql
          go_wp2_with (at_builtin; refine wpList_append_own_at _ rfl _ _ 85 rfl w1.heap.size 105 iP _ 1 24 Tryz.underlying85 hiP hP0 hP1 hP2 rfl (by decide) _ ps.length (ps.map (fun q : List Rul.Rl × Value => q.2)) rfl P3.out.row ⟨wi.heap.size, 0, none⟩ 1 1 [.slice a2 j c2] rfl rfl (boxed_add BN.out) (fun u hu => by simp at hu; subst hu; rfl) (by unfold maxLen; omega) (by omega) P3.out.sz ?_; intro v' w5 hown hgrow hnil hat)
          have P4 := Lib.hid (P3.out.append (x := x) hown hgrow hat hs1 (relsI_kept LI.out.1 (fun b hb' => (blw_alloc wi _).block b (LI.out.2 b hb').2.lt) (fun _ h => h)) (fun b hb' => ⟨by have := (LI.out.2 b hb').1; omega, fun e => by have := (LI.out.2 b hb').1; have := hov b e; omega, (LI.out.2 b hb').2.grown (grown_below (blw_alloc wi _)) (fun e => by cases e)⟩))
          have D4 := Lib.hid (show Below w1.heap.size w1 w5 from D3.out.grown hgrow D3.out.size (fun k hk => (P3.out.row.lt k hk).1))
          clear hown hgrow hnil hat P3 D3 BN LI
          go_wp2_with fail
          go_roundw
          case rel => exact ⟨k + 1, _, _, by go_num, by omega, by rw [HTK.out]; exact P4, D4⟩
          case measure => simp [RowKit.intOf]; omega
    · have e : k = m := by omega
      subst e
      obtain ⟨a, c, rfl⟩ := row_any P.out.row
      have hpl : ps.length = k := by rw [P.out.len, List.length_take, HM.out]; omega
      have li := P.out.lies
      rw [List.take_of_length_le (by have := HM.out; omega), ← HQ.out] at li
      rw [hpl] at li ⊢
      have hlow := P.out.low
      have hcn := HCN.out
      have CF := Lib.hid (rulefault_any RQ a k c wo li (by omega) (by omega))
      have LI := Lib.hid li
      have LW := Lib.hid hlow
      clear P HD hpl HPL HC5
      by_cases hE : Rul.ruleE RQ = 0
      · have CT := Lib.hid fun w' (hb : Below wo.heap.size wo w') => ruletext_any RQ a k c w' (li.rule_below hb) hE (fun l hl x hx => by have := HRS.out l hl x hx; omega)
        rw [hE] at CF
        have HO2 := Lib.hid (show OK = (Rul.ruleT RQ == s) by rw [HOK.out, hE]; simp)
        generalize Rul.ruleT RQ = T at *
        clear li hlow hE hcn
        go_wp2_with fail
        refine CF.out.mono ?_
        rintro e w2 ⟨rfl, hb⟩
        have F2 := Lib.hid hb
        clear hb CF
        go_wp2_with fail
        refine (CT.out _ F2.out).mono ?_
        rintro e w3 ⟨rfl, hb⟩
        have F3 := Lib.hid (blw_trans F2.out hb)
        clear hb CT
        by_cases hT : T = s
        · subst hT
          obtain rfl : OK = true := by rw [HO2.out]; simp
          go_wp2_with fail
          go_ret2
          exact ⟨_, rfl, HP1.out _ _ _ _ (by first | trivial | rfl) (LI.out.rule_below F3.out), blw_trans LW.out F3.out⟩
        · have hT' : (T == s) = false := by simpa using hT
          obtain rfl : OK = false := by rw [HO2.out]; exact hT'
          clear hT
          go_wp2_with fail
          go_ret2
          exact ⟨_, rfl, HP2.out _ (by first | trivial | rfl), blw_trans LW.out F3.out⟩
      · obtain rfl : OK = false := by rw [HOK.out, dec_no hE]; rfl
        generalize Rul.ruleE RQ = E at *
        have hE' : (E == 0) = false := beq_no hE
        have hE2 : (E != 0) = true := by simp [hE]
        clear li hlow hcn hE
        go_wp2_with fail
        refine CF.out.mono ?_
        rintro e w2 ⟨rfl, hb⟩
        have F2 := Lib.hid hb
        clear hb CF
        go_wp2_with fail
        go_ret2
        exact ⟨_, rfl, HP2.out _ (by first | trivial | rfl), blw_trans LW.out F2.out⟩
end Go.Proofs.YtainindkndjkbaaGreatDoor
