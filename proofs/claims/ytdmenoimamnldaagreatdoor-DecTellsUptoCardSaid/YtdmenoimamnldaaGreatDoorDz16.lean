/- The walk of linguisterref1.Cut: a text cut at another one. -/
import Derived.Lib.Split
import Derived.Test.YtdmenoimamnldaaGreatDoorProg
import Derived.Test.YtdmenoimamnldaaGreatDoorDz15
import Derived.Test.YtdmenoimamnldaaGreatDoorDz11
import Derived.OwnWalk
import Derived.LoopTactic
namespace Spl
open Go Go.Lib

theorem split_hit {s sub : List UInt8} {i : Nat} (hsub : sub ≠ []) (h : index s sub = i) : split s sub = s.take i :: split (s.drop (i + sub.length)) sub := by
  have hne : ((i : Int) == -1) = false := by rw [beq_eq_false_iff_ne]; omega
  unfold split
  rw [count_hit hsub h, Nat.add_comm 1]
  simp [splitK, h, hne]
theorem split_miss {s sub : List UInt8} (h : index s sub = -1) : split s sub = [s] := by
  unfold split
  rw [count_miss h]
  rfl
theorem splitK_len {sub : List UInt8} (hsub : sub ≠ []) : ∀ (k : Nat) (s : List UInt8), count s sub = k → (splitK sub 0 k s).length = k + 1
  | 0, _, _ => rfl
  | k + 1, s, h => by
    by_cases hi : index s sub = -1
    · rw [count_miss hi] at h; omega
    · have hg := index_ge s sub
      have he : index s sub = ((index s sub).toNat : Int) := by omega
      rw [count_hit hsub he] at h
      have hb : (index s sub == -1) = false := by rw [beq_eq_false_iff_ne]; exact hi
      simp only [splitK, hb, Bool.false_eq_true, if_false, List.length_cons]
      rw [splitK_len hsub k _ (by omega)]
theorem split_len {s sub : List UInt8} (hsub : sub ≠ []) : (split s sub).length = count s sub + 1 := splitK_len hsub _ s rfl
theorem occ_drop (s sub : List UInt8) (a j : Nat) : occAt (s.drop a) sub j = occAt s sub (a + j) := by
  unfold occAt
  rw [List.drop_drop]

/-- what the loop of a cut keeps: the pieces so far, from where the next one is, up to where it is looked for -/
def Inv (s sub : List UInt8) (P : List (List UInt8)) (a b : Nat) : Prop := split s sub = P ++ split (s.drop a) sub ∧ ∀ j, a ≤ j → j < b → occAt s sub j = false
theorem inv_start (s sub : List UInt8) : Inv s sub [] 0 0 := ⟨rfl, fun j _ h => by omega⟩
theorem inv_miss {s sub : List UInt8} {P : List (List UInt8)} {a b : Nat} (h : Inv s sub P a b) (hb : b + sub.length ≤ s.length) (hx : ¬ (s.drop b).take sub.length = sub) : Inv s sub P a (b + 1) := by
  refine ⟨h.1, fun j h1 h2 => ?_⟩
  by_cases e : j = b
  · subst e
    rw [occAt_iff_take s sub j hb]
    exact beq_eq_false_iff_ne.2 hx
  · exact h.2 j h1 (by omega)
theorem inv_hit {s sub : List UInt8} {P : List (List UInt8)} {a b : Nat} (h : Inv s sub P a b) (hsub : sub ≠ []) (hab : a ≤ b) (hb : b + sub.length ≤ s.length) (hx : (s.drop b).take sub.length = sub) :
    Inv s sub (P ++ [(s.drop a).take (b - a)]) (b + sub.length) (b + sub.length) := by
  refine ⟨?_, fun j _ h2 => by omega⟩
  have hi : index (s.drop a) sub = ((b - a : Nat) : Int) := by
    refine index_first (by rw [List.length_drop]; omega) ?_ fun j hj => ?_
    · rw [occ_drop, show a + (b - a) = b by omega, occAt_iff_take s sub b hb, hx]
      exact beq_self_eq_true _
    · rw [occ_drop]
      exact h.2 _ (by omega) (by omega)
  rw [h.1, split_hit hsub hi, List.drop_drop, show a + (b - a + sub.length) = b + sub.length by omega]
  simp
theorem inv_end {s sub : List UInt8} {P : List (List UInt8)} {a b : Nat} (h : Inv s sub P a b) (hsub : sub ≠ []) (hb : ¬ b + sub.length ≤ s.length) : split s sub = P ++ [s.drop a] := by
  have hi : index (s.drop a) sub = -1 := by
    refine index_none fun j _ => ?_
    rw [occ_drop]
    by_cases hj : a + j < b
    · exact h.2 _ (by omega) hj
    · cases ho : occAt s sub (a + j) with
      | false => rfl
      | true =>
        rcases occAt_room ho with g | g
        · omega
        · exact absurd g hsub
  rw [h.1, split_miss hi]
end Spl
namespace Go.Proofs.YtdmenoimamnldaaGreatDoor
open Go.RowKit

/-- a call that gives these texts, and turns nothing old -/
def GivesStrs (w : World) (l : List (List UInt8)) (e : Ending) (w' : World) : Prop := ∃ v, e = .returned v ∧ StrsAt w' v l ∧ Below w.heap.size w w'

theorem slice_midI {P : Program} (t : TypeId) (h : P.underlying t = some .string) (L : List UInt8) (i j : Int) (a b : Nat) (hi : i = a) (hj : j = b) (hab : a ≤ b) (hb : b ≤ L.length) (w : World) :
    (Instr.slice t (.string ⟨L.toArray⟩) (some (.int .i64 i)) (some (.int .i64 j)) none).run P w = .ok (.string ⟨((L.drop a).take (b - a)).toArray⟩) w := by
  subst hi hj; exact slice_mid t h L .i64 .i64 a b hab hb w
theorem infoStr : (Tryz.prog.info? 9).map (fun i => (i.zero, i.size, i.bytes)) = some (some (.string ByteArray.empty), 1, 16) := by kernel_rfl

set_option maxRecDepth 100000 in
set_option maxHeartbeats 1000000 in
theorem cut_any (s at_ : List UInt8) (w : World) (ha : at_ ≠ []) (hs : s.length ≤ 4000000000) (hat : at_.length ≤ 4000000000) :
    Calls Tryz.prog 21 #[.string ⟨s.toArray⟩, .string ⟨at_.toArray⟩] w (GivesStrs w (Lib.split s at_)) := by
  obtain ⟨i0, hi, hz0, hz1, hz2⟩ := info_parts infoStr
  have hm : 0 < at_.length := List.length_pos_iff.2 ha
  have HA := Lib.hid ha
  clear ha
  go_enter Tryz.func21, Tryz.ntmps21
  go_wp2_with fail
  go_loopw [5, 6, 7] (fun o f i wr => ∃ (P : List (List UInt8)) (a b : Nat), f = .int .i64 a ∧ i = .int .i64 b ∧ a ≤ b ∧ b ≤ s.length ∧ P.length ≤ a ∧ Hid (wr.ownsRow w.heap.size 9 1 o P.length (P.map txtV)) ∧ Hid (Below w.heap.size w wr) ∧ Hid (Spl.Inv s at_ P a b)) (fun _ _ i _ => s.length - (RowKit.intOf i).toNat)
  case atStart => exact ⟨[], 0, 0, rfl, rfl, Nat.le_refl _, Nat.zero_le _, Nat.le_refl _, ⟨rfl, .inl ⟨rfl, rfl⟩⟩, Below.refl _ _, Spl.inv_start s at_⟩
  case round =>
    obtain ⟨P, a, b, rfl, rfl, hab, hb, hP, HO, HB, HI⟩ := hrel
    by_cases hroom : b + at_.length ≤ s.length
    · have SM := fun w => slice_midI (P := Tryz.prog) 9 Tryz.underlying9 s (b : Int) ((b : Int) + (at_.length : Int)) b (b + at_.length) rfl (by omega) (by omega) hroom w
      have e0 : b + at_.length - b = at_.length := by omega
      rw [e0] at SM
      clear e0
      by_cases hX : (s.drop b).take at_.length = at_
      · have IH := Lib.hid (Spl.inv_hit HI.out HA.out hab hroom hX)
        rw [hX] at SM
        have S2 := fun w => slice_midI (P := Tryz.prog) 9 Tryz.underlying9 s (a : Int) (b : Int) a b rfl rfl hab hb w
        clear hX HI
        generalize (s.drop a).take (b - a) = u at *
        have hown := HO.out
        have hbs := HB.out.size
        go_wp2_with (at_builtin; refine wpList_append_own _ rfl _ _ 45 rfl w.heap.size 9 i0 (.string ByteArray.empty) 1 16 Tryz.underlying45 hi hz0 hz1 hz2 rfl (by decide) _ _ _ rfl (hown.alloc _) ⟨wr.heap.size, 0, none⟩ 1 1 [txtV u] rfl rfl (cell_one_new _ _ _) (fun x hx => by simp at hx; subst hx; rfl) (by unfold maxLen; omega) (by omega) (by simp; omega) ?_; intro v' w1 hown' hgrow _)
        have HO' := Lib.hid (show w1.ownsRow w.heap.size 9 1 v' (P ++ [u]).length ((P ++ [u]).map txtV) by simpa using hown')
        have HB' := Lib.hid (show Below w.heap.size w w1 from (HB.out.alloc hbs _).grown hgrow (by simp; omega) (fun k hk => (hown.lt k hk).1))
        clear hown hown' hgrow hbs HO HB S2
        go_wp2_with fail
        go_roundw
        case rel => exact ⟨P ++ [u], b + at_.length, b + at_.length, by go_num, by go_num, Nat.le_refl _, hroom, by simp; omega, HO', HB', IH⟩
        case measure => simp [RowKit.intOf]; omega
      · have IH := Lib.hid (Spl.inv_miss HI.out hroom hX)
        have hXb : ((s.drop b).take at_.length == at_) = false := beq_eq_false_iff_ne.2 hX
        clear HI hX
        generalize (s.drop b).take at_.length = u at *
        go_wp2_with fail
        go_roundw
        case rel => exact ⟨P, a, b + 1, rfl, by go_num, by omega, by omega, hP, HO, HB, IH⟩
        case measure => simp [RowKit.intOf]; omega
    · have IE := Lib.hid (Spl.inv_end HI.out HA.out hroom)
      have S3 := fun w => slice_from (P := Tryz.prog) 9 Tryz.underlying9 s .i64 a (by omega) w
      clear HI
      generalize s.drop a = u at *
      have hown := HO.out
      have hbs := HB.out.size
      go_wp2_with (at_builtin; refine wpList_append_own _ rfl _ _ 45 rfl w.heap.size 9 i0 (.string ByteArray.empty) 1 16 Tryz.underlying45 hi hz0 hz1 hz2 rfl (by decide) _ _ _ rfl (hown.alloc _) ⟨wr.heap.size, 0, none⟩ 1 1 [txtV u] rfl rfl (cell_one_new _ _ _) (fun x hx => by simp at hx; subst hx; rfl) (by unfold maxLen; omega) (by omega) (by simp; omega) ?_; intro v' w1 hown' hgrow _)
      have HO' := Lib.hid (show w1.ownsRow w.heap.size 9 1 v' (P ++ [u]).length ((P ++ [u]).map txtV) by simpa using hown')
      have HB' := Lib.hid (show Below w.heap.size w w1 from (HB.out.alloc hbs _).grown hgrow (by simp; omega) (fun k hk => (hown.lt k hk).1))
      clear hown hown' hgrow hbs HO HB S3
      go_wp2_with fail
      go_ret
      exact ⟨_, rfl, by rw [IE.out]; exact StrsAt.of_row HO'.out, HB'.out⟩
end Go.Proofs.YtdmenoimamnldaaGreatDoor
