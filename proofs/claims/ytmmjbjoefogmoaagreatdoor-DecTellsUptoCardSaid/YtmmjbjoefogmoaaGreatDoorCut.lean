/- The walk of linguisterref1.Cut: a text cut at another one. -/
import Derived.Test.YtmmjbjoefogmoaaGreatDoorProg
import Derived.Test.YtmmjbjoefogmoaaGreatDoorRead
import Derived.Test.YtmmjbjoefogmoaaGreatDoorCutP
import Derived.Test.YtmmjbjoefogmoaaGreatDoorStr
import Derived.OwnWalk
import Derived.LoopTactic
namespace Go.Proofs.YtmmjbjoefogmoaaGreatDoor
open Go.RowKit

/-- a call that gives these texts, and turns nothing old -/
def GivesStrs (w : World) (l : List (List UInt8)) (e : Ending) (w' : World) : Prop := ∃ v, e = .returned v ∧ StrsAt w' v l ∧ Below w.heap.size w w'

theorem slice_midI {P : Program} (t : TypeId) (h : P.underlying t = some .string) (L : List UInt8) (i j : Int) (a b : Nat) (hi : i = a) (hj : j = b) (hab : a ≤ b) (hb : b ≤ L.length) (w : World) :
    (Instr.slice t (.string ⟨L.toArray⟩) (some (.int .i64 i)) (some (.int .i64 j)) none).run P w = .ok (.string ⟨((L.drop a).take (b - a)).toArray⟩) w := by
  subst hi hj; exact slice_mid t h L .i64 .i64 a b hab hb w
theorem infoStr : (Tryz.prog.info? 9).map (fun i => (i.zero, i.size, i.bytes)) = some (some (.string ByteArray.empty), 1, 16) := by kernel_rfl

set_option maxRecDepth 100000 in
set_option maxHeartbeats 1000000 in
theorem cut_any (s at_ : List UInt8) (w : World) (ha : at_ ≠ []) (hs : s.length ≤ 4000000000) (hat : at_.length ≤ 4000000000) :
    Calls Tryz.prog 48 #[.string ⟨s.toArray⟩, .string ⟨at_.toArray⟩] w (GivesStrs w (Lib.split s at_)) := by
  obtain ⟨i0, hi, hz0, hz1, hz2⟩ := info_parts infoStr
  have hm : 0 < at_.length := List.length_pos_iff.2 ha
  have HA := Lib.hid ha
  clear ha
  go_enter Tryz.func48, Tryz.ntmps48
  go_wp2_with fail
  go_loopw [5, 6, 7] (fun o f i wr => ∃ (P : List (List UInt8)) (a b : Nat), f = .int .i64 a ∧ i = .int .i64 b ∧ a ≤ b ∧ b ≤ s.length ∧ P.length ≤ a ∧ Hid (wr.ownsRow w.heap.size 9 1 o P.length (P.map txtV)) ∧ Hid (Below w.heap.size w wr) ∧ Hid (Spl.Inv s at_ P a b)) (fun _ _ i _ => s.length - (RowKit.intOf i).toNat)
  case atStart => exact ⟨[], 0, 0, rfl, rfl, Nat.le_refl _, Nat.zero_le _, Nat.le_refl _, ⟨rfl, .inl ⟨rfl, rfl⟩⟩, Below.refl _ _, Spl.inv_start s at_⟩
  case round =>
    obtain ⟨P, a, b, rfl, rfl, hab, hb, hP, HO, HB, HI⟩ := hrel
    by_cases hroom : b + at_.length ≤ s.length
    · have SM := fun w => slice_midI (P := Tryz.prog) 9 Tryz.underlying9 s (b : Int) ((b : Int) + (at_.length : Int)) b (b + at_.length) rfl (by omega) (by omega) hroom w
      have e0 : b + at_.length - b = at_.length := by omega
      rw [e0] at SM
      clear e0
      by_cases hX : (s.drop b).take at_.length = at_
      · have IH := Lib.hid (Spl.inv_hit HI.out HA.out hab hroom hX)
        rw [hX] at SM
        have S2 := fun w => slice_midI (P := Tryz.prog) 9 Tryz.underlying9 s (a : Int) (b : Int) a b rfl rfl hab hb w
        clear hX HI
        generalize (s.drop a).take (b - a) = u at *
        have hown := HO.out
        have hbs := HB.out.size
        go_wp2_with (at_builtin; refine wpList_append_own _ rfl _ _ 87 rfl w.heap.size 9 i0 (.string ByteArray.empty) 1 16 Tryz.underlying87 hi hz0 hz1 hz2 rfl (by decide) _ _ _ rfl (hown.alloc _) ⟨wr.heap.size, 0, none⟩ 1 1 [txtV u] rfl rfl (cell_one_new _ _ _) (fun x hx => by simp at hx; subst hx; rfl) (by unfold maxLen; omega) (by omega) (by simp; omega) ?_; intro v' w1 hown' hgrow _)
        have HO' := Lib.hid (show w1.ownsRow w.heap.size 9 1 v' (P ++ [u]).length ((P ++ [u]).map txtV) by simpa using hown')
        have HB' := Lib.hid (show Below w.heap.size w w1 from (HB.out.alloc hbs _).grown hgrow (by simp; omega) (fun k hk => (hown.lt k hk).1))
        clear hown hown' hgrow hbs HO HB S2
        go_wp2_with fail
        go_roundw
        case rel => exact ⟨P ++ [u], b + at_.length, b + at_.length, by go_num, by go_num, Nat.le_refl _, hroom, by simp; omega, HO', HB', IH⟩
        case measure => simp [RowKit.intOf]; omega
      · have IH := Lib.hid (Spl.inv_miss HI.out hroom hX)
        have hXb : ((s.drop b).take at_.length == at_) = false := beq_eq_false_iff_ne.2 hX
        clear HI hX
        generalize (s.drop b).take at_.length = u at *
        go_wp2_with fail
        go_roundw
        case rel => exact ⟨P, a, b + 1, rfl, by go_num, by omega, by omega, hP, HO, HB, IH⟩
        case measure => simp [RowKit.intOf]; omega
    · have IE := Lib.hid (Spl.inv_end HI.out HA.out hroom)
      have S3 := fun w => slice_from (P := Tryz.prog) 9 Tryz.underlying9 s .i64 a (by omega) w
      clear HI
      generalize s.drop a = u at *
      have hown := HO.out
      have hbs := HB.out.size
      go_wp2_with (at_builtin; refine wpList_append_own _ rfl _ _ 87 rfl w.heap.size 9 i0 (.string ByteArray.empty) 1 16 Tryz.underlying87 hi hz0 hz1 hz2 rfl (by decide) _ _ _ rfl (hown.alloc _) ⟨wr.heap.size, 0, none⟩ 1 1 [txtV u] rfl rfl (cell_one_new _ _ _) (fun x hx => by simp at hx; subst hx; rfl) (by unfold maxLen; omega) (by omega) (by simp; omega) ?_; intro v' w1 hown' hgrow _)
      have HO' := Lib.hid (show w1.ownsRow w.heap.size 9 1 v' (P ++ [u]).length ((P ++ [u]).map txtV) by simpa using hown')
      have HB' := Lib.hid (show Below w.heap.size w w1 from (HB.out.alloc hbs _).grown hgrow (by simp; omega) (fun k hk => (hown.lt k hk).1))
      clear hown hown' hgrow hbs HO HB S3
      go_wp2_with fail
      go_ret
      exact ⟨_, rfl, by rw [IE.out]; exact StrsAt.of_row HO'.out, HB'.out⟩
end Go.Proofs.YtmmjbjoefogmoaaGreatDoor
