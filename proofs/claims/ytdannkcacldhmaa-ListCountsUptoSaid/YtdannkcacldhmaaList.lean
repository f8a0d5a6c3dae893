/- The walks of list.Join and list.Count. -/
import Derived.Test.YtdannkcacldhmaaShelf
import Derived.Test.YtdannkcacldhmaaRead
import Derived.Test.YtdannkcacldhmaaListP
import Derived.Test.YtdannkcacldhmaaCutP
import Derived.Test.YtdannkcacldhmaaStr
import Derived.Test.YtdannkcacldhmaaErrs
import Derived.Test.YtdannkcacldhmaaHeld
namespace Go.Proofs.Ytdannkcacldhmaa
open Go.RowKit

/-- strings.Join over StrsAt -/
theorem sjoin_any (l : List (List UInt8)) (v : Value) (sep : List UInt8) (w : World) (h : StrsAt w v l) (hn : l.length ≤ 2000000000000) (ht : Lst.total l sep ≤ 2000000000000) :
    Calls Try.prog 38 #[v, .string ⟨sep.toArray⟩] w fun e w' => e = .returned (.string ⟨(Lib.join l sep).toArray⟩) ∧ Below w.heap.size w w' := by
  rcases h with ⟨rfl, a, cap, rfl⟩ | ⟨b, off, cap, rfl, h0, hc, hm, hcell⟩
  · exact (Try.strings_Join_none a cap ⟨sep.toArray⟩ w).mono fun _ _ ⟨he, hw⟩ => ⟨he, hw ▸ Below.refl _ _⟩
  · have hl := Lst.join_le l sep
    have e : (l.map fun x => (⟨x.toArray⟩ : ByteArray)).map (·.data.toList) = l := by simp [Function.comp_def]
    have c := Try.strings_Join b off cap (l.map fun x => ⟨x.toArray⟩) ⟨sep.toArray⟩ w (fun j x hx => by
      rw [List.getElem?_map] at hx
      obtain ⟨y, hy, rfl⟩ := Option.map_eq_some_iff.1 hx
      exact hcell j y hy) (World.block_lt_of_cell? w _ (hcell 0 _ (List.getElem?_eq_getElem h0))) (by rw [List.length_map]; omega) (by rw [List.length_map]; exact hc) (by rw [e]; show (Lib.join l sep).length ≤ _; omega)
    rw [e, List.length_map] at c
    exact c

set_option maxRecDepth 100000 in
set_option maxHeartbeats 1000000 in
theorem ljoin_few (l : List (List UInt8)) (v : Value) (two sep last : List UInt8) (w : World) (h : StrsAt w v l) (hn : l.length < 2) (ht : Lib.lens l ≤ 2000000000000) :
    Calls Try.prog 22 #[v, .string ⟨two.toArray⟩, .string ⟨sep.toArray⟩, .string ⟨last.toArray⟩] w fun e w' => e = .returned (.string ⟨(Lib.join l []).toArray⟩) ∧ Below w.heap.size w w' := by
  have C := Lib.hid (sjoin_any l v [] w h (by omega) (by unfold Lst.total; simp; omega))
  rcases h with ⟨rfl, a, cap, rfl⟩ | ⟨b, off, cap, rfl, h0, hc, hm, hcell⟩
  · go_enter Try.func22, Try.ntmps22
    go_wp2_with fail
    refine (C.out).mono ?_
    rintro e w1 ⟨rfl, hb⟩
    go_wp2_with fail
    go_ret
    exact ⟨rfl, hb⟩
  · clear hcell
    go_enter Try.func22, Try.ntmps22
    go_wp2_with fail
    refine (C.out).mono ?_
    rintro e w1 ⟨rfl, hb⟩
    go_wp2_with fail
    go_ret
    exact ⟨rfl, hb⟩

set_option maxRecDepth 100000 in
set_option maxHeartbeats 1000000 in
theorem ljoin_two (x y : List UInt8) (v : Value) (two sep last : List UInt8) (w : World) (h : StrsAt w v [x, y]) (ht : Lib.lens [x, y] ≤ 2000000000000) (h2 : two.length ≤ 2000000000000) :
    Calls Try.prog 22 #[v, .string ⟨two.toArray⟩, .string ⟨sep.toArray⟩, .string ⟨last.toArray⟩] w fun e w' => e = .returned (.string ⟨(x ++ two ++ y).toArray⟩) ∧ Below w.heap.size w w' := by
  rcases h with ⟨h, _⟩ | ⟨b, off, cap, rfl, h0, hc, hm, hcell⟩
  · cases h
  · have k0 := hcell 0 _ rfl
    have k1 := hcell 1 _ rfl
    clear hcell
    unfold maxLen at hm
    simp [Lib.lens] at ht
    simp at h0 hc
    simp at k0
    have A1 := fun w => add_str (P := Try.prog) x two (by omega) w
    have A2 := fun w => add_str (P := Try.prog) (x ++ two) y (by rw [List.length_append]; omega) w
    go_enter Try.func22, Try.ntmps22
    go_wp2_with fail
    go_big_quiet (fail)
    go_wp2_with fail
    go_ret
    exact ⟨ret_str (by simp), blw_drewN (Below.refl _ _) _⟩

set_option maxRecDepth 100000 in
set_option maxHeartbeats 1000000 in
theorem ljoin_more (l : List (List UInt8)) (z : List UInt8) (v : Value) (two sep last : List UInt8) (w : World) (h : StrsAt w v (l ++ [z])) (hn : 2 ≤ l.length) (hn2 : l.length ≤ 2000000000000) (ht : Lst.total (l ++ [z]) sep ≤ 2000000000000) (hq : last.length ≤ 2000000000000) :
    Calls Try.prog 22 #[v, .string ⟨two.toArray⟩, .string ⟨sep.toArray⟩, .string ⟨last.toArray⟩] w fun e w' => e = .returned (.string ⟨(Lib.join l sep ++ last ++ z).toArray⟩) ∧ Below w.heap.size w w' := by
  have hz : (l ++ [z])[l.length]? = some z := by simp
  have hzl := Lst.lens_at _ _ _ hz
  have htl : Lst.total l sep ≤ Lst.total (l ++ [z]) sep := by
    unfold Lst.total
    have := Lst.lens_take (l ++ [z]) l.length
    rw [List.take_left] at this
    have : sep.length * l.length ≤ sep.length * (l ++ [z]).length := Nat.mul_le_mul_left _ (by simp)
    omega
  have hzt : z.length ≤ 2000000000000 := by unfold Lst.total at ht; omega
  have hjl := Nat.le_trans (Lst.join_le l sep) (Nat.le_trans htl ht)
  have htl2 := Nat.le_trans htl ht
  rcases h with ⟨h, _⟩ | ⟨b, off, cap, rfl, h0, hc, hm, hcell⟩
  · simp at h
  · have kz := hcell l.length z hz
    have HS : StrsAt w (.slice (some ⟨b, off, none⟩) l.length cap) l := by
      refine .inr ⟨b, off, cap, rfl, by omega, by simp at hc; omega, hm, fun j x hx => hcell j x ?_⟩
      rw [List.getElem?_append_left (List.getElem?_eq_some_iff.1 hx).1]
      exact hx
    have CJ := Lib.hid fun w h => sjoin_any l (.slice (some ⟨b, off, none⟩) l.length cap) sep w h (by omega) htl2
    have HS := Lib.hid HS
    have KZ := kz
    clear hcell hz hzl htl
    rw [List.length_append, List.length_singleton] at *
    unfold maxLen at hm
    have hc2 : l.length ≤ cap := by omega
    have hlt1 : (l.length : Int) < (l.length : Int) + 1 := by omega
    have A1 := fun w => add_str (P := Try.prog) (Lib.join l sep) last (by omega) w
    have A2 := fun w => add_str (P := Try.prog) (Lib.join l sep ++ last) z (by rw [List.length_append]; omega) w
    generalize Lib.join l sep = J at *
    go_enter Try.func22, Try.ntmps22
    go_wp2_with fail
    refine wp_region_held_drew (S := fun w' => w'.cell? ⟨b, off + l.length, none⟩ = some (.string ⟨z.toArray⟩) ∧ Hid (StrsAt w' (.slice (some ⟨b, off, none⟩) l.length cap) l) ∧ Hid (Below w.heap.size w w')) (by kernel_rfl) (by exact ⟨by go_keep, HS.out.below (Below.drew (Below.refl _ _)), Below.drew (Below.refl _ _)⟩) (fun hHeld => ?_)
    refine take_run (d := (some 30)) (v := ?v1) 0 rfl rfl (by kernel_rfl) (by kernel_rfl) (by kernel_rfl) (fun _ _ _ h => h) (by rfl) hHeld ?hy1 ?rs1
    case hy1 => (intro w hSw; (try dsimp only at hSw); go_simp) <;> (try with_reducible rfl)
    (try simp only [Act.put, List.setIfInBounds_toArray, List.set_cons_zero, List.set_cons_succ])
    refine take_run (d := (some 31)) (v := ?v2) 1 rfl rfl (by kernel_rfl) (by kernel_rfl) (by kernel_rfl) (fun _ _ _ h => h) (by rfl) hHeld ?hy2 ?rs2
    case hy2 => (intro w hSw; (try dsimp only at hSw); go_simp) <;> (try with_reducible rfl)
    (try simp only [Act.put, List.setIfInBounds_toArray, List.set_cons_zero, List.set_cons_succ])
    refine take_run (d := (some 32)) (v := ?v3) 2 rfl rfl (by kernel_rfl) (by kernel_rfl) (by kernel_rfl) (fun _ _ _ h => h) (by rfl) hHeld ?hy3 ?rs3
    case hy3 => (intro w hSw; (try dsimp only at hSw); go_simp) <;> (try with_reducible rfl)
    (try simp only [Act.put, List.setIfInBounds_toArray, List.set_cons_zero, List.set_cons_succ])
    refine take_run (d := (some 33)) (v := ?v4) 3 rfl rfl (by kernel_rfl) (by kernel_rfl) (by kernel_rfl) (fun _ _ _ h => h) (by rfl) hHeld ?hy4 ?rs4
    case hy4 => (intro w hSw; (try dsimp only at hSw); go_simp) <;> (try with_reducible rfl)
    (try simp only [Act.put, List.setIfInBounds_toArray, List.set_cons_zero, List.set_cons_succ])
    refine take_run (d := (some 35)) (v := ?v5) 5 rfl rfl (by kernel_rfl) (by kernel_rfl) (by kernel_rfl) (fun _ _ _ h => h) (by rfl) hHeld ?hy5 ?rs5
    case hy5 => (intro w hSw; (try dsimp only at hSw); go_simp) <;> (try with_reducible rfl)
    (try simp only [Act.put, List.setIfInBounds_toArray, List.set_cons_zero, List.set_cons_succ])
    refine take_run (d := (some 37)) (v := ?v6) 7 rfl rfl (by kernel_rfl) (by kernel_rfl) (by kernel_rfl) (fun _ _ _ h => h) (by rfl) hHeld ?hy6 ?rs6
    case hy6 => (intro w hSw; (try dsimp only at hSw); go_simp) <;> (try with_reducible rfl)
    (try simp only [Act.put, List.setIfInBounds_toArray, List.set_cons_zero, List.set_cons_succ])
    refine take_run (d := (some 38)) (v := ?v7) 8 rfl rfl (by kernel_rfl) (by kernel_rfl) (by kernel_rfl) (fun _ _ _ h => h) (by rfl) hHeld ?hy7 ?rs7
    case hy7 => (intro w hSw; (try dsimp only at hSw); go_simp) <;> (try with_reducible rfl)
    (try simp only [Act.put, List.setIfInBounds_toArray, List.set_cons_zero, List.set_cons_succ])
    refine take_run (d := (some 39)) (v := ?v8) 9 rfl rfl (by kernel_rfl) (by kernel_rfl) (by kernel_rfl) (fun _ _ _ h => h) (by rfl) hHeld ?hy8 ?rs8
    case hy8 => (intro w hSw; (try dsimp only at hSw); go_simp) <;> (try with_reducible rfl)
    (try simp only [Act.put, List.setIfInBounds_toArray, List.set_cons_zero, List.set_cons_succ])
    refine take_run (d := (some 40)) (v := ?v9) 10 rfl rfl (by kernel_rfl) (by kernel_rfl) (by kernel_rfl) (fun _ _ _ h => h) (by rfl) hHeld ?hy9 ?rs9
    case hy9 => (intro w hSw; (try dsimp only at hSw); go_simp) <;> (try with_reducible rfl)
    (try simp only [Act.put, List.setIfInBounds_toArray, List.set_cons_zero, List.set_cons_succ])
    refine take_call 4 rfl (by kernel_rfl) (by rfl) (fun K hK => ?_)
    go_simp
    refine (CJ.out _ (by obtain ⟨_, h1, _⟩ := hHeld; exact h1.out)).mono ?_
    rintro e w' ⟨rfl, hb⟩
    refine hK.out _ _ (by obtain ⟨h0, h1, hw⟩ := hHeld; exact ⟨cell_keep h0 hb, Lib.hid (h1.out.below hb), Lib.hid (blw_trans hw.out hb)⟩) (fun hHeld => ?_)
    clear hK K
    (try simp only [Act.put, List.setIfInBounds_toArray, List.set_cons_zero, List.set_cons_succ])
    refine take_run (d := (some 36)) (v := ?v11) 6 rfl rfl (by kernel_rfl) (by kernel_rfl) (by kernel_rfl) (fun _ _ _ h => h) (by rfl) hHeld ?hy11 ?rs11
    case hy11 => (intro w hSw; (try dsimp only at hSw); go_simp) <;> (try with_reducible rfl)
    (try simp only [Act.put, List.setIfInBounds_toArray, List.set_cons_zero, List.set_cons_succ])
    refine take_run (d := (some 41)) (v := ?v12) 11 rfl rfl (by kernel_rfl) (by kernel_rfl) (by kernel_rfl) (fun _ _ _ h => h) (by rfl) hHeld ?hy12 ?rs12
    case hy12 => (intro w hSw; (try dsimp only at hSw); go_simp) <;> (try with_reducible rfl)
    (try simp only [Act.put, List.setIfInBounds_toArray, List.set_cons_zero, List.set_cons_succ])
    refine take_run (d := (some 8)) (v := ?v13) 12 rfl rfl (by kernel_rfl) (by kernel_rfl) (by kernel_rfl) (fun _ _ _ h => h) (by rfl) hHeld ?hy13 ?rs13
    case hy13 => (intro w hSw; (try dsimp only at hSw); go_simp) <;> (try with_reducible rfl)
    (try simp only [Act.put, List.setIfInBounds_toArray, List.set_cons_zero, List.set_cons_succ])
    refine wpAnyH_done (by kernel_rfl) ?_ _
    obtain ⟨z0, z1, zW⟩ := hHeld
    go_wp2
    go_ret
    exact ⟨ret_str (by simp), zW.out⟩

theorem lcount_no (s : ByteArray) (w : World) :
    Calls Try.prog 24 #[.string s, .string ⟨#[]⟩] w fun e w' => e = .returned (.tuple #[.int .i64 0, errV 3]) ∧ Below w.heap.size w w' := by
  go_enter Try.func24, Try.ntmps24
  go_wp2_with fail
  go_ret2
  exact ⟨rfl, Below.refl _ _⟩
theorem lcount_yes (s sep : List UInt8) (m : Int) (w : World) (hm : w.cell? ⟨0, 0, none⟩ = some (.int .i64 m)) (hsep : sep ≠ []) (hs : s.length ≤ 4000000000) :
    Calls Try.prog 24 #[.string ⟨s.toArray⟩, .string ⟨sep.toArray⟩] w fun e w' => e = .returned (.tuple #[.int .i64 ((Lib.split s sep).length : Int), .nilIface]) ∧ w = w' := by
  have hl : 1 ≤ sep.length := List.length_pos_iff.2 hsep
  have C : Hid (Calls Try.prog 39 #[.string ⟨s.toArray⟩, .string ⟨sep.toArray⟩] w fun e w' => e = .returned (.int .i64 ((Lib.count s sep : Nat) : Int)) ∧ w' = w) :=
    Lib.hid (Try.strings_Count_any ⟨s.toArray⟩ ⟨sep.toArray⟩ m w (by rw [size_list]; omega) hm (by rw [size_list]; exact hl))
  have E := Lib.hid (Spl.split_len (s := s) hsep)
  have hc := Lib.count_le s sep
  have ne : (sep == []) = false := beq_eq_false_iff_ne.2 hsep
  have ne2 : sep.isEmpty = false := List.isEmpty_eq_false_iff.2 hsep
  clear hsep
  generalize Lib.count s sep = n at *
  go_enter Try.func24, Try.ntmps24
  go_wp2_with fail
  refine (C.out).mono ?_
  rintro e w1 ⟨rfl, rfl⟩
  go_wp2_with fail
  go_ret2
  exact ⟨by rw [E.out]; simp, rfl⟩
end Go.Proofs.Ytdannkcacldhmaa
