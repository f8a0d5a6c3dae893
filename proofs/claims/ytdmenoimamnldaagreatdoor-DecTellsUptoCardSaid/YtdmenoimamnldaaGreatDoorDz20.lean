/- The walk of dec.Text. Conditions: the library's table of powers is there. -/
import Derived.Test.YtdmenoimamnldaaGreatDoorShelf
import Derived.Test.YtdmenoimamnldaaGreatDoorDz0
import Derived.WalkSmall
import Derived.Lib.LaidTab
import Derived.Test.YtdmenoimamnldaaGreatDoorDz9
import Derived.Test.YtdmenoimamnldaaGreatDoorDz1
import Derived.Test.YtdmenoimamnldaaGreatDoorShelfC
import Derived.Test.YtdmenoimamnldaaGreatDoorDz11
import Derived.Test.YtdmenoimamnldaaGreatDoorDz14
import Derived.Test.YtdmenoimamnldaaGreatDoorDz2
import Derived.Deep.DeepCutAuto
namespace Go.Proofs.YtdmenoimamnldaaGreatDoor
open Go.RowKit Go.Lib

theorem gPow : Tryz.prog.globalNamed "internal/strconv.uint64pow10" = some 4 := by kernel_rfl
/-- the table of powers holds its numbers -/
def PowW (w : World) : Prop := Lib.TabIs Tryz.prog w "internal/strconv.uint64pow10" .u64 Lib.pow10Tab
theorem PowW.lt {w : World} (h : PowW w) : 4 < w.heap.size :=
  World.block_lt_of_cell? w ⟨4, 0, none⟩ (TabIs.cell h gPow 0 (by rw [pow10Tab_length]; decide))
theorem PowW.below {w w' : World} (h : PowW w) (hb : Below w.heap.size w w') : PowW w' := var?_below hb gPow h.lt h
theorem PowW.alloc {w : World} (h : PowW w) (o : Obj) : PowW (w.alloc o) := h.below (blw_alloc w o)
theorem PowW.drewN {w : World} (h : PowW w) (n : Nat) : PowW (w.drewN n) := h.below (blw_drewN (Below.refl _ _) n)
theorem blw_grow (w : World) (k : Nat) (os : Array Obj) : Below w.heap.size w (Sort.grow (w.drewN k) os) :=
  ⟨rfl, rfl, rfl, by show w.heap.size ≤ (w.heap ++ os).size; rw [Array.size_append]; omega, fun _ hj => Sort.heap_grow_old (w.drewN k) os hj⟩
theorem itoa_any (n : Int) (w : World) (hp : PowW w) (n0 : -9223372036854775808 ≤ n) (n1 : n ≤ 9223372036854775807) :
    Calls Tryz.prog 31 #[.int .i64 n] w fun e w' => e = .returned (.string ⟨(Lib.itoa n).toArray⟩) ∧ Below w.heap.size w w' :=
  (Tryz.strconv_Itoa n n0 n1 w hp).mono fun _ _ ⟨he, k, os, hw⟩ => ⟨he, hw ▸ blw_grow w k os⟩
theorem itoa_pos (n : Int) (w : World) (hp : PowW w) (n0 : 0 ≤ n) (n1 : n ≤ 9223372036854775807) :
    Calls Tryz.prog 31 #[.int .i64 n] w fun e w' => e = .returned (.string ⟨(Lib.decDigits n.toNat).toArray⟩) ∧ Below w.heap.size w w' := by
  have c := itoa_any n w hp (by omega) n1
  unfold Lib.itoa at c
  rw [if_neg (by omega)] at c
  exact c
end Go.Proofs.YtdmenoimamnldaaGreatDoor
namespace Go.Proofs.YtdmenoimamnldaaGreatDoor
open Go.RowKit
open Dcm (okD)

theorem wrap_small (q : Nat) (h : q ≤ 1000) : wrap64 (q : Int) = (q : Int) := IntWalk.wrap64_in _ ⟨by omega, by omega⟩
theorem trim_any (c : Int) (w : World) : Calls Tryz.prog 30 #[.string ⟨(Lib.itoa c).toArray⟩, .string ⟨#[45]⟩] w fun e w' => e = .returned (.string ⟨(Lib.decDigits c.natAbs).toArray⟩) ∧ w' = w := by
  have h := Tryz.strings_TrimPrefix ⟨(Lib.itoa c).toArray⟩ ⟨#[45]⟩ w
  rw [show Lib.trimPrefix (⟨(Lib.itoa c).toArray⟩ : ByteArray).data.toList (⟨#[45]⟩ : ByteArray).data.toList = Lib.decDigits c.natAbs from Byt.trim_itoa c] at h
  exact h
theorem noughts_any (n : Nat) (w : World) (hn : n ≤ 1000) : Calls Tryz.prog 32 #[.string ⟨#[48]⟩, .int .i64 (n : Int)] w fun e w' => e = .returned (.string ⟨(List.replicate n (48 : UInt8)).toArray⟩) ∧ Below w.heap.size w w' := by
  have h := Tryz.strings_Repeat ⟨#[48]⟩ n w (by omega) (by show 1 * n ≤ _; omega)
  rw [show Lib.repeatL (⟨#[48]⟩ : ByteArray).data.toList n = List.replicate n 48 from Byt.repeat_noughts n] at h
  exact h

set_option maxRecDepth 100000 in
set_option maxHeartbeats 2000000 in
theorem dtext_whole (c : Int) (w : World) (hT : PowW w) (h : okD c 0) (g : List UInt8) (hg : Byt.sgn c = g) (hcg : (c < 0 ∧ g = [45]) ∨ (¬ c < 0 ∧ g = [])) :
    Calls Tryz.prog 13 #[.agg #[.int .i64 c, .int .i64 0]] w fun e w' => e = .returned (.string ⟨(Byt.decText c 0).toArray⟩) ∧ Below w.heap.size w w' := by
  have dl := Byt.dec_len c 0 h
  obtain ⟨_, _, c0, c1⟩ := h
  have CI := Lib.hid fun w hT => itoa_any c w hT (by omega) (by omega)
  have CT := Lib.hid fun w => trim_any c w
  have hX : g ++ Lib.decDigits c.natAbs = Byt.decText c 0 := by rw [← hg]; exact (if_pos (Int.le_refl 0)).symm
  have hl : g.length + (Lib.decDigits c.natAbs).length ≤ 100 := by rw [← List.length_append, hX]; exact dl
  have AD : ∀ w, (Op.stringOp .add ⟨g.toArray⟩ ⟨(Lib.decDigits c.natAbs).toArray⟩).run Tryz.prog w = .ok (.string ⟨(Byt.decText c 0).toArray⟩) w := fun w => by rw [← hX]; exact add_str (P := Tryz.prog) g (Lib.decDigits c.natAbs) (by omega) w
  generalize Byt.decText c 0 = X at *
  generalize Lib.decDigits c.natAbs = D at *
  generalize Lib.itoa c = T at *
  clear hg hX hl dl
  rcases hcg with ⟨hc, rfl⟩ | ⟨hc, rfl⟩
  all_goals
    go_enter Tryz.func13, Tryz.ntmps13
    go_wp2_with fail
    refine (CI.out _ (hT.alloc _)).mono ?_
    rintro e w1 ⟨rfl, hb⟩
    have W1 := Lib.hid (blw_trans (blw_alloc w (.cells #[.int .i64 c, .int .i64 0] 23)) hb)
    have B1 := Lib.hid ((Boxed.made w #[.int .i64 c, .int .i64 0] 23).below hb)
    have k0 := B1.out.cell 0 _ rfl
    have k1 := B1.out.cell 1 _ rfl
    go_wp2_with fail
    refine (CT.out _).mono ?_
    rintro e w2 ⟨rfl, rfl⟩
    clear hb CI CT
    go_wp2_with fail
    go_ret
    exact ⟨rfl, W1.out⟩

set_option maxRecDepth 100000 in
set_option maxHeartbeats 2000000 in
theorem dtext_point (c s : Int) (w : World) (hT : PowW w) (h : okD c s) (hs : 0 < s) (g : List UInt8) (hg : Byt.sgn c = g) (hcg : (c < 0 ∧ g = [45]) ∨ (¬ c < 0 ∧ g = [])) :
    Calls Tryz.prog 13 #[.agg #[.int .i64 c, .int .i64 s]] w fun e w' => e = .returned (.string ⟨(Byt.decText c s).toArray⟩) ∧ Below w.heap.size w w' := by
  have dl := Byt.dec_len c s h
  have zl := Byt.zdig_len c s
  obtain ⟨_, s9, c0, c1⟩ := h
  obtain ⟨k, rfl⟩ : ∃ k : Nat, s = (k : Int) := ⟨s.toNat, by omega⟩
  rw [Int.toNat_natCast] at zl
  have CI := Lib.hid fun w hT => itoa_any c w hT (by omega) (by omega)
  have CT := Lib.hid fun w => trim_any c w
  have hzn : Byt.zn c k = k + 1 - (Lib.decDigits c.natAbs).length := rfl
  have CR := Lib.hid fun w => noughts_any (Byt.zn c k) w (by omega)
  have hZ : List.replicate (Byt.zn c k) (48 : UInt8) ++ Lib.decDigits c.natAbs = Byt.zdig (Byt.zn c k) c.natAbs := rfl
  have hX : g ++ (Byt.zdig (Byt.zn c k) c.natAbs).take ((Byt.zdig (Byt.zn c k) c.natAbs).length - k) ++ [46] ++ (Byt.zdig (Byt.zn c k) c.natAbs).drop ((Byt.zdig (Byt.zn c k) c.natAbs).length - k) = Byt.decText c k := by
    rw [← hg]
    have e := (if_neg (show ¬ (k : Int) ≤ 0 by omega) : Byt.decText c k = _)
    rw [Int.toNat_natCast] at e
    exact e.symm
  have dD : (Lib.decDigits c.natAbs).length ≤ 100 := by
    have := congrArg List.length hZ
    have := congrArg List.length hX
    simp only [List.length_append, List.length_take, List.length_drop, List.length_replicate, List.length_singleton] at *
    omega
  have zl2 : (Byt.zdig (Byt.zn c k) c.natAbs).length = Byt.zn c k + (Lib.decDigits c.natAbs).length := by rw [← hZ, List.length_append, List.length_replicate]
  generalize Byt.zdig (Byt.zn c k) c.natAbs = Z at *
  obtain ⟨q, hq⟩ : ∃ q, q = Z.length - k := ⟨_, rfl⟩
  rw [← hq] at hX
  generalize Byt.decText c k = X at *
  generalize Lib.decDigits c.natAbs = D at *
  generalize Lib.itoa c = T at *
  generalize Byt.zn c k = z at *
  have hr : (List.replicate z (48 : UInt8)).length = z := List.length_replicate
  generalize List.replicate z (48 : UInt8) = R at *
  have A1 : ∀ w, (Op.stringOp .add ⟨R.toArray⟩ ⟨D.toArray⟩).run Tryz.prog w = .ok (.string ⟨Z.toArray⟩) w := fun w => by rw [← hZ]; exact add_str (P := Tryz.prog) R D (by omega) w
  have S1 : ∀ w, (Instr.slice 9 (.string ⟨Z.toArray⟩) none (some (.int .i64 (q : Int))) none).run Tryz.prog w = .ok (.string ⟨(Z.take q).toArray⟩) w := fun w => slice_to (P := Tryz.prog) 9 Tryz.underlying9 Z .i64 q (by omega) w
  have S2 : ∀ w, (Instr.slice 9 (.string ⟨Z.toArray⟩) (some (.int .i64 (q : Int))) none none).run Tryz.prog w = .ok (.string ⟨(Z.drop q).toArray⟩) w := fun w => slice_from (P := Tryz.prog) 9 Tryz.underlying9 Z .i64 q (by omega) w
  have lt : (Z.take q).length ≤ 1000 := by rw [List.length_take]; omega
  have ld : (Z.drop q).length ≤ 1000 := by rw [List.length_drop]; omega
  have lg : g.length ≤ 1 := by rcases hcg with ⟨_, rfl⟩ | ⟨_, rfl⟩ <;> simp
  obtain ⟨X1, hX1⟩ : ∃ X1, X1 = g ++ Z.take q := ⟨_, rfl⟩
  obtain ⟨X2, hX2⟩ : ∃ X2, X2 = X1 ++ [46] := ⟨_, rfl⟩
  have A2 : ∀ w, (Op.stringOp .add ⟨g.toArray⟩ ⟨(Z.take q).toArray⟩).run Tryz.prog w = .ok (.string ⟨X1.toArray⟩) w := fun w => by rw [hX1]; exact add_str (P := Tryz.prog) g (Z.take q) (by omega) w
  have l1 : X1.length ≤ 2000 := by rw [hX1, List.length_append]; omega
  have A3 : ∀ w, (Op.stringOp .add ⟨X1.toArray⟩ ⟨#[46]⟩).run Tryz.prog w = .ok (.string ⟨X2.toArray⟩) w := fun w => by rw [hX2]; exact add_str (P := Tryz.prog) X1 [46] (by simp; omega) w
  have l2 : X2.length ≤ 2001 := by rw [hX2, List.length_append, List.length_singleton]; omega
  have A4 : ∀ w, (Op.stringOp .add ⟨X2.toArray⟩ ⟨(Z.drop q).toArray⟩).run Tryz.prog w = .ok (.string ⟨X.toArray⟩) w := fun w => by rw [← hX, ← hX1, ← hX2]; exact add_str (P := Tryz.prog) X2 (Z.drop q) (by omega) w
  have i1 : IntKind.i64.wrap ((k : Int) + 1) = (k : Int) + 1 := IntWalk.i64_in _ (by omega)
  have i2 : IntKind.i64.wrap ((k : Int) + 1 - (D.length : Int)) = (k : Int) + 1 - (D.length : Int) := IntWalk.i64_in _ (by omega)
  have i3 : IntKind.i64.wrap ((Z.length : Int) - (k : Int)) = (q : Int) := by rw [IntWalk.i64_in _ (by omega)]; omega
  have i4 : ((Z.length : Int) - (k : Int)) = (q : Int) := by omega
  have H6 := Lib.hid (wrap_small q (by omega))
  have hmx : max (0 : Int) ((k : Int) + 1 - (D.length : Int)) = (z : Int) := by omega
  have hk0 : ¬ (k : Int) ≤ 0 := by omega
  clear hg hX hX1 hX2 hZ zl dl hq lt ld l1 l2 lg dD zl2
  generalize Z.take q = Y1 at *
  generalize Z.drop q = Y2 at *
  rcases hcg with ⟨hc, rfl⟩ | ⟨hc, rfl⟩
  all_goals
    go_enter Tryz.func13, Tryz.ntmps13
    go_wp2_with fail
    refine (CI.out _ (hT.alloc _)).mono ?_
    rintro e w1 ⟨rfl, hb⟩
    have W1 := Lib.hid (blw_trans (blw_alloc w (.cells #[.int .i64 c, .int .i64 (k : Int)] 23)) hb)
    have B1 := Lib.hid ((Boxed.made w #[.int .i64 c, .int .i64 (k : Int)] 23).below hb)
    have k0 := B1.out.cell 0 _ rfl
    have k1 := B1.out.cell 1 _ rfl
    go_wp2_with fail
    refine (CT.out _).mono ?_
    rintro e w2 ⟨rfl, rfl⟩
    clear hb CI CT
    go_wp2_with fail
    rw [← hzn]
    clear hzn hmx i1 i2
    refine (CR.out _).mono ?_
    rintro e w3 ⟨rfl, hb⟩
    have W3 := Lib.hid (blw_trans W1.out hb)
    have B3 := Lib.hid (B1.out.below hb)
    clear k0 k1 hb CR B1 W1
    have k0 := B3.out.cell 0 _ rfl
    have k1 := B3.out.cell 1 _ rfl
    go_wp2_with fail
    rw [H6.out]
    go_big_quiet (fail)
    go_wp2_with fail
    go_ret
    exact ⟨rfl, blw_drewN W3.out _⟩
theorem dtext_any (c s : Int) (w : World) (hT : PowW w) (h : okD c s) :
    Calls Tryz.prog 13 #[.agg #[.int .i64 c, .int .i64 s]] w fun e w' => e = .returned (.string ⟨(Byt.decText c s).toArray⟩) ∧ Below w.heap.size w w' := by
  have hcg : (c < 0 ∧ Byt.sgn c = [45]) ∨ (¬ c < 0 ∧ Byt.sgn c = []) := by
    by_cases hc : c < 0
    · exact .inl ⟨hc, if_pos hc⟩
    · exact .inr ⟨hc, if_neg hc⟩
  by_cases hs : 0 < s
  · exact dtext_point c s w hT h hs _ rfl hcg
  · obtain rfl : s = 0 := by have := h.1; omega
    exact dtext_whole c w hT h _ rfl hcg

end Go.Proofs.YtdmenoimamnldaaGreatDoor
