/- The walks of nout.Check and nout.check. Conditions: the texts are short. -/
import Derived.Test.YtaijjffnamjhiaaGreatDoorNpat
import Derived.Test.YtaijjffnamjhiaaGreatDoorShelfU
import Derived.Test.YtaijjffnamjhiaaGreatDoorBoxS
namespace Go.Proofs.YtaijjffnamjhiaaGreatDoor
open Go.RowKit
theorem idx4_neg (x : UInt8) : decide (Lib.indexByte Nt.sgnL x < 0) = !Nt.sgnL.contains x := by
  by_cases h1 : x = 46
  · subst h1; decide
  by_cases h2 : x = 44
  · subst h2; decide
  by_cases h3 : x = 39
  · subst h3; decide
  by_cases h4 : x = 95
  · subst h4; decide
  have b : ∀ y : UInt8, x ≠ y → (y == x) = false := fun y h => beq_eq_false_iff_ne.2 fun e => h e.symm
  simp [Nt.sgnL, Lib.indexByte, b _ h1, b _ h2, b _ h3, b _ h4, h1, h2, h3, h4]
theorem ibyte_any (x : UInt8) (w : World) : Calls Tryz.prog 93 #[.string ⟨#[46, 44, 39, 95]⟩, .int .u8 (x.toNat : Int)] w fun e w' => e = .returned (.int .i64 (Lib.indexByte Nt.sgnL x)) ∧ w' = w := by
  have h := Tryz.strings_IndexByte ⟨#[46, 44, 39, 95]⟩ (x.toNat : Int) w
  rw [show ((x.toNat : Int).toNat.toUInt8) = x by simp] at h
  exact h
theorem byteN_eq (x y : UInt8) : ((x.toNat : Int) == (y.toNat : Int)) = (x == y) := by
  rw [Bool.eq_iff_iff, beq_iff_eq, beq_iff_eq]
  constructor
  · intro h; exact UInt8.toNat.inj (by omega)
  · rintro rfl; rfl

set_option maxRecDepth 100000 in
set_option maxHeartbeats 2000000 in
theorem nck_any (pt cm : UInt8) (w : World) :
    Calls Tryz.prog 39 #[.agg #[.int .u8 (pt.toNat : Int), .int .u8 (cm.toNat : Int)]] w fun e w' => e = .returned (errN (if Nt.symB pt cm then 0 else 3)) ∧ Below w.heap.size w w' := by
  have CP := Lib.hid fun w => ibyte_any pt w
  have CC := Lib.hid fun w => ibyte_any cm w
  have hb := byteN_eq pt cm
  have n1 := idx4_neg pt
  have n2 := idx4_neg cm
  have hs : Nt.symB pt cm = (!(pt == cm) && Nt.sgnL.contains pt && Nt.sgnL.contains cm) := rfl
  rw [hs]
  clear hs
  generalize (pt == cm) = E at *
  generalize Nt.sgnL.contains pt = A at *
  generalize Nt.sgnL.contains cm = B at *
  generalize (pt.toNat : Int) = p at *
  generalize (cm.toNat : Int) = q at *
  generalize Lib.indexByte Nt.sgnL pt = i at *
  generalize Lib.indexByte Nt.sgnL cm = j at *
  have W0 := Lib.hid (blw_alloc w (.cells #[.int .u8 p, .int .u8 q] 71))
  cases E <;> cases A <;> cases B <;> simp only [Bool.not_true, Bool.not_false, Bool.and_true, Bool.and_false, if_true, if_false, Bool.false_eq_true] at * <;> clear pt cm
  all_goals
    go_enter Tryz.func39, Tryz.ntmps39
    go_wp2_with fail
    try (refine (CP.out _).mono ?_; rintro e w' ⟨rfl, rfl⟩; go_wp2_with fail)
    try (refine (CC.out _).mono ?_; rintro e w' ⟨rfl, rfl⟩; go_wp2_with fail)
    go_ret
    exact ⟨rfl, W0.out⟩
def pV (p : Nt.Pt) : Value := .agg #[.string ⟨p.pre.toArray⟩, .string ⟨p.suf.toArray⟩, .int .i64 p.mi, .int .i64 p.nf, .int .i64 p.mf, .int .i64 p.g, .int .i64 p.g2]

set_option maxRecDepth 100000 in
set_option maxHeartbeats 2000000 in
theorem chk_any (p : Nt.Pt) (pt cm : UInt8) (w : World) (h1 : p.pre.length ≤ 1000000000) (h2 : p.suf.length ≤ 1000000000) :
    Calls Tryz.prog 74 #[pV p, .agg #[.int .u8 (pt.toNat : Int), .int .u8 (cm.toNat : Int)]] w fun e w' => e = .returned (errN (Nt.allE p pt cm)) ∧ Below w.heap.size w w' := by
  have CP := Lib.hid fun w => pck_any p w h1 h2
  have CC := Lib.hid fun w => nck_any pt cm w
  unfold Nt.allE
  generalize hE : Nt.patE p = E at *
  clear hE
  generalize (if Nt.symB pt cm then (0 : Int) else 3) = F at *
  unfold pV
  obtain ⟨pre, suf, mi, nf, mf, g, g2⟩ := p
  simp only at *
  generalize (pt.toNat : Int) = a at *
  generalize (cm.toNat : Int) = b at *
  clear pt cm h1 h2
  have W0 := Lib.hid (blw_trans (blw_alloc w (.cells #[.string ⟨pre.toArray⟩, .string ⟨suf.toArray⟩, .int .i64 mi, .int .i64 nf, .int .i64 mf, .int .i64 g, .int .i64 g2] 69)) (blw_alloc _ (.cells #[.int .u8 a, .int .u8 b] 71)))
  have Y0 := Lib.hid (Boxed.at (q := w.heap.size + 1) (Boxed.made (w.alloc (.cells #[.string ⟨pre.toArray⟩, .string ⟨suf.toArray⟩, .int .i64 mi, .int .i64 nf, .int .i64 mf, .int .i64 g, .int .i64 g2] 69)) #[.int .u8 a, .int .u8 b] 71) (by simp))
  by_cases h0 : E = 0
  · subst h0
    rw [show errN 0 = .nilIface from rfl] at CP
    rw [if_neg (by simp)]
    go_enter Tryz.func74, Tryz.ntmps74
    go_wp2_with fail
    refine (CP.out _).mono ?_
    rintro e w1 ⟨rfl, hb⟩
    have W1 := Lib.hid (blw_trans W0.out hb)
    have Y1 := Lib.hid (Y0.out.below hb)
    clear hb CP W0 Y0
    have y0 := Y1.out.cell 0 _ rfl
    have y1 := Y1.out.cell 1 _ rfl
    go_wp2_with fail
    refine (CC.out _).mono ?_
    rintro e w2 ⟨rfl, hb⟩
    have W2 := Lib.hid (blw_trans W1.out hb)
    clear hb CC W1 Y1 y0 y1
    go_wp2_with fail
    go_ret
    exact ⟨rfl, W2.out⟩
  · rw [show errN E = errV E from if_neg h0] at CP
    rw [if_pos h0, show errN E = errV E from if_neg h0]
    go_enter Tryz.func74, Tryz.ntmps74
    go_wp2_with fail
    refine (CP.out _).mono ?_
    rintro e w1 ⟨rfl, hb⟩
    have W1 := Lib.hid (blw_trans W0.out hb)
    clear hb CP W0 Y0
    go_wp2_with fail
    go_ret
    exact ⟨rfl, W1.out⟩
end Go.Proofs.YtaijjffnamjhiaaGreatDoor
