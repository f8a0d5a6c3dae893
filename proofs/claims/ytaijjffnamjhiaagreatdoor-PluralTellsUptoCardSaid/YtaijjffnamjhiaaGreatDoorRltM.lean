/- The walk of linguisterref1.RuleHolds: does a right rule hold? Condition: it lies in memory as it says. -/
import Derived.Test.YtaijjffnamjhiaaGreatDoorRulFine
import Derived.Test.YtaijjffnamjhiaaGreatDoorRchk
import Derived.Test.YtaijjffnamjhiaaGreatDoorRulQ
import Derived.Test.YtaijjffnamjhiaaGreatDoorDrew
import Derived.Test.YtaijjffnamjhiaaGreatDoorHeld
import Derived.OwnWalk
import Derived.Test.YtaijjffnamjhiaaGreatDoorDigits
import Derived.Deep.DeepCutAuto
import Derived.Deep.CutRange
import Derived.Test.YtaijjffnamjhiaaGreatDoorRparA
import Derived.Test.YtaijjffnamjhiaaGreatDoorRofM
import Derived.WalkKit
import Derived.MapKept
import Derived.Test.YtaijjffnamjhiaaGreatDoorRulFind
import Derived.Test.YtaijjffnamjhiaaGreatDoorBoxS
import Derived.Lib.Hide
namespace Go.Proofs.YtaijjffnamjhiaaGreatDoor
open Go.RowKit

/-- all but the operand's name -/
def relR (mod : Int) (rs : List (Int × Int)) : Bool := decide (0 ≤ mod) && decide (mod ≤ 1000000) && !rs.isEmpty && rs.all Rul.rngOk

set_option maxRecDepth 100000 in
set_option maxHeartbeats 4000000 in
theorem relfault_at (opI mod : Int) (no : Bool) (rs : List (Int × Int)) (a : Option Addr) (n c : Nat) (w : World) (hs : SlAt 2 RngC w (.slice a n c) rs)
    (hop : opI = 110 ∨ opI = 105 ∨ opI = 118 ∨ opI = 119 ∨ opI = 102 ∨ opI = 116) :
    Calls Tryz.prog 50 #[.agg #[.int .u8 opI, .int .i64 mod, .bool no, .slice a n c]] w fun e w' => e = .returned (.bool (!relR mod rs)) ∧ Below w.heap.size w w' := by
  have HR := Lib.hid (show relR mod rs = (decide (0 ≤ mod) && decide (mod ≤ 1000000) && !rs.isEmpty && rs.all Rul.rngOk) from rfl)
  generalize relR mod rs = R at *
  obtain ⟨A, cap, e, hm, hcell⟩ := hs.spread
  injection e with e1 e2 e3
  subst e1 e2 e3
  have HC := Lib.hid hcell
  have hE : rs.isEmpty = decide ((rs.length : Int) = 0) := by cases rs <;> simp <;> omega
  rw [hE] at HR
  obtain ⟨n, hn⟩ : ∃ n, rs.length = n := ⟨_, rfl⟩
  rw [hn] at hm HR ⊢
  have HN := Lib.hid hn
  unfold maxLen at hm
  have W1 := Lib.hid (blw_alloc w (.cells #[.int .u8 opI, .int .i64 mod, .bool no, .slice a n c] 106))
  have B1 := Lib.hid (Boxed.made w #[.int .u8 opI, .int .i64 mod, .bool no, .slice a n c] 106)
  clear hs hcell hn hE
  rcases hop with rfl | rfl | rfl | rfl | rfl | rfl
  · skip
    by_cases h0 : mod < 0
    · obtain rfl : R = false := by rw [HR.out, dec_no (show ¬ 0 ≤ mod by omega)]; rfl
      have d0 : decide (mod < 0) = true := dec_yes h0
      go_enter Tryz.func50, Tryz.ntmps50
      go_wp2_with fail
      go_ret
      exact ⟨rfl, W1.out⟩
    · have d0 : decide (mod < 0) = false := dec_no h0
      by_cases h1 : 1000000 < mod
      · obtain rfl : R = false := by rw [HR.out, dec_yes (show 0 ≤ mod by omega), dec_no (show ¬ mod ≤ 1000000 by omega)]; rfl
        have d1 : decide (1000000 < mod) = true := dec_yes h1
        go_enter Tryz.func50, Tryz.ntmps50
        go_wp2_with fail
        go_ret
        exact ⟨rfl, W1.out⟩
      · have d1 : decide (1000000 < mod) = false := dec_no h1
        by_cases h2 : (n : Int) = 0
        · obtain rfl : R = false := by rw [HR.out, dec_yes (show 0 ≤ mod by omega), dec_yes (show mod ≤ 1000000 by omega), dec_yes h2]; rfl
          have e2 : ((n : Int) == 0) = true := beq_yes h2
          go_enter Tryz.func50, Tryz.ntmps50
          go_wp2_with fail
          go_ret
          exact ⟨rfl, W1.out⟩
        · obtain rfl : R = rs.all Rul.rngOk := by rw [HR.out, dec_yes (show 0 ≤ mod by omega), dec_yes (show mod ≤ 1000000 by omega), dec_no h2]; simp
          have e2 : ((n : Int) == 0) = false := beq_no h2
          clear HR
          go_enter Tryz.func50, Tryz.ntmps50
          go_wp2_with fail
          obtain ⟨v, hv⟩ : ∃ v, w.alloc (.cells #[.int .u8 110, .int .i64 mod, .bool no, .slice a n c] 106) = v := ⟨_, rfl⟩
          rw [hv] at W1 B1 ⊢
          clear hv
          clear h0 h1 h2 d0 d1 e2
          go_loopw [3] (fun i wr => ∃ k : Nat, i = .int .i64 k ∧ k ≤ n ∧ Hid (Drew v wr) ∧ Hid ((rs.take k).all Rul.rngOk = true)) (fun i _ => n - (RowKit.intOf i).toNat)
          case atStart => exact ⟨0, rfl, Nat.zero_le _, Drew.refl _, Lib.hid (by simp)⟩
          case round =>
            obtain ⟨k, rfl, hk, HD, HA⟩ := hrel
            have K3 := (B1.out.below HD.out.below).cell 3 _ rfl
            by_cases hlt : k < n
            · obtain ⟨x, hx⟩ : ∃ x, rs[k]? = some x := ⟨rs[k]'(by have := HN.out; omega), List.getElem?_eq_getElem (by have := HN.out; omega)⟩
              obtain ⟨b, off, rfl, hx0, hx1⟩ := HC.out k x hx
              have x0 := cell_keep (cell_keep hx0 W1.out) HD.out.below
              have x1 := cell_keep (cell_keep hx1 W1.out) HD.out.below
              have HT := Lib.hid (all_take (p := Rul.rngOk) hx HA.out)
              have HF : Hid (Rul.rngOk x = false → rs.all Rul.rngOk = false) := Lib.hid fun h => by
                rw [List.all_eq_false]
                exact ⟨x, List.mem_of_getElem? hx, by rw [h]; decide⟩
              have HO := Lib.hid (show Rul.rngOk x = (decide (0 ≤ x.1) && decide (x.1 ≤ x.2) && decide (x.2 ≤ 1000000)) from rfl)
              clear hx hx0 hx1
              obtain ⟨p, q⟩ := x
              dsimp only at *
              have k0 : (0 : Int) ≤ (k : Int) := by omega
              have k1 : (k : Int) < (n : Int) := by omega
              by_cases g0 : p < 0
              · have gd : decide (p < 0) = true := dec_yes g0
                have hf := HF.out (by rw [HO.out, dec_no (show ¬ 0 ≤ p by omega)]; rfl)
                go_wp2_with fail
                go_region
                go_wp2_with fail
                go_ret
                exact ⟨ret_bool (by rw [hf]; rfl), W1.out.trans (Below.mono (Below.drew HD.out.below) W1.out.size)⟩
              · have gd : decide (p < 0) = false := dec_no g0
                by_cases g1 : q < p
                · have gd1 : decide (q < p) = true := dec_yes g1
                  have hf := HF.out (by rw [HO.out, dec_no (show ¬ p ≤ q by omega)]; simp)
                  go_wp2_with fail
                  go_region
                  go_wp2_with fail
                  go_ret
                  exact ⟨ret_bool (by rw [hf]; rfl), W1.out.trans (Below.mono (Below.drew HD.out.below) W1.out.size)⟩
                · have gd1 : decide (q < p) = false := dec_no g1
                  by_cases g2 : 1000000 < q
                  · have gd2 : decide (1000000 < q) = true := dec_yes g2
                    have hf := HF.out (by rw [HO.out, dec_no (show ¬ q ≤ 1000000 by omega)]; simp)
                    go_wp2_with fail
                    go_region
                    go_wp2_with fail
                    go_ret
                    exact ⟨ret_bool (by rw [hf]; rfl), W1.out.trans (Below.mono (Below.drew HD.out.below) W1.out.size)⟩
                  · have gd2 : decide (1000000 < q) = false := dec_no g2
                    have ht := Lib.hid (HT.out (by rw [HO.out, dec_yes (show 0 ≤ p by omega), dec_yes (show p ≤ q by omega), dec_yes (show q ≤ 1000000 by omega)]; rfl))
                    go_wp2_with fail
                    go_region
                    go_wp2_with fail
                    go_roundw
                    case rel => exact ⟨k + 1, by go_num, by omega, Lib.hid (HD.out.drewN 1), ht⟩
                    case measure => simp [RowKit.intOf]; omega
            · have e : k = n := by omega
              subst e
              have hf : rs.all Rul.rngOk = true := by have := HA.out; rwa [List.take_of_length_le (by have := HN.out; omega)] at this
              go_wp2_with fail
              go_ret
              exact ⟨ret_bool (by rw [hf]; rfl), W1.out.trans (Below.mono HD.out.below W1.out.size)⟩
  · skip
    by_cases h0 : mod < 0
    · obtain rfl : R = false := by rw [HR.out, dec_no (show ¬ 0 ≤ mod by omega)]; rfl
      have d0 : decide (mod < 0) = true := dec_yes h0
      go_enter Tryz.func50, Tryz.ntmps50
      go_wp2_with fail
      go_ret
      exact ⟨rfl, W1.out⟩
    · have d0 : decide (mod < 0) = false := dec_no h0
      by_cases h1 : 1000000 < mod
      · obtain rfl : R = false := by rw [HR.out, dec_yes (show 0 ≤ mod by omega), dec_no (show ¬ mod ≤ 1000000 by omega)]; rfl
        have d1 : decide (1000000 < mod) = true := dec_yes h1
        go_enter Tryz.func50, Tryz.ntmps50
        go_wp2_with fail
        go_ret
        exact ⟨rfl, W1.out⟩
      · have d1 : decide (1000000 < mod) = false := dec_no h1
        by_cases h2 : (n : Int) = 0
        · obtain rfl : R = false := by rw [HR.out, dec_yes (show 0 ≤ mod by omega), dec_yes (show mod ≤ 1000000 by omega), dec_yes h2]; rfl
          have e2 : ((n : Int) == 0) = true := beq_yes h2
          go_enter Tryz.func50, Tryz.ntmps50
          go_wp2_with fail
          go_ret
          exact ⟨rfl, W1.out⟩
        · obtain rfl : R = rs.all Rul.rngOk := by rw [HR.out, dec_yes (show 0 ≤ mod by omega), dec_yes (show mod ≤ 1000000 by omega), dec_no h2]; simp
          have e2 : ((n : Int) == 0) = false := beq_no h2
          clear HR
          go_enter Tryz.func50, Tryz.ntmps50
          go_wp2_with fail
          obtain ⟨v, hv⟩ : ∃ v, w.alloc (.cells #[.int .u8 105, .int .i64 mod, .bool no, .slice a n c] 106) = v := ⟨_, rfl⟩
          rw [hv] at W1 B1 ⊢
          clear hv
          clear h0 h1 h2 d0 d1 e2
          go_loopw [3] (fun i wr => ∃ k : Nat, i = .int .i64 k ∧ k ≤ n ∧ Hid (Drew v wr) ∧ Hid ((rs.take k).all Rul.rngOk = true)) (fun i _ => n - (RowKit.intOf i).toNat)
          case atStart => exact ⟨0, rfl, Nat.zero_le _, Drew.refl _, Lib.hid (by simp)⟩
          case round =>
            obtain ⟨k, rfl, hk, HD, HA⟩ := hrel
            have K3 := (B1.out.below HD.out.below).cell 3 _ rfl
            by_cases hlt : k < n
            · obtain ⟨x, hx⟩ : ∃ x, rs[k]? = some x := ⟨rs[k]'(by have := HN.out; omega), List.getElem?_eq_getElem (by have := HN.out; omega)⟩
              obtain ⟨b, off, rfl, hx0, hx1⟩ := HC.out k x hx
              have x0 := cell_keep (cell_keep hx0 W1.out) HD.out.below
              have x1 := cell_keep (cell_keep hx1 W1.out) HD.out.below
              have HT := Lib.hid (all_take (p := Rul.rngOk) hx HA.out)
              have HF : Hid (Rul.rngOk x = false → rs.all Rul.rngOk = false) := Lib.hid fun h => by
                rw [List.all_eq_false]
                exact ⟨x, List.mem_of_getElem? hx, by rw [h]; decide⟩
              have HO := Lib.hid (show Rul.rngOk x = (decide (0 ≤ x.1) && decide (x.1 ≤ x.2) && decide (x.2 ≤ 1000000)) from rfl)
              clear hx hx0 hx1
              obtain ⟨p, q⟩ := x
              dsimp only at *
              have k0 : (0 : Int) ≤ (k : Int) := by omega
              have k1 : (k : Int) < (n : Int) := by omega
              by_cases g0 : p < 0
              · have gd : decide (p < 0) = true := dec_yes g0
                have hf := HF.out (by rw [HO.out, dec_no (show ¬ 0 ≤ p by omega)]; rfl)
                go_wp2_with fail
                go_region
                go_wp2_with fail
                go_ret
                exact ⟨ret_bool (by rw [hf]; rfl), W1.out.trans (Below.mono (Below.drew HD.out.below) W1.out.size)⟩
              · have gd : decide (p < 0) = false := dec_no g0
                by_cases g1 : q < p
                · have gd1 : decide (q < p) = true := dec_yes g1
                  have hf := HF.out (by rw [HO.out, dec_no (show ¬ p ≤ q by omega)]; simp)
                  go_wp2_with fail
                  go_region
                  go_wp2_with fail
                  go_ret
                  exact ⟨ret_bool (by rw [hf]; rfl), W1.out.trans (Below.mono (Below.drew HD.out.below) W1.out.size)⟩
                · have gd1 : decide (q < p) = false := dec_no g1
                  by_cases g2 : 1000000 < q
                  · have gd2 : decide (1000000 < q) = true := dec_yes g2
                    have hf := HF.out (by rw [HO.out, dec_no (show ¬ q ≤ 1000000 by omega)]; simp)
                    go_wp2_with fail
                    go_region
                    go_wp2_with fail
                    go_ret
                    exact ⟨ret_bool (by rw [hf]; rfl), W1.out.trans (Below.mono (Below.drew HD.out.below) W1.out.size)⟩
                  · have gd2 : decide (1000000 < q) = false := dec_no g2
                    have ht := Lib.hid (HT.out (by rw [HO.out, dec_yes (show 0 ≤ p by omega), dec_yes (show p ≤ q by omega), dec_yes (show q ≤ 1000000 by omega)]; rfl))
                    go_wp2_with fail
                    go_region
                    go_wp2_with fail
                    go_roundw
                    case rel => exact ⟨k + 1, by go_num, by omega, Lib.hid (HD.out.drewN 1), ht⟩
                    case measure => simp [RowKit.intOf]; omega
            · have e : k = n := by omega
              subst e
              have hf : rs.all Rul.rngOk = true := by have := HA.out; rwa [List.take_of_length_le (by have := HN.out; omega)] at this
              go_wp2_with fail
              go_ret
              exact ⟨ret_bool (by rw [hf]; rfl), W1.out.trans (Below.mono HD.out.below W1.out.size)⟩
  · skip
    by_cases h0 : mod < 0
    · obtain rfl : R = false := by rw [HR.out, dec_no (show ¬ 0 ≤ mod by omega)]; rfl
      have d0 : decide (mod < 0) = true := dec_yes h0
      go_enter Tryz.func50, Tryz.ntmps50
      go_wp2_with fail
      go_ret
      exact ⟨rfl, W1.out⟩
    · have d0 : decide (mod < 0) = false := dec_no h0
      by_cases h1 : 1000000 < mod
      · obtain rfl : R = false := by rw [HR.out, dec_yes (show 0 ≤ mod by omega), dec_no (show ¬ mod ≤ 1000000 by omega)]; rfl
        have d1 : decide (1000000 < mod) = true := dec_yes h1
        go_enter Tryz.func50, Tryz.ntmps50
        go_wp2_with fail
        go_ret
        exact ⟨rfl, W1.out⟩
      · have d1 : decide (1000000 < mod) = false := dec_no h1
        by_cases h2 : (n : Int) = 0
        · obtain rfl : R = false := by rw [HR.out, dec_yes (show 0 ≤ mod by omega), dec_yes (show mod ≤ 1000000 by omega), dec_yes h2]; rfl
          have e2 : ((n : Int) == 0) = true := beq_yes h2
          go_enter Tryz.func50, Tryz.ntmps50
          go_wp2_with fail
          go_ret
          exact ⟨rfl, W1.out⟩
        · obtain rfl : R = rs.all Rul.rngOk := by rw [HR.out, dec_yes (show 0 ≤ mod by omega), dec_yes (show mod ≤ 1000000 by omega), dec_no h2]; simp
          have e2 : ((n : Int) == 0) = false := beq_no h2
          clear HR
          go_enter Tryz.func50, Tryz.ntmps50
          go_wp2_with fail
          obtain ⟨v, hv⟩ : ∃ v, w.alloc (.cells #[.int .u8 118, .int .i64 mod, .bool no, .slice a n c] 106) = v := ⟨_, rfl⟩
          rw [hv] at W1 B1 ⊢
          clear hv
          clear h0 h1 h2 d0 d1 e2
          go_loopw [3] (fun i wr => ∃ k : Nat, i = .int .i64 k ∧ k ≤ n ∧ Hid (Drew v wr) ∧ Hid ((rs.take k).all Rul.rngOk = true)) (fun i _ => n - (RowKit.intOf i).toNat)
          case atStart => exact ⟨0, rfl, Nat.zero_le _, Drew.refl _, Lib.hid (by simp)⟩
          case round =>
            obtain ⟨k, rfl, hk, HD, HA⟩ := hrel
            have K3 := (B1.out.below HD.out.below).cell 3 _ rfl
            by_cases hlt : k < n
            · obtain ⟨x, hx⟩ : ∃ x, rs[k]? = some x := ⟨rs[k]'(by have := HN.out; omega), List.getElem?_eq_getElem (by have := HN.out; omega)⟩
              obtain ⟨b, off, rfl, hx0, hx1⟩ := HC.out k x hx
              have x0 := cell_keep (cell_keep hx0 W1.out) HD.out.below
              have x1 := cell_keep (cell_keep hx1 W1.out) HD.out.below
              have HT := Lib.hid (all_take (p := Rul.rngOk) hx HA.out)
              have HF : Hid (Rul.rngOk x = false → rs.all Rul.rngOk = false) := Lib.hid fun h => by
                rw [List.all_eq_false]
                exact ⟨x, List.mem_of_getElem? hx, by rw [h]; decide⟩
              have HO := Lib.hid (show Rul.rngOk x = (decide (0 ≤ x.1) && decide (x.1 ≤ x.2) && decide (x.2 ≤ 1000000)) from rfl)
              clear hx hx0 hx1
              obtain ⟨p, q⟩ := x
              dsimp only at *
              have k0 : (0 : Int) ≤ (k : Int) := by omega
              have k1 : (k : Int) < (n : Int) := by omega
              by_cases g0 : p < 0
              · have gd : decide (p < 0) = true := dec_yes g0
                have hf := HF.out (by rw [HO.out, dec_no (show ¬ 0 ≤ p by omega)]; rfl)
                go_wp2_with fail
                go_region
                go_wp2_with fail
                go_ret
                exact ⟨ret_bool (by rw [hf]; rfl), W1.out.trans (Below.mono (Below.drew HD.out.below) W1.out.size)⟩
              · have gd : decide (p < 0) = false := dec_no g0
                by_cases g1 : q < p
                · have gd1 : decide (q < p) = true := dec_yes g1
                  have hf := HF.out (by rw [HO.out, dec_no (show ¬ p ≤ q by omega)]; simp)
                  go_wp2_with fail
                  go_region
                  go_wp2_with fail
                  go_ret
                  exact ⟨ret_bool (by rw [hf]; rfl), W1.out.trans (Below.mono (Below.drew HD.out.below) W1.out.size)⟩
                · have gd1 : decide (q < p) = false := dec_no g1
                  by_cases g2 : 1000000 < q
                  · have gd2 : decide (1000000 < q) = true := dec_yes g2
                    have hf := HF.out (by rw [HO.out, dec_no (show ¬ q ≤ 1000000 by omega)]; simp)
                    go_wp2_with fail
                    go_region
                    go_wp2_with fail
                    go_ret
                    exact ⟨ret_bool (by rw [hf]; rfl), W1.out.trans (Below.mono (Below.drew HD.out.below) W1.out.size)⟩
                  · have gd2 : decide (1000000 < q) = false := dec_no g2
                    have ht := Lib.hid (HT.out (by rw [HO.out, dec_yes (show 0 ≤ p by omega), dec_yes (show p ≤ q by omega), dec_yes (show q ≤ 1000000 by omega)]; rfl))
                    go_wp2_with fail
                    go_region
                    go_wp2_with fail
                    go_roundw
                    case rel => exact ⟨k + 1, by go_num, by omega, Lib.hid (HD.out.drewN 1), ht⟩
                    case measure => simp [RowKit.intOf]; omega
            · have e : k = n := by omega
              subst e
              have hf : rs.all Rul.rngOk = true := by have := HA.out; rwa [List.take_of_length_le (by have := HN.out; omega)] at this
              go_wp2_with fail
              go_ret
              exact ⟨ret_bool (by rw [hf]; rfl), W1.out.trans (Below.mono HD.out.below W1.out.size)⟩
  · skip
    by_cases h0 : mod < 0
    · obtain rfl : R = false := by rw [HR.out, dec_no (show ¬ 0 ≤ mod by omega)]; rfl
      have d0 : decide (mod < 0) = true := dec_yes h0
      go_enter Tryz.func50, Tryz.ntmps50
      go_wp2_with fail
      go_ret
      exact ⟨rfl, W1.out⟩
    · have d0 : decide (mod < 0) = false := dec_no h0
      by_cases h1 : 1000000 < mod
      · obtain rfl : R = false := by rw [HR.out, dec_yes (show 0 ≤ mod by omega), dec_no (show ¬ mod ≤ 1000000 by omega)]; rfl
        have d1 : decide (1000000 < mod) = true := dec_yes h1
        go_enter Tryz.func50, Tryz.ntmps50
        go_wp2_with fail
        go_ret
        exact ⟨rfl, W1.out⟩
      · have d1 : decide (1000000 < mod) = false := dec_no h1
        by_cases h2 : (n : Int) = 0
        · obtain rfl : R = false := by rw [HR.out, dec_yes (show 0 ≤ mod by omega), dec_yes (show mod ≤ 1000000 by omega), dec_yes h2]; rfl
          have e2 : ((n : Int) == 0) = true := beq_yes h2
          go_enter Tryz.func50, Tryz.ntmps50
          go_wp2_with fail
          go_ret
          exact ⟨rfl, W1.out⟩
        · obtain rfl : R = rs.all Rul.rngOk := by rw [HR.out, dec_yes (show 0 ≤ mod by omega), dec_yes (show mod ≤ 1000000 by omega), dec_no h2]; simp
          have e2 : ((n : Int) == 0) = false := beq_no h2
          clear HR
          go_enter Tryz.func50, Tryz.ntmps50
          go_wp2_with fail
          obtain ⟨v, hv⟩ : ∃ v, w.alloc (.cells #[.int .u8 119, .int .i64 mod, .bool no, .slice a n c] 106) = v := ⟨_, rfl⟩
          rw [hv] at W1 B1 ⊢
          clear hv
          clear h0 h1 h2 d0 d1 e2
          go_loopw [3] (fun i wr => ∃ k : Nat, i = .int .i64 k ∧ k ≤ n ∧ Hid (Drew v wr) ∧ Hid ((rs.take k).all Rul.rngOk = true)) (fun i _ => n - (RowKit.intOf i).toNat)
          case atStart => exact ⟨0, rfl, Nat.zero_le _, Drew.refl _, Lib.hid (by simp)⟩
          case round =>
            obtain ⟨k, rfl, hk, HD, HA⟩ := hrel
            have K3 := (B1.out.below HD.out.below).cell 3 _ rfl
            by_cases hlt : k < n
            · obtain ⟨x, hx⟩ : ∃ x, rs[k]? = some x := ⟨rs[k]'(by have := HN.out; omega), List.getElem?_eq_getElem (by have := HN.out; omega)⟩
              obtain ⟨b, off, rfl, hx0, hx1⟩ := HC.out k x hx
              have x0 := cell_keep (cell_keep hx0 W1.out) HD.out.below
              have x1 := cell_keep (cell_keep hx1 W1.out) HD.out.below
              have HT := Lib.hid (all_take (p := Rul.rngOk) hx HA.out)
              have HF : Hid (Rul.rngOk x = false → rs.all Rul.rngOk = false) := Lib.hid fun h => by
                rw [List.all_eq_false]
                exact ⟨x, List.mem_of_getElem? hx, by rw [h]; decide⟩
              have HO := Lib.hid (show Rul.rngOk x = (decide (0 ≤ x.1) && decide (x.1 ≤ x.2) && decide (x.2 ≤ 1000000)) from rfl)
              clear hx hx0 hx1
              obtain ⟨p, q⟩ := x
              dsimp only at *
              have k0 : (0 : Int) ≤ (k : Int) := by omega
              have k1 : (k : Int) < (n : Int) := by omega
              by_cases g0 : p < 0
              · have gd : decide (p < 0) = true := dec_yes g0
                have hf := HF.out (by rw [HO.out, dec_no (show ¬ 0 ≤ p by omega)]; rfl)
                go_wp2_with fail
                go_region
                go_wp2_with fail
                go_ret
                exact ⟨ret_bool (by rw [hf]; rfl), W1.out.trans (Below.mono (Below.drew HD.out.below) W1.out.size)⟩
              · have gd : decide (p < 0) = false := dec_no g0
                by_cases g1 : q < p
                · have gd1 : decide (q < p) = true := dec_yes g1
                  have hf := HF.out (by rw [HO.out, dec_no (show ¬ p ≤ q by omega)]; simp)
                  go_wp2_with fail
                  go_region
                  go_wp2_with fail
                  go_ret
                  exact ⟨ret_bool (by rw [hf]; rfl), W1.out.trans (Below.mono (Below.drew HD.out.below) W1.out.size)⟩
                · have gd1 : decide (q < p) = false := dec_no g1
                  by_cases g2 : 1000000 < q
                  · have gd2 : decide (1000000 < q) = true := dec_yes g2
                    have hf := HF.out (by rw [HO.out, dec_no (show ¬ q ≤ 1000000 by omega)]; simp)
                    go_wp2_with fail
                    go_region
                    go_wp2_with fail
                    go_ret
                    exact ⟨ret_bool (by rw [hf]; rfl), W1.out.trans (Below.mono (Below.drew HD.out.below) W1.out.size)⟩
                  · have gd2 : decide (1000000 < q) = false := dec_no g2
                    have ht := Lib.hid (HT.out (by rw [HO.out, dec_yes (show 0 ≤ p by omega), dec_yes (show p ≤ q by omega), dec_yes (show q ≤ 1000000 by omega)]; rfl))
                    go_wp2_with fail
                    go_region
                    go_wp2_with fail
                    go_roundw
                    case rel => exact ⟨k + 1, by go_num, by omega, Lib.hid (HD.out.drewN 1), ht⟩
                    case measure => simp [RowKit.intOf]; omega
            · have e : k = n := by omega
              subst e
              have hf : rs.all Rul.rngOk = true := by have := HA.out; rwa [List.take_of_length_le (by have := HN.out; omega)] at this
              go_wp2_with fail
              go_ret
              exact ⟨ret_bool (by rw [hf]; rfl), W1.out.trans (Below.mono HD.out.below W1.out.size)⟩
  · skip
    by_cases h0 : mod < 0
    · obtain rfl : R = false := by rw [HR.out, dec_no (show ¬ 0 ≤ mod by omega)]; rfl
      have d0 : decide (mod < 0) = true := dec_yes h0
      go_enter Tryz.func50, Tryz.ntmps50
      go_wp2_with fail
      go_ret
      exact ⟨rfl, W1.out⟩
    · have d0 : decide (mod < 0) = false := dec_no h0
      by_cases h1 : 1000000 < mod
      · obtain rfl : R = false := by rw [HR.out, dec_yes (show 0 ≤ mod by omega), dec_no (show ¬ mod ≤ 1000000 by omega)]; rfl
        have d1 : decide (1000000 < mod) = true := dec_yes h1
        go_enter Tryz.func50, Tryz.ntmps50
        go_wp2_with fail
        go_ret
        exact ⟨rfl, W1.out⟩
      · have d1 : decide (1000000 < mod) = false := dec_no h1
        by_cases h2 : (n : Int) = 0
        · obtain rfl : R = false := by rw [HR.out, dec_yes (show 0 ≤ mod by omega), dec_yes (show mod ≤ 1000000 by omega), dec_yes h2]; rfl
          have e2 : ((n : Int) == 0) = true := beq_yes h2
          go_enter Tryz.func50, Tryz.ntmps50
          go_wp2_with fail
          go_ret
          exact ⟨rfl, W1.out⟩
        · obtain rfl : R = rs.all Rul.rngOk := by rw [HR.out, dec_yes (show 0 ≤ mod by omega), dec_yes (show mod ≤ 1000000 by omega), dec_no h2]; simp
          have e2 : ((n : Int) == 0) = false := beq_no h2
          clear HR
          go_enter Tryz.func50, Tryz.ntmps50
          go_wp2_with fail
          obtain ⟨v, hv⟩ : ∃ v, w.alloc (.cells #[.int .u8 102, .int .i64 mod, .bool no, .slice a n c] 106) = v := ⟨_, rfl⟩
          rw [hv] at W1 B1 ⊢
          clear hv
          clear h0 h1 h2 d0 d1 e2
          go_loopw [3] (fun i wr => ∃ k : Nat, i = .int .i64 k ∧ k ≤ n ∧ Hid (Drew v wr) ∧ Hid ((rs.take k).all Rul.rngOk = true)) (fun i _ => n - (RowKit.intOf i).toNat)
          case atStart => exact ⟨0, rfl, Nat.zero_le _, Drew.refl _, Lib.hid (by simp)⟩
          case round =>
            obtain ⟨k, rfl, hk, HD, HA⟩ := hrel
            have K3 := (B1.out.below HD.out.below).cell 3 _ rfl
            by_cases hlt : k < n
            · obtain ⟨x, hx⟩ : ∃ x, rs[k]? = some x := ⟨rs[k]'(by have := HN.out; omega), List.getElem?_eq_getElem (by have := HN.out; omega)⟩
              obtain ⟨b, off, rfl, hx0, hx1⟩ := HC.out k x hx
              have x0 := cell_keep (cell_keep hx0 W1.out) HD.out.below
              have x1 := cell_keep (cell_keep hx1 W1.out) HD.out.below
              have HT := Lib.hid (all_take (p := Rul.rngOk) hx HA.out)
              have HF : Hid (Rul.rngOk x = false → rs.all Rul.rngOk = false) := Lib.hid fun h => by
                rw [List.all_eq_false]
                exact ⟨x, List.mem_of_getElem? hx, by rw [h]; decide⟩
              have HO := Lib.hid (show Rul.rngOk x = (decide (0 ≤ x.1) && decide (x.1 ≤ x.2) && decide (x.2 ≤ 1000000)) from rfl)
              clear hx hx0 hx1
              obtain ⟨p, q⟩ := x
              dsimp only at *
              have k0 : (0 : Int) ≤ (k : Int) := by omega
              have k1 : (k : Int) < (n : Int) := by omega
              by_cases g0 : p < 0
              · have gd : decide (p < 0) = true := dec_yes g0
                have hf := HF.out (by rw [HO.out, dec_no (show ¬ 0 ≤ p by omega)]; rfl)
                go_wp2_with fail
                go_region
                go_wp2_with fail
                go_ret
                exact ⟨ret_bool (by rw [hf]; rfl), W1.out.trans (Below.mono (Below.drew HD.out.below) W1.out.size)⟩
              · have gd : decide (p < 0) = false := dec_no g0
                by_cases g1 : q < p
                · have gd1 : decide (q < p) = true := dec_yes g1
                  have hf := HF.out (by rw [HO.out, dec_no (show ¬ p ≤ q by omega)]; simp)
                  go_wp2_with fail
                  go_region
                  go_wp2_with fail
                  go_ret
                  exact ⟨ret_bool (by rw [hf]; rfl), W1.out.trans (Below.mono (Below.drew HD.out.below) W1.out.size)⟩
                · have gd1 : decide (q < p) = false := dec_no g1
                  by_cases g2 : 1000000 < q
                  · have gd2 : decide (1000000 < q) = true := dec_yes g2
                    have hf := HF.out (by rw [HO.out, dec_no (show ¬ q ≤ 1000000 by omega)]; simp)
                    go_wp2_with fail
                    go_region
                    go_wp2_with fail
                    go_ret
                    exact ⟨ret_bool (by rw [hf]; rfl), W1.out.trans (Below.mono (Below.drew HD.out.below) W1.out.size)⟩
                  · have gd2 : decide (1000000 < q) = false := dec_no g2
                    have ht := Lib.hid (HT.out (by rw [HO.out, dec_yes (show 0 ≤ p by omega), dec_yes (show p ≤ q by omega), dec_yes (show q ≤ 1000000 by omega)]; rfl))
                    go_wp2_with fail
                    go_region
                    go_wp2_with fail
                    go_roundw
                    case rel => exact ⟨k + 1, by go_num, by omega, Lib.hid (HD.out.drewN 1), ht⟩
                    case measure => simp [RowKit.intOf]; omega
            · have e : k = n := by omega
              subst e
              have hf : rs.all Rul.rngOk = true := by have := HA.out; rwa [List.take_of_length_le (by have := HN.out; omega)] at this
              go_wp2_with fail
              go_ret
              exact ⟨ret_bool (by rw [hf]; rfl), W1.out.trans (Below.mono HD.out.below W1.out.size)⟩
  · skip
    by_cases h0 : mod < 0
    · obtain rfl : R = false := by rw [HR.out, dec_no (show ¬ 0 ≤ mod by omega)]; rfl
      have d0 : decide (mod < 0) = true := dec_yes h0
      go_enter Tryz.func50, Tryz.ntmps50
      go_wp2_with fail
      go_ret
      exact ⟨rfl, W1.out⟩
    · have d0 : decide (mod < 0) = false := dec_no h0
      by_cases h1 : 1000000 < mod
      · obtain rfl : R = false := by rw [HR.out, dec_yes (show 0 ≤ mod by omega), dec_no (show ¬ mod ≤ 1000000 by omega)]; rfl
        have d1 : decide (1000000 < mod) = true := dec_yes h1
        go_enter Tryz.func50, Tryz.ntmps50
        go_wp2_with fail
        go_ret
        exact ⟨rfl, W1.out⟩
      · have d1 : decide (1000000 < mod) = false := dec_no h1
        by_cases h2 : (n : Int) = 0
        · obtain rfl : R = false := by rw [HR.out, dec_yes (show 0 ≤ mod by omega), dec_yes (show mod ≤ 1000000 by omega), dec_yes h2]; rfl
          have e2 : ((n : Int) == 0) = true := beq_yes h2
          go_enter Tryz.func50, Tryz.ntmps50
          go_wp2_with fail
          go_ret
          exact ⟨rfl, W1.out⟩
        · obtain rfl : R = rs.all Rul.rngOk := by rw [HR.out, dec_yes (show 0 ≤ mod by omega), dec_yes (show mod ≤ 1000000 by omega), dec_no h2]; simp
          have e2 : ((n : Int) == 0) = false := beq_no h2
          clear HR
          go_enter Tryz.func50, Tryz.ntmps50
          go_wp2_with fail
          obtain ⟨v, hv⟩ : ∃ v, w.alloc (.cells #[.int .u8 116, .int .i64 mod, .bool no, .slice a n c] 106) = v := ⟨_, rfl⟩
          rw [hv] at W1 B1 ⊢
          clear hv
          clear h0 h1 h2 d0 d1 e2
          go_loopw [3] (fun i wr => ∃ k : Nat, i = .int .i64 k ∧ k ≤ n ∧ Hid (Drew v wr) ∧ Hid ((rs.take k).all Rul.rngOk = true)) (fun i _ => n - (RowKit.intOf i).toNat)
          case atStart => exact ⟨0, rfl, Nat.zero_le _, Drew.refl _, Lib.hid (by simp)⟩
          case round =>
            obtain ⟨k, rfl, hk, HD, HA⟩ := hrel
            have K3 := (B1.out.below HD.out.below).cell 3 _ rfl
            by_cases hlt : k < n
            · obtain ⟨x, hx⟩ : ∃ x, rs[k]? = some x := ⟨rs[k]'(by have := HN.out; omega), List.getElem?_eq_getElem (by have := HN.out; omega)⟩
              obtain ⟨b, off, rfl, hx0, hx1⟩ := HC.out k x hx
              have x0 := cell_keep (cell_keep hx0 W1.out) HD.out.below
              have x1 := cell_keep (cell_keep hx1 W1.out) HD.out.below
              have HT := Lib.hid (all_take (p := Rul.rngOk) hx HA.out)
              have HF : Hid (Rul.rngOk x = false → rs.all Rul.rngOk = false) := Lib.hid fun h => by
                rw [List.all_eq_false]
                exact ⟨x, List.mem_of_getElem? hx, by rw [h]; decide⟩
              have HO := Lib.hid (show Rul.rngOk x = (decide (0 ≤ x.1) && decide (x.1 ≤ x.2) && decide (x.2 ≤ 1000000)) from rfl)
              clear hx hx0 hx1
              obtain ⟨p, q⟩ := x
              dsimp only at *
              have k0 : (0 : Int) ≤ (k : Int) := by omega
              have k1 : (k : Int) < (n : Int) := by omega
              by_cases g0 : p < 0
              · have gd : decide (p < 0) = true := dec_yes g0
                have hf := HF.out (by rw [HO.out, dec_no (show ¬ 0 ≤ p by omega)]; rfl)
                go_wp2_with fail
                go_region
                go_wp2_with fail
                go_ret
                exact ⟨ret_bool (by rw [hf]; rfl), W1.out.trans (Below.mono (Below.drew HD.out.below) W1.out.size)⟩
              · have gd : decide (p < 0) = false := dec_no g0
                by_cases g1 : q < p
                · have gd1 : decide (q < p) = true := dec_yes g1
                  have hf := HF.out (by rw [HO.out, dec_no (show ¬ p ≤ q by omega)]; simp)
                  go_wp2_with fail
                  go_region
                  go_wp2_with fail
                  go_ret
                  exact ⟨ret_bool (by rw [hf]; rfl), W1.out.trans (Below.mono (Below.drew HD.out.below) W1.out.size)⟩
                · have gd1 : decide (q < p) = false := dec_no g1
                  by_cases g2 : 1000000 < q
                  · have gd2 : decide (1000000 < q) = true := dec_yes g2
                    have hf := HF.out (by rw [HO.out, dec_no (show ¬ q ≤ 1000000 by omega)]; simp)
                    go_wp2_with fail
                    go_region
                    go_wp2_with fail
                    go_ret
                    exact ⟨ret_bool (by rw [hf]; rfl), W1.out.trans (Below.mono (Below.drew HD.out.below) W1.out.size)⟩
                  · have gd2 : decide (1000000 < q) = false := dec_no g2
                    have ht := Lib.hid (HT.out (by rw [HO.out, dec_yes (show 0 ≤ p by omega), dec_yes (show p ≤ q by omega), dec_yes (show q ≤ 1000000 by omega)]; rfl))
                    go_wp2_with fail
                    go_region
                    go_wp2_with fail
                    go_roundw
                    case rel => exact ⟨k + 1, by go_num, by omega, Lib.hid (HD.out.drewN 1), ht⟩
                    case measure => simp [RowKit.intOf]; omega
            · have e : k = n := by omega
              subst e
              have hf : rs.all Rul.rngOk = true := by have := HA.out; rwa [List.take_of_length_le (by have := HN.out; omega)] at this
              go_wp2_with fail
              go_ret
              exact ⟨ret_bool (by rw [hf]; rfl), W1.out.trans (Below.mono HD.out.below W1.out.size)⟩
set_option maxRecDepth 100000 in
set_option maxHeartbeats 1000000 in
theorem relfault_bad (opI mod : Int) (no : Bool) (a : Option Addr) (n c : Nat) (w : World) (h0 : opI ≠ 110) (h1 : opI ≠ 105) (h2 : opI ≠ 118) (h3 : opI ≠ 119) (h4 : opI ≠ 102) (h5 : opI ≠ 116) :
    Calls Tryz.prog 50 #[.agg #[.int .u8 opI, .int .i64 mod, .bool no, .slice a n c]] w fun e w' => e = .returned (.bool true) ∧ Below w.heap.size w w' := by
  have e0 : (opI == 110) = false := beq_no h0
  have e1 : (opI == 105) = false := beq_no h1
  have e2 : (opI == 118) = false := beq_no h2
  have e3 : (opI == 119) = false := beq_no h3
  have e4 : (opI == 102) = false := beq_no h4
  have e5 : (opI == 116) = false := beq_no h5
  have f0 : (opI != 110) = true := by rw [bne, e0]; rfl
  have f1 : (opI != 105) = true := by rw [bne, e1]; rfl
  have f2 : (opI != 118) = true := by rw [bne, e2]; rfl
  have f3 : (opI != 119) = true := by rw [bne, e3]; rfl
  have f4 : (opI != 102) = true := by rw [bne, e4]; rfl
  have f5 : (opI != 116) = true := by rw [bne, e5]; rfl
  go_enter Tryz.func50, Tryz.ntmps50
  go_wp2_with fail
  go_ret
  exact ⟨rfl, blw_alloc _ _⟩
theorem op_num {c : UInt8} {k : Nat} (hk : k < 256) (h : c ≠ UInt8.ofNat k) : (c.toNat : Int) ≠ (k : Int) := fun e => h (by
  apply UInt8.toNat_inj.1
  rw [UInt8.toNat_ofNat']
  omega)
theorem relfault_any (x : Rul.Rl) (a : Option Addr) (n c : Nat) (w : World) (hs : SlAt 2 RngC w (.slice a n c) x.rs) :
    Calls Tryz.prog 50 #[.agg #[.int .u8 (x.op.toNat : Int), .int .i64 x.mod, .bool x.no, .slice a n c]] w fun e w' => e = .returned (.bool (!Rul.relOk x)) ∧ Below w.heap.size w w' := by
  by_cases h : Rul.opOk x.op = true
  · have e : Rul.relOk x = relR x.mod x.rs := by unfold Rul.relOk relR; rw [h]; simp
    rw [e]
    refine relfault_at _ x.mod x.no x.rs a n c w hs ?_
    rcases Rul.op_cases h with e | e | e | e | e | e <;> rw [e] <;> decide
  · have e : Rul.relOk x = false := by
      unfold Rul.relOk
      rw [show Rul.opOk x.op = false by simpa using h]; rfl
    rw [e]
    have hh : ∀ k : UInt8, k ∈ ([110, 105, 118, 119, 102, 116] : List UInt8) → x.op ≠ k := fun k hk e' => h (by unfold Rul.opOk; rw [e']; simpa using hk)
    exact relfault_bad _ x.mod x.no a n c w (op_num (k := 110) (by omega) (hh 110 (by simp))) (op_num (k := 105) (by omega) (hh 105 (by simp))) (op_num (k := 118) (by omega) (hh 118 (by simp))) (op_num (k := 119) (by omega) (hh 119 (by simp))) (op_num (k := 102) (by omega) (hh 102 (by simp))) (op_num (k := 116) (by omega) (hh 116 (by simp)))
end Go.Proofs.YtaijjffnamjhiaaGreatDoor
namespace Go.Proofs.YtaijjffnamjhiaaGreatDoor
open Go.RowKit

set_option maxRecDepth 100000 in
set_option maxHeartbeats 4000000 in
theorem rulefault_some (r : Rul.Rule) (b off cap n : Nat) (w : World) (hn : r.length = n) (h0 : 0 < n) (hm : n ≤ 1000000000) (hcn : Rul.count r ≤ 1000000000) (hc : ∀ (j : Nat) x, r[j]? = some x → PartC w b (off + j * 1) x) :
    Calls Tryz.prog 19 #[.slice (some ⟨b, off, none⟩) n cap] w fun e w' => e = .returned (.int .i64 (Rul.ruleE r)) ∧ Below w.heap.size w w' := by
  have HC := Lib.hid hc
  have HN := Lib.hid hn
  have HCN := Lib.hid hcn
  have n0 : ((n : Int) == 0) = false := beq_no (by omega)
  have HBP := Lib.hid fun k l (h : r[k]? = some l) (hb : Rul.partOk l = false) => bad_part h hb
  have HOK := Lib.hid fun (h : r.all Rul.partOk = true) => ruleE_ok (by omega) h
  generalize hE : Rul.ruleE r = E at *
  clear hc hn hcn hE
  go_enter Tryz.func19, Tryz.ntmps19
  go_wp2_with fail
  go_loopw [3, 4] (fun s i wr => ∃ k : Nat, i = .int .i64 k ∧ k ≤ n ∧ s = .int .i64 (Rul.count (r.take k) : Nat) ∧ Hid ((r.take k).all Rul.partOk = true) ∧ Hid (Below w.heap.size w wr)) (fun _ i _ => n - (RowKit.intOf i).toNat)
  case atStart => exact ⟨0, rfl, Nat.zero_le _, rfl, Lib.hid (by simp), Lib.hid (Below.refl _ _)⟩
  case round =>
    obtain ⟨k, rfl, hk, rfl, HA, HD⟩ := hrel
    by_cases hlt : k < n
    · obtain ⟨l, hl⟩ : ∃ x, r[k]? = some x := ⟨r[k]'(by have := HN.out; omega), List.getElem?_eq_getElem (by have := HN.out; omega)⟩
      have HLK := Lib.hid hl
      have hct := count_take hl
      have hcl := count_le hl
      have hcb := HCN.out
      obtain ⟨pa, pn, pc, p0, ps⟩ := HC.out k l hl
      rw [Nat.mul_one] at p0
      have x0 := cell_keep p0 HD.out
      obtain ⟨A1, cap1, e1, hm1, hcell1⟩ := ps.spread
      injection e1 with e1 e1' e1''
      subst e1 e1' e1''
      have P0 := Lib.hid p0
      have HC1 := Lib.hid hcell1
      obtain ⟨m, hmm⟩ : ∃ m, l.length = m := ⟨_, rfl⟩
      rw [hmm] at x0 P0 hct hcl
      have HX := Lib.hid hmm
      generalize hcc : Rul.count (r.take k) = cc at *
      generalize hc2 : Rul.count (r.take (k + 1)) = c2 at *
      have HC2 := Lib.hid hc2
      clear hl ps p0 hcell1 hm1 hmm hcc hc2
      have k0 : (0 : Int) ≤ (k : Int) := by omega
      have k1 : (k : Int) < (n : Int) := by omega
      by_cases hm0 : m = 0
      · subst hm0
        obtain rfl : E = 3 := HBP.out k l HLK.out (by
          have : l = [] := List.eq_nil_of_length_eq_zero HX.out
          rw [this]; rfl)
        go_wp2_with fail
        go_ret
        exact ⟨rfl, HD.out⟩
      · have m0 : ((m : Int) == 0) = false := beq_no (by omega)
        go_wp2_with fail
        go_loopw [3, 5] (fun s i wr => ∃ j : Nat, i = .int .i64 j ∧ j ≤ m ∧ s = .int .i64 ((cc + j : Nat) : Int) ∧ Hid ((l.take j).all Rul.relOk = true) ∧ Hid (Below w.heap.size w wr)) (fun _ i _ => m - (RowKit.intOf i).toNat)
        case atStart => exact ⟨0, rfl, Nat.zero_le _, rfl, Lib.hid (by simp), HD⟩
        case round =>
          obtain ⟨j, rfl, hj, rfl, HA2, HI⟩ := hrel
          have x1 := cell_keep P0.out HI.out
          by_cases hjm : j < m
          · obtain ⟨y, hy⟩ : ∃ y, l[j]? = some y := ⟨l[j]'(by have := HX.out; omega), List.getElem?_eq_getElem (by have := HX.out; omega)⟩
            obtain ⟨b1, o1, rfl, ra, rn, rc, r0, r1, r2, r3, rs⟩ := HC1.out j y hy
            have z0 := cell_keep r0 HI.out
            have z1 := cell_keep r1 HI.out
            have z2 := cell_keep r2 HI.out
            have z3 := cell_keep r3 HI.out
            have CS := Lib.hid (relfault_any y ra rn rc wr (rs.rngs_below HI.out))
            have HY := Lib.hid hy
            clear hy r0 r1 r2 r3 rs HC1
            have j0 : (0 : Int) ≤ (j : Int) := by omega
            have j1 : (j : Int) < (m : Int) := by omega
            cases ho : Rul.relOk y with
            | true =>
              rw [ho] at CS
              have HA3 := Lib.hid (all_take HY.out HA2.out ho)
              clear ho
              go_wp2_with fail
              refine CS.out.mono ?_
              rintro e w5 ⟨rfl, hb⟩
              have W5 := Lib.hid (blw_trans HI.out hb)
              clear hb CS z0 z1 z2 z3 x1
              go_wp2_with fail
              go_roundw
              case rel => exact ⟨j + 1, by go_num, by omega, by rw [show ((cc + (j + 1) : Nat) : Int) = ((cc + j : Nat) : Int) + 1 by omega]; first | rfl | go_num, HA3, W5⟩
              case measure => simp [RowKit.intOf]; omega
            | false =>
              rw [ho] at CS
              obtain rfl : E = 3 := HBP.out k l HLK.out (bad_rel HY.out ho)
              clear ho
              go_wp2_with fail
              refine CS.out.mono ?_
              rintro e w5 ⟨rfl, hb⟩
              have W5 := Lib.hid (blw_trans HI.out hb)
              clear hb CS z0 z1 z2 z3 x1
              go_wp2_with fail
              go_ret
              exact ⟨rfl, W5.out⟩
          · have e : j = m := by omega
            subst e
            have hp : Rul.partOk l = true := by
              have h2 := HA2.out
              rw [List.take_of_length_le (by have := HX.out; omega)] at h2
              unfold Rul.partOk
              rw [h2]
              have : l ≠ [] := fun e => by have h3 := HX.out; rw [e] at h3; simp at h3; omega
              cases l with
              | nil => exact absurd rfl this
              | cons => rfl
            have HA4 := Lib.hid (all_take HLK.out HA.out hp)
            clear hp
            go_wp2_with fail
            go_roundw
            case rel => exact ⟨k + 1, by go_num, by omega, by rw [HC2.out, hct], HA4, HI⟩
            case measure => simp [RowKit.intOf]; omega
    · have e : k = n := by omega
      subst e
      have hall : r.all Rul.partOk = true := by have := HA.out; rwa [List.take_of_length_le (by have := HN.out; omega)] at this
      have he := HOK.out hall
      have htk : Rul.count (r.take k) = Rul.count r := by rw [List.take_of_length_le (by have := HN.out; omega)]
      rw [htk]
      have hcb := HCN.out
      generalize Rul.count r = cr at *
      clear htk hall
      by_cases h20 : 20 < cr
      · have d : decide (20 < (cr : Int)) = true := dec_yes (by omega)
        rw [if_pos h20] at he
        subst he
        go_wp2_with fail
        go_ret
        exact ⟨rfl, HD.out⟩
      · have d : decide (20 < (cr : Int)) = false := dec_no (by omega)
        rw [if_neg h20] at he
        subst he
        go_wp2_with fail
        go_ret
        exact ⟨rfl, HD.out⟩
set_option maxHeartbeats 400000 in
theorem rulefault_none (A : Option Addr) (c : Nat) (w : World) : Calls Tryz.prog 19 #[.slice A 0 c] w fun e w' => e = .returned (.int .i64 3) ∧ Below w.heap.size w w' := by
  go_enter Tryz.func19, Tryz.ntmps19
  go_wp2_with fail
  go_ret
  exact ⟨rfl, Below.refl _ _⟩
theorem rulefault_any (r : Rul.Rule) (A : Option Addr) (n c : Nat) (w : World) (hr : SlAt 1 PartC w (.slice A n c) r) (hl : r.length ≤ 1000000000) (hc : Rul.count r ≤ 1000000000) :
    Calls Tryz.prog 19 #[.slice A n c] w fun e w' => e = .returned (.int .i64 (Rul.ruleE r)) ∧ Below w.heap.size w w' := by
  rcases hr with ⟨rfl, a, c', e⟩ | ⟨b, off, cap, e, h0, _, _, h3⟩
  · injection e with e1 e2 e3
    subst e2
    exact rulefault_none _ _ w
  · injection e with e1 e2 e3
    subst e1 e2 e3
    exact rulefault_some r b off _ _ w rfl h0 (by omega) hc h3
end Go.Proofs.YtaijjffnamjhiaaGreatDoor
namespace Go.Proofs.YtaijjffnamjhiaaGreatDoor
open Go.RowKit

/-- the text of a relation ahead of its ranges -/
def headQ (r : Rul.Rl) : List UInt8 := Rul.headT r ++ (if r.no then [32, 33, 61] else [32, 61])
/-- the text up to the k-th range -/
def txtQ (r : Rul.Rl) (k : Nat) : List UInt8 := if k = 0 then headQ r else headQ r ++ [32] ++ Lst.upto (r.rs.map Rul.rngT) [44] k
theorem txtQ_step (r : Rul.Rl) (k : Nat) (x : Int × Int) (h : r.rs[k]? = some x) : txtQ r (k + 1) = txtQ r k ++ (if k = 0 then [32] else [44]) ++ Rul.rngT x := by
  have hx : (r.rs.map Rul.rngT)[k]? = some (Rul.rngT x) := by rw [List.getElem?_map, h]; rfl
  unfold txtQ
  by_cases hk : k = 0
  · subst hk
    rw [if_neg (by omega), if_pos rfl, if_pos rfl, Lst.upto_one _ _ _ hx]
  · rw [if_neg (by omega), if_neg hk, if_neg hk, Lst.upto_succ _ _ _ _ (by omega) hx]
    simp [List.append_assoc]
theorem txtQ_all (r : Rul.Rl) (h : r.rs ≠ []) : txtQ r r.rs.length = Rul.relT r := by
  unfold txtQ
  rw [if_neg (by have := List.length_pos_iff.2 h; omega), Lst.upto_all _ _ _ (by simp)]
  unfold headQ Rul.relT
  cases r.no <;> simp [Rul.neS, Rul.eqS, List.append_assoc]
theorem txtQ_len (r : Rul.Rl) (hok : Rul.relOk r = true) (k : Nat) : (txtQ r k).length ≤ 20 + r.rs.length * 17 := by
  obtain ⟨_, _, h2, _, h4⟩ := Rul.relOk_parts hok
  have hd := Rul.dg_len h2
  have t := Rul.total_le (l := r.rs.map Rul.rngT) (sep := [44]) (k := 16) (fun x hx => by
    obtain ⟨p, hp, rfl⟩ := List.mem_map.1 hx
    exact Rul.rngT_len (h4 p hp))
  rw [List.length_map] at t
  have u := Lst.upto_le (r.rs.map Rul.rngT) [44] k
  have hh : (headQ r).length ≤ 14 := by
    unfold headQ Rul.headT
    split <;> split <;> simp only [List.length_append, List.length_cons, List.length_nil, Rul.pcS] <;> omega
  simp only [List.length_cons, List.length_nil] at t
  unfold txtQ
  split
  · omega
  · simp only [List.length_append, List.length_cons, List.length_nil]; omega

set_option maxRecDepth 100000 in
set_option maxHeartbeats 8000000 in
theorem rrt_any (r : Rul.Rl) (a : Option Addr) (n c : Nat) (w : World) (hs : SlAt 2 RngC w (.slice a n c) r.rs) (hok : Rul.relOk r = true) (hl : r.rs.length ≤ 100000001) :
    Calls Tryz.prog 51 #[.agg #[.int .u8 (r.op.toNat : Int), .int .i64 r.mod, .bool r.no, .slice a n c]] w fun e w' => e = .returned (.string ⟨(Rul.relT r).toArray⟩) ∧ Below w.heap.size w w' := by
  obtain ⟨hop, hm0, hm1, hne, hrk⟩ := Rul.relOk_parts hok
  have HALL := Lib.hid (txtQ_all r hne)
  have HSTEP := Lib.hid fun k x h => txtQ_step r k x h
  have HLEN := Lib.hid fun k => txtQ_len r hok k
  have HHD := Lib.hid (show txtQ r 0 = Rul.headT r ++ (if r.no then [32, 33, 61] else [32, 61]) from rfl)
  have HHT := Lib.hid (show Rul.headT r = if r.mod = 0 then [r.op] else [r.op] ++ [32, 37, 32] ++ Rul.dg r.mod from rfl)
  have HRK := Lib.hid hrk
  have hml := Rul.dg_len hm1
  generalize Rul.relT r = RT at *
  generalize txtQ r = TX at *
  generalize Rul.headT r = HT at *
  obtain ⟨op, mod, no, rs⟩ := r
  dsimp only at *
  obtain ⟨A, cap, e, hm, hcell⟩ := hs.spread
  injection e with e1 e2 e3
  subst e1 e2 e3
  have HC := Lib.hid hcell
  obtain ⟨n, hn⟩ : ∃ n, rs.length = n := ⟨_, rfl⟩
  rw [hn] at hm hl HALL HLEN ⊢
  have HN := Lib.hid hn
  unfold maxLen at hm
  have W1 := Lib.hid (blw_alloc w (.cells #[.int .u8 (op.toNat : Int), .int .i64 mod, .bool no, .slice a n c] 106))
  have B1 := Lib.hid (Boxed.made w #[.int .u8 (op.toNat : Int), .int .i64 mod, .bool no, .slice a n c] 106)
  have CD := Lib.hid fun (w : World) => digits_none mod w hm0 (by omega)
  clear hs hcell hn hrk hne hok hop
  have CV := conv_one (P := Tryz.prog) 140 9 5 Tryz.underlying140 Tryz.underlying5 Tryz.underlying9 (op.toNat : Int) (w.alloc (.cells #[.int .u8 (op.toNat : Int), .int .i64 mod, .bool no, .slice a n c] 106)) (by omega) (by have := op.toNat_lt; omega)
  rw [show UInt8.ofNat (op.toNat : Int).toNat = op by simp, World.size_alloc] at CV
  have hw2 : ∃ w2, (w.alloc (.cells #[.int .u8 (op.toNat : Int), .int .i64 mod, .bool no, .slice a n c] 106)).alloc (.cells #[.int .u8 (op.toNat : Int)] 5) = w2 := ⟨_, rfl⟩
  obtain ⟨w2, hw2⟩ := hw2
  rw [hw2] at CV
  have W2 := Lib.hid (show Below w.heap.size w w2 by rw [← hw2]; exact W1.out.alloc W1.out.size _)
  have B2 := Lib.hid (show Boxed w2 w.heap.size _ by rw [← hw2]; exact B1.out.alloc _)
  clear W1 B1
  have x1 := B2.out.cell 1 _ rfl
  have x2 := B2.out.cell 2 _ rfl
  have xl := B2.out.lt
  go_enter Tryz.func51, Tryz.ntmps51
  obtain ⟨TT, hTT⟩ : ∃ TT, TX 0 = TT := ⟨_, rfl⟩
  have HTT := Lib.hid hTT
  go_upto_if 11 with fail
  clear CV hw2
  go_cut [3] from 11 (fun s wx => s = .string ⟨HT.toArray⟩ ∧ Hid (Boxed wx w.heap.size #[.int .u8 (op.toNat : Int), .int .i64 mod, .bool no, .slice a n c]) ∧ Hid (Below w.heap.size w wx))
  case first =>
    by_cases hz : mod = 0
    · have d0 : decide (0 < mod) = false := dec_no (by omega)
      have hh := HHT.out
      rw [if_pos hz] at hh
      subst hh
      go_wp2_with fail
      go_meet
      exact ⟨rfl, B2, W2⟩
    · have hmp : 0 < mod := by omega
      have d0 : decide (0 < mod) = true := dec_yes hmp
      have hh := HHT.out
      rw [if_neg hz] at hh
      have ml : (Rul.dg mod).length ≤ 7 := hml
      obtain ⟨Y1, hY1⟩ : ∃ Y1, Y1 = [op] ++ [32, 37, 32] := ⟨_, rfl⟩
      obtain ⟨DG, hDG⟩ : ∃ DG, Rul.dg mod = DG := ⟨_, rfl⟩
      have CD2 : Hid (∀ w : World, Calls Tryz.prog 108 #[.int .i64 mod, .int .i64 0] w fun e w' => e = .returned (.string ⟨DG.toArray⟩) ∧ Below w.heap.size w w') := Lib.hid fun w => hDG ▸ CD.out w
      rw [hDG] at hh ml
      have A1 : ∀ w, (Op.stringOp .add ⟨[op].toArray⟩ ⟨#[32, 37, 32]⟩).run Tryz.prog w = .ok (.string ⟨Y1.toArray⟩) w := fun w => by rw [hY1]; exact add_str (P := Tryz.prog) [op] [32, 37, 32] (by simp) w
      have A2 : ∀ w, (Op.stringOp .add ⟨Y1.toArray⟩ ⟨DG.toArray⟩).run Tryz.prog w = .ok (.string ⟨HT.toArray⟩) w := fun w => by rw [hh, ← hY1]; exact add_str (P := Tryz.prog) Y1 DG (by rw [hY1]; simp; omega) w
      clear hY1 hh hDG hz CD
      go_wp2_with fail
      refine (CD2.out _).mono ?_
      rintro e w3 ⟨rfl, hb⟩
      have W3 := Lib.hid (blw_trans W2.out hb)
      have B3 := Lib.hid (B2.out.below hb)
      clear hb CD2
      go_wp2_with fail
      go_meet
      exact ⟨rfl, B3, W3⟩
  case rest =>
    obtain ⟨rfl, B4, W4⟩ := hcut
    clear CD B2 W2 x1 x2 xl
    have x2 := B4.out.cell 2 _ rfl
    have xl := B4.out.lt
    have hlen0 := HLEN.out 0
    have hhd := HHD.out
    go_upto_if 19 with fail
    go_cut [3] from 19 (fun s wx => s = .string ⟨TT.toArray⟩ ∧ wx = wc)
    case first =>
      have hHTl : HT.length ≤ 100000001 * 18 := by
        have h := hlen0
        rw [hhd, List.length_append] at h
        omega
      cases no with
      | true =>
        have A3 : ∀ w, (Op.stringOp .add ⟨HT.toArray⟩ ⟨#[32, 33, 61]⟩).run Tryz.prog w = .ok (.string ⟨TT.toArray⟩) w := fun w => by rw [← HTT.out, hhd]; exact add_str (P := Tryz.prog) HT [32, 33, 61] (by first | omega | (simp; omega)) w
        go_wp2_with fail
        go_meet
        exact ⟨rfl, rfl⟩
      | false =>
        have A3 : ∀ w, (Op.stringOp .add ⟨HT.toArray⟩ ⟨#[32, 61]⟩).run Tryz.prog w = .ok (.string ⟨TT.toArray⟩) w := fun w => by rw [← HTT.out, hhd]; exact add_str (P := Tryz.prog) HT [32, 61] (by first | omega | (simp; omega)) w
        go_wp2_with fail
        go_meet
        exact ⟨rfl, rfl⟩
    case rest =>
      obtain ⟨rfl, rfl⟩ := hcut
      clear hlen0 hhd HHD HHT x2 xl
      go_wp2_with fail
      go_loopw [3, 4] (fun s i wr => ∃ k : Nat, i = .int .i64 k ∧ k ≤ n ∧ s = .string ⟨(TX k).toArray⟩ ∧ Hid (Below w.heap.size w wr) ∧ Hid (Boxed wr w.heap.size #[.int .u8 (op.toNat : Int), .int .i64 mod, .bool no, .slice a n c])) (fun _ i _ => n - (RowKit.intOf i).toNat)
      case atStart => exact ⟨0, rfl, Nat.zero_le _, by rw [HTT.out], W4, B4⟩
      case round =>
        obtain ⟨k, rfl, hk, rfl, HD, HB⟩ := hrel
        have b3o := HB.out.cell 3 _ rfl
        have blo := HB.out.lt
        by_cases hlt : k < n
        · obtain ⟨x, hx⟩ : ∃ x, rs[k]? = some x := ⟨rs[k]'(by have := HN.out; omega), List.getElem?_eq_getElem (by have := HN.out; omega)⟩
          obtain ⟨b, off, rfl, hx0, hx1⟩ := HC.out k x hx
          have HX := Lib.hid (show ∀ wx, Below w.heap.size w wx → wx.cell? ⟨b, off + k * 2, none⟩ = some (.int .i64 x.1) ∧ wx.cell? ⟨b, off + k * 2 + 1, none⟩ = some (.int .i64 x.2) from fun wx hb => ⟨cell_keep hx0 hb, cell_keep hx1 hb⟩)
          have x0o := (HX.out wr HD.out).1
          have x1o := (HX.out wr HD.out).2
          have HST := Lib.hid (HSTEP.out k x hx)
          have hrg := HRK.out x (List.mem_of_getElem? hx)
          have lp := HLEN.out k
          have hrg' := hrg
          simp only [Rul.rngOk, Bool.and_eq_true, decide_eq_true_eq] at hrg'
          have HRT := Lib.hid (show Rul.rngT x = if x.1 = x.2 then Rul.dg x.1 else Rul.dg x.1 ++ [46, 46] ++ Rul.dg x.2 from rfl)
          have la := Rul.dg_len (v := x.1) (by omega)
          have lb := Rul.dg_len (v := x.2) (by omega)
          have CA : Hid (∀ w : World, Calls Tryz.prog 108 #[.int .i64 x.1, .int .i64 0] w fun e w' => e = .returned (.string ⟨(Rul.dg x.1).toArray⟩) ∧ Below w.heap.size w w') := Lib.hid fun w => digits_none x.1 w (by omega) (by omega)
          have CB : Hid (∀ w : World, Calls Tryz.prog 108 #[.int .i64 x.2, .int .i64 0] w fun e w' => e = .returned (.string ⟨(Rul.dg x.2).toArray⟩) ∧ Below w.heap.size w w') := Lib.hid fun w => digits_none x.2 w (by omega) (by omega)
          generalize Rul.rngT x = RX at *
          obtain ⟨p, q⟩ := x
          dsimp only at *
          generalize Rul.dg p = DA at *
          generalize Rul.dg q = DB at *
          obtain ⟨TN, hTN⟩ : ∃ TN, TX (k + 1) = TN := ⟨_, rfl⟩
          have HTN := Lib.hid hTN
          obtain ⟨P0, hP0⟩ : ∃ P0, TX k = P0 := ⟨_, rfl⟩
          rw [hP0] at HST lp ⊢
          clear hx hx0 hx1 hrg hTN hP0
          have k0 : (0 : Int) ≤ (k : Int) := by omega
          have k1 : (k : Int) < (n : Int) := by omega
          have hpq' : p ≤ q := by omega
          clear hrg'
          by_cases hk0 : k = 0
          · have HX2 := Lib.hid (show ∀ wx, Below w.heap.size w wx → wx.cell? ⟨b, off, none⟩ = some (.int .i64 p) ∧ wx.cell? ⟨b, off + 1, none⟩ = some (.int .i64 q) from fun wx hb => by have h := HX.out wx hb; rw [hk0] at h; simpa using h)
            rw [if_pos hk0] at HST
            subst hk0
            replace HX := HX2
            clear HX2
            replace x0o := (HX.out wr HD.out).1
            replace x1o := (HX.out wr HD.out).2
            have kz : (((0 : Nat) : Int) == 0) = true := rfl
            obtain ⟨Y1, hY1⟩ : ∃ Y1, Y1 = P0 ++ [32] := ⟨_, rfl⟩
            have l1 : Y1.length = P0.length + 1 := by rw [hY1]; simp
            have A1 : ∀ w, (Op.stringOp .add ⟨P0.toArray⟩ ⟨#[32]⟩).run Tryz.prog w = .ok (.string ⟨Y1.toArray⟩) w := fun w => by rw [hY1]; exact add_str (P := Tryz.prog) P0 [32] (by first | omega | (simp; omega)) w
            obtain ⟨Y2, hY2⟩ : ∃ Y2, Y2 = Y1 ++ DA := ⟨_, rfl⟩
            have l2 : Y2.length = Y1.length + DA.length := by rw [hY2]; simp
            have A2 : ∀ w, (Op.stringOp .add ⟨Y1.toArray⟩ ⟨DA.toArray⟩).run Tryz.prog w = .ok (.string ⟨Y2.toArray⟩) w := fun w => by rw [hY2]; exact add_str (P := Tryz.prog) Y1 DA (by first | omega | (simp; omega)) w
            have HY : Hid (Y2 = P0 ++ [32] ++ DA) := Lib.hid (by rw [hY2, hY1])
            have hst := HST.out
            have HS2 := Lib.hid hst
            clear hY1 hY2 hst
            go_wp2_with fail
            refine (CA.out _).mono ?_
            rintro e w5 ⟨rfl, hb⟩
            have W5 := Lib.hid (blw_trans HD.out hb)
            have B5 := Lib.hid (HB.out.below hb)
            have b3 := B5.out.cell 3 _ rfl
            have bl := B5.out.lt
            have x0 := (HX.out w5 W5.out).1
            have x1 := (HX.out w5 W5.out).2
            clear hb CA A1 b3o blo x0o x1o
            by_cases hpq : p = q
            · subst hpq
              have dpq : decide (p < p) = false := dec_no (by omega)
              obtain rfl : TN = Y2 := by rw [← HTN.out, HS2.out, HY.out, HRT.out, if_pos rfl]
              go_wp2_with fail
              go_region
              go_wp2_with fail
              go_roundw
              case rel => exact ⟨0 + 1, by go_num, by omega, by rw [HTN.out], Lib.hid (Below.drew W5.out), Lib.hid B5.out.drew⟩
              case measure => simp [RowKit.intOf]; omega
            · have dpq : decide (p < q) = true := dec_yes (by omega)
              obtain ⟨Y3, hY3⟩ : ∃ Y3, Y3 = Y2 ++ [46, 46] := ⟨_, rfl⟩
              have l3 : Y3.length = Y2.length + 2 := by rw [hY3]; simp
              have A3 : ∀ w, (Op.stringOp .add ⟨Y2.toArray⟩ ⟨#[46, 46]⟩).run Tryz.prog w = .ok (.string ⟨Y3.toArray⟩) w := fun w => by rw [hY3]; exact add_str (P := Tryz.prog) Y2 [46, 46] (by first | omega | (simp; omega)) w
              have hTN : TN = Y3 ++ DB := by rw [← HTN.out, HS2.out, hY3, HY.out, HRT.out, if_neg hpq]; simp only [List.append_assoc]
              have A4 : ∀ w, (Op.stringOp .add ⟨Y3.toArray⟩ ⟨DB.toArray⟩).run Tryz.prog w = .ok (.string ⟨TN.toArray⟩) w := fun w => by rw [hTN]; exact add_str (P := Tryz.prog) Y3 DB (by first | omega | (simp; omega)) w
              have HTN2 := Lib.hid HTN.out
              clear hY3 hTN
              go_wp2_with fail
              go_region
              go_wp2_with fail
              refine (CB.out _).mono ?_
              rintro e w6 ⟨rfl, hb⟩
              have W6 := Lib.hid (blw_trans (Below.drew W5.out) hb)
              have B6 := Lib.hid (B5.out.drew.below hb)
              clear hb CB A3
              go_wp2_with fail
              go_roundw
              case rel => exact ⟨0 + 1, by go_num, by omega, by rw [HTN2.out], W6, B6⟩
              case measure => simp [RowKit.intOf]; omega
          · have kz : ((k : Int) == 0) = false := beq_no (by omega)
            obtain ⟨Y1, hY1⟩ : ∃ Y1, Y1 = P0 ++ [44] := ⟨_, rfl⟩
            have l1 : Y1.length = P0.length + 1 := by rw [hY1]; simp
            have A1 : ∀ w, (Op.stringOp .add ⟨P0.toArray⟩ ⟨#[44]⟩).run Tryz.prog w = .ok (.string ⟨Y1.toArray⟩) w := fun w => by rw [hY1]; exact add_str (P := Tryz.prog) P0 [44] (by first | omega | (simp; omega)) w
            obtain ⟨Y2, hY2⟩ : ∃ Y2, Y2 = Y1 ++ DA := ⟨_, rfl⟩
            have l2 : Y2.length = Y1.length + DA.length := by rw [hY2]; simp
            have A2 : ∀ w, (Op.stringOp .add ⟨Y1.toArray⟩ ⟨DA.toArray⟩).run Tryz.prog w = .ok (.string ⟨Y2.toArray⟩) w := fun w => by rw [hY2]; exact add_str (P := Tryz.prog) Y1 DA (by first | omega | (simp; omega)) w
            have HY : Hid (Y2 = P0 ++ [44] ++ DA) := Lib.hid (by rw [hY2, hY1])
            have hst := HST.out
            rw [if_neg hk0] at hst
            have HS2 := Lib.hid hst
            clear hY1 hY2 hst
            go_wp2_with fail
            refine (CA.out _).mono ?_
            rintro e w5 ⟨rfl, hb⟩
            have W5 := Lib.hid (blw_trans HD.out hb)
            have B5 := Lib.hid (HB.out.below hb)
            have b3 := B5.out.cell 3 _ rfl
            have bl := B5.out.lt
            have x0 := (HX.out w5 W5.out).1
            have x1 := (HX.out w5 W5.out).2
            clear hb CA A1 b3o blo x0o x1o
            by_cases hpq : p = q
            · subst hpq
              have dpq : decide (p < p) = false := dec_no (by omega)
              obtain rfl : TN = Y2 := by rw [← HTN.out, HS2.out, HY.out, HRT.out, if_pos rfl]
              go_wp2_with fail
              go_region
              go_wp2_with fail
              go_roundw
              case rel => exact ⟨k + 1, by go_num, by omega, by rw [HTN.out], Lib.hid (Below.drew W5.out), Lib.hid B5.out.drew⟩
              case measure => simp [RowKit.intOf]; omega
            · have dpq : decide (p < q) = true := dec_yes (by omega)
              obtain ⟨Y3, hY3⟩ : ∃ Y3, Y3 = Y2 ++ [46, 46] := ⟨_, rfl⟩
              have l3 : Y3.length = Y2.length + 2 := by rw [hY3]; simp
              have A3 : ∀ w, (Op.stringOp .add ⟨Y2.toArray⟩ ⟨#[46, 46]⟩).run Tryz.prog w = .ok (.string ⟨Y3.toArray⟩) w := fun w => by rw [hY3]; exact add_str (P := Tryz.prog) Y2 [46, 46] (by first | omega | (simp; omega)) w
              have hTN : TN = Y3 ++ DB := by rw [← HTN.out, HS2.out, hY3, HY.out, HRT.out, if_neg hpq]; simp only [List.append_assoc]
              have A4 : ∀ w, (Op.stringOp .add ⟨Y3.toArray⟩ ⟨DB.toArray⟩).run Tryz.prog w = .ok (.string ⟨TN.toArray⟩) w := fun w => by rw [hTN]; exact add_str (P := Tryz.prog) Y3 DB (by first | omega | (simp; omega)) w
              have HTN2 := Lib.hid HTN.out
              clear hY3 hTN
              go_wp2_with fail
              go_region
              go_wp2_with fail
              refine (CB.out _).mono ?_
              rintro e w6 ⟨rfl, hb⟩
              have W6 := Lib.hid (blw_trans (Below.drew W5.out) hb)
              have B6 := Lib.hid (B5.out.drew.below hb)
              clear hb CB A3
              go_wp2_with fail
              go_roundw
              case rel => exact ⟨k + 1, by go_num, by omega, by rw [HTN2.out], W6, B6⟩
              case measure => simp [RowKit.intOf]; omega
        · have e : k = n := by omega
          subst e
          rw [HALL.out]
          go_wp2_with fail
          go_ret
          exact ⟨rfl, HD.out⟩
end Go.Proofs.YtaijjffnamjhiaaGreatDoor
namespace Go.Proofs.YtaijjffnamjhiaaGreatDoor
open Go.RowKit

theorem row_below {w w' : World} {base n k : Nat} {e : TypeId} {v : Value} {xs : List Value} (h : w.ownsRow base e k v n xs) (hb : Below w.heap.size w w') : w'.ownsRow base e k v n xs :=
  h.kept (grown_below hb) (by cases v.ownBlock <;> simp)
theorem take_map_add {α : Type} {L : List α} {f : α → List UInt8} {k : Nat} {x : α} (h : L[k]? = some x) : ((L.take (k + 1)).map f).map txtV = ((L.take k).map f).map txtV ++ [txtV (f x)] := by
  rw [List.take_add_one, h]; simp

set_option maxRecDepth 100000 in
set_option maxHeartbeats 4000000 in
theorem ruletext_some (r : Rul.Rule) (b off cap n : Nat) (w : World) (hn : r.length = n) (hm : n ≤ 20) (hok : ∀ l ∈ r, l.length ≤ 20 ∧ ∀ x ∈ l, Rul.relOk x = true ∧ x.rs.length ≤ 100000001)
    (ht : Lst.total (r.map Rul.partT) [32, 111, 114, 32] ≤ 2000000000000) (hpt : ∀ l ∈ r, Lst.total (l.map Rul.relT) [32, 97, 110, 100, 32] ≤ 2000000000000) (hc : ∀ (j : Nat) x, r[j]? = some x → PartC w b (off + j * 1) x) :
    Calls Tryz.prog 20 #[.slice (some ⟨b, off, none⟩) n cap] w fun e w' => e = .returned (.string ⟨(Rul.ruleT r).toArray⟩) ∧ Below w.heap.size w w' := by
  obtain ⟨i0, hi, hz0, hz1, hz2⟩ := info_parts infoStr
  have HC := Lib.hid hc
  have HN := Lib.hid hn
  have HOK := Lib.hid hok
  have HT := Lib.hid ht
  have HPT := Lib.hid hpt
  have HJ := Lib.hid fun (v : Value) (wx : World) (h : StrsAt wx v (r.map Rul.partT)) => joined_any (r.map Rul.partT) v [32, 111, 114, 32] wx h (by rw [List.length_map]; omega) ht (by simp)
  have HJ2 := Lib.hid fun (l : List Rul.Rl) (hl : l ∈ r) (v : Value) (wx : World) (h : StrsAt wx v (l.map Rul.relT)) => joined_any (l.map Rul.relT) v [32, 97, 110, 100, 32] wx h (by rw [List.length_map]; have := (hok l hl).1; omega) (hpt l hl) (by simp)
  have HR := Lib.hid (show Lib.join (r.map Rul.partT) [32, 111, 114, 32] = Rul.ruleT r from rfl)
  have HR2 := Lib.hid fun l => (show Lib.join (l.map Rul.relT) [32, 97, 110, 100, 32] = Rul.partT l from rfl)
  generalize Rul.ruleT r = RT at *
  clear hc hn hok ht hpt
  go_enter Tryz.func20, Tryz.ntmps20
  go_wp2_with fail
  go_loopw [3, 4, 5, 6] (fun o i _ _ wr => ∃ k : Nat, i = .int .i64 k ∧ k ≤ n ∧ Hid (wr.ownsRow w.heap.size 9 1 o k (((r.take k).map Rul.partT).map txtV)) ∧ Hid (Below w.heap.size w wr)) (fun _ i _ _ _ => n - (RowKit.intOf i).toNat)
  case atStart => exact ⟨0, rfl, Nat.zero_le _, Lib.hid (World.ownsRow_nil _ _ _ _), Lib.hid (Below.refl _ _)⟩
  case round =>
    obtain ⟨k, rfl, hk, HO, HD⟩ := hrel
    rename World => wo
    by_cases hlt : k < n
    · obtain ⟨l, hl⟩ : ∃ x, r[k]? = some x := ⟨r[k]'(by have := HN.out; omega), List.getElem?_eq_getElem (by have := HN.out; omega)⟩
      have HLK := Lib.hid hl
      have HLR := Lib.hid (List.mem_of_getElem? hl)
      obtain ⟨pa, pn, pc, p0, ps⟩ := HC.out k l hl
      rw [Nat.mul_one] at p0
      have x0 := cell_keep p0 HD.out
      obtain ⟨A1, cap1, e1, hm1, hcell1⟩ := ps.spread
      injection e1 with e1 e1' e1''
      subst e1 e1' e1''
      have P0 := Lib.hid p0
      have HC1 := Lib.hid hcell1
      have hml := (HOK.out l HLR.out).1
      obtain ⟨m, hmm⟩ : ∃ m, l.length = m := ⟨_, rfl⟩
      rw [hmm] at x0 P0 hml
      have HX := Lib.hid hmm
      clear hl ps p0 hcell1 hm1 hmm
      have k0 : (0 : Int) ≤ (k : Int) := by omega
      have k1 : (k : Int) < (n : Int) := by omega
      go_wp2_with fail
      go_loopw [5, 6] (fun s i wx => ∃ j : Nat, i = .int .i64 j ∧ j ≤ m ∧ Hid (wx.ownsRow wo.heap.size 9 1 s j (((l.take j).map Rul.relT).map txtV)) ∧ Hid (Below wo.heap.size wo wx)) (fun _ i _ => m - (RowKit.intOf i).toNat)
      case atStart => exact ⟨0, rfl, Nat.zero_le _, Lib.hid (World.ownsRow_nil _ _ _ _), Lib.hid (Below.refl _ _)⟩
      case round =>
        obtain ⟨j, rfl, hj, HO2, HI⟩ := hrel
        have HW := Lib.hid (blw_trans HD.out HI.out)
        have x1 := cell_keep P0.out HW.out
        by_cases hjm : j < m
        · obtain ⟨y, hy⟩ : ∃ y, l[j]? = some y := ⟨l[j]'(by have := HX.out; omega), List.getElem?_eq_getElem (by have := HX.out; omega)⟩
          obtain ⟨b1, o1, rfl, ra, rn, rc, r0, r1, r2, r3, rs⟩ := HC1.out j y hy
          have z0 := cell_keep r0 HW.out
          have z1 := cell_keep r1 HW.out
          have z2 := cell_keep r2 HW.out
          have z3 := cell_keep r3 HW.out
          have hyk := (HOK.out l HLR.out).2 y (List.mem_of_getElem? hy)
          have CS := Lib.hid (rrt_any y ra rn rc wr (rs.rngs_below HW.out) hyk.1 hyk.2)
          have HTA := Lib.hid (take_map_add (f := Rul.relT) hy)
          generalize Rul.relT y = yt at *
          clear hy r0 r1 r2 r3 rs HC1 hyk
          have j0 : (0 : Int) ≤ (j : Int) := by omega
          have j1 : (j : Int) < (m : Int) := by omega
          go_wp2_with fail
          refine CS.out.mono ?_
          rintro e w5 ⟨rfl, hb⟩
          have W5 := Lib.hid (blw_trans HI.out hb)
          have hown := row_below HO2.out hb
          have hbs := W5.out.size
          clear hb CS z0 z1 z2 z3 x1
          go_wp2_with (at_builtin; refine wpList_append_own _ rfl _ _ 107 rfl wo.heap.size 9 i0 (.string ByteArray.empty) 1 16 Tryz.underlying107 hi hz0 hz1 hz2 rfl (by decide) _ _ _ rfl (hown.alloc _) ⟨w5.heap.size, 0, none⟩ 1 1 [txtV yt] rfl rfl (cell_one_new _ _ _) (fun x hx => by simp at hx; subst hx; rfl) (by unfold maxLen; omega) (by omega) (by simp; omega) ?_; intro v' w1 hown' hgrow _)
          have HO' := Lib.hid (show w1.ownsRow wo.heap.size 9 1 v' (j + 1) (((l.take (j + 1)).map Rul.relT).map txtV) by rw [HTA.out]; exact hown')
          have HB' := Lib.hid (show Below wo.heap.size wo w1 from (W5.out.alloc hbs _).grown hgrow (by simp; omega) (fun k hk => (hown.lt k hk).1))
          clear hown hown' hgrow hbs
          go_wp2_with fail
          go_roundw
          case rel => exact ⟨j + 1, by go_num, by omega, HO', HB'⟩
          case measure => simp [RowKit.intOf]; omega
        · have e : j = m := by omega
          subst e
          have SA := HO2.out
          rw [List.take_of_length_le (by have := HX.out; omega)] at SA
          have CJ := Lib.hid (HJ2.out l HLR.out _ wr (StrsAt.of_row SA))
          rw [HR2.out l] at CJ
          have HTA := Lib.hid (take_map_add (f := Rul.partT) HLK.out)
          have hown := row_below HO.out HI.out
          have hbs := HW.out.size
          generalize Rul.partT l = yt at *
          clear SA
          go_wp2_with fail
          refine CJ.out.mono ?_
          rintro e w5 ⟨rfl, rfl⟩
          clear CJ
          go_wp2_with (at_builtin; refine wpList_append_own _ rfl _ _ 107 rfl w.heap.size 9 i0 (.string ByteArray.empty) 1 16 Tryz.underlying107 hi hz0 hz1 hz2 rfl (by decide) _ _ _ rfl (hown.alloc _) ⟨wr.heap.size, 0, none⟩ 1 1 [txtV yt] rfl rfl (cell_one_new _ _ _) (fun x hx => by simp at hx; subst hx; rfl) (by unfold maxLen; omega) (by omega) (by simp; omega) ?_; intro v' w1 hown' hgrow _)
          have HO' := Lib.hid (show w1.ownsRow w.heap.size 9 1 v' (k + 1) (((r.take (k + 1)).map Rul.partT).map txtV) by rw [HTA.out]; exact hown')
          have HB' := Lib.hid (show Below w.heap.size w w1 from (HW.out.alloc hbs _).grown hgrow (by simp; omega) (fun k hk => (hown.lt k hk).1))
          clear hown hown' hgrow hbs
          go_wp2_with fail
          go_roundw
          case rel => exact ⟨k + 1, by go_num, by omega, HO', HB'⟩
          case measure => simp [RowKit.intOf]; omega
    · have e : k = n := by omega
      subst e
      have SA := HO.out
      rw [List.take_of_length_le (by have := HN.out; omega)] at SA
      have CJ := Lib.hid (HJ.out _ _ (StrsAt.of_row SA))
      rw [HR.out] at CJ
      clear SA
      go_wp2_with fail
      refine CJ.out.mono ?_
      rintro e w5 ⟨rfl, rfl⟩
      go_wp2_with fail
      go_ret
      exact ⟨rfl, HD.out⟩
theorem ruletext_any (r : Rul.Rule) (A : Option Addr) (n c : Nat) (w : World) (hr : SlAt 1 PartC w (.slice A n c) r) (hE : Rul.ruleE r = 0) (hrs : ∀ l ∈ r, ∀ x ∈ l, x.rs.length ≤ 100000001) :
    Calls Tryz.prog 20 #[.slice A n c] w fun e w' => e = .returned (.string ⟨(Rul.ruleT r).toArray⟩) ∧ Below w.heap.size w w' := by
  obtain ⟨hs, hc⟩ := Rul.ruleE_zero.1 hE
  obtain ⟨t1, t2⟩ := Rul.ok_totals hE hrs
  rcases hr with ⟨rfl, a, c', e⟩ | ⟨b, off, cap, e, h0, _, _, h3⟩
  · exact absurd rfl (Rul.shape_parts hs).1
  · injection e with e1 e2 e3
    subst e1 e2 e3
    refine ruletext_some r b off _ _ w rfl (by have := Rul.len_count (fun l hl => (Rul.part_parts ((Rul.shape_parts hs).2 l hl)).1); omega) (fun l hl => ⟨Nat.le_trans (Rul.count_mem hl) hc, fun x hx => ⟨(Rul.part_parts ((Rul.shape_parts hs).2 l hl)).2 x hx, hrs l hl x hx⟩⟩) ?_ ?_ h3
    · exact t1
    · exact fun l hl => (t2 l hl).2.1
end Go.Proofs.YtaijjffnamjhiaaGreatDoor
namespace Rul
open Go Go.Lib
theorem count_Q (s : List UInt8) : (ruleQ s).length ≤ s.length + 1 ∧ count (ruleQ s) ≤ 2 * s.length + 2 := by
  have h := count_P s
  have e : (ruleQ s).map List.length = (ruleP s).map List.length := by
    unfold ruleQ ruleP
    rw [List.map_map, List.map_map]
    exact List.map_congr_left fun x _ => by simp [partQ, partP]
  have el : (ruleQ s).length = (ruleP s).length := by simpa using congrArg List.length e
  refine ⟨by rw [el]; exact h.1, ?_⟩
  have h2 := h.2
  unfold count at h2 ⊢
  rw [e]; exact h2
theorem rs_words : ∀ (L : List (List UInt8)) (n : Nat), (∀ x ∈ L, x.length ≤ n) → (wordsQ L).rs.length ≤ n + 1 := by
  intro L n h
  rcases L with _ | ⟨a, _ | ⟨u, _ | ⟨v, r⟩⟩⟩
  · simp [wordsQ]
  · rcases a with _ | ⟨x, _ | ⟨y, t⟩⟩ <;> simp [wordsQ]
  · rcases a with _ | ⟨x, _ | ⟨y, t⟩⟩ <;> simp [wordsQ]
  · rcases a with _ | ⟨x, _ | ⟨y, t⟩⟩
    · simp [wordsQ]
    · have key : ∀ y ∈ [x] :: u :: v :: r, ((split y [44]).map rngQ).length ≤ n + 1 := fun y hy => by
        have h4 := split_short (s := y) (sub := [44]) (by decide)
        have := h y hy
        rw [List.length_map]; omega
      show (if u = [37] ∧ r.length = 2 then _ else _ : Rl).rs.length ≤ _
      split
      · rename_i hc
        obtain ⟨X, Y, rfl⟩ : ∃ X Y, r = [X, Y] := by
          rcases r with _ | ⟨a, _ | ⟨b, _ | ⟨c, t⟩⟩⟩
          · simp at hc
          · simp at hc
          · exact ⟨_, _, rfl⟩
          · simp at hc
        exact key Y (by simp)
      · exact key v (by simp)
    · simp [wordsQ]
theorem rs_Q (s : List UInt8) : ∀ l ∈ ruleQ s, ∀ x ∈ l, x.rs.length ≤ s.length + 1 := by
  intro l hl x hx
  obtain ⟨p, hp, rfl⟩ := List.mem_map.1 hl
  obtain ⟨q, hq, rfl⟩ := List.mem_map.1 hx
  have h1 := mem_split hp
  have h2 := mem_split hq
  exact rs_words _ _ fun y hy => Nat.le_trans (mem_split hy) (Nat.le_trans h2 h1)
end Rul
namespace Go.Proofs.YtaijjffnamjhiaaGreatDoor
open Go.RowKit Go.Shelf

/-- the row of relations that grows -/
structure QI (B : Nat) (vr : Value) (qs : List (Rul.Rl × Value)) (S : Nat → Prop) (pre : List (List UInt8)) (W : World) : Prop where
  row : W.ownsRow B 106 4 vr qs.length (qflat qs)
  fst : qs.map (·.1) = pre.map Rul.relQ
  it : ∀ q ∈ qs, ∃ a n c, q.2 = .slice a n c ∧ SlAt 2 (RngI S) W (.slice a n c) q.1.rs
  own : Own B S vr W
  sz : B ≤ W.heap.size
theorem QI.grown {B : Nat} {vr : Value} {qs : List (Rul.Rl × Value)} {S : Nat → Prop} {pre : List (List UInt8)} {A C : World} {r : Option Nat} (h : QI B vr qs S pre A) (g : A.grownBy C r)
    (hr : ∀ k, r = some k → vr.ownBlock ≠ some k ∧ ¬ S k) : QI B vr qs S pre C := by
  have hS : ∀ b, S b → some b ≠ r := fun b hb e => (hr b e.symm).2 hb
  refine ⟨h.row.kept g ?_, h.fst, fun q hq => ?_, h.own.grown g hS, Nat.le_trans h.sz g.size⟩
  · cases hv : vr.ownBlock with
    | none => exact .inl rfl
    | some k => exact .inr fun e => (hr k e.symm).1 hv
  · obtain ⟨a, n, c, e, hs⟩ := h.it q hq
    exact ⟨a, n, c, e, rngsI_kept hs (same_grown h.own g hS) (fun _ hb => hb)⟩
theorem QI.len {B : Nat} {vr : Value} {qs : List (Rul.Rl × Value)} {S : Nat → Prop} {pre : List (List UInt8)} {W : World} (h : QI B vr qs S pre W) : qs.length = pre.length := by
  have := congrArg List.length h.fst
  simpa using this
/-- the relation that was read is added -/
theorem QI.append {B : Nat} {vr v' : Value} {qs : List (Rul.Rl × Value)} {S : Nat → Prop} {pre : List (List UInt8)} {x : List UInt8} {a : Option Addr} {n c : Nat} {A C : World} (h : QI B vr qs S pre A)
    (hown : C.ownsRow B 106 4 v' (qs.length + 1) (qflat qs ++ [.int .u8 ((Rul.relQ x).op.toNat : Int), .int .i64 (Rul.relQ x).mod, .bool (Rul.relQ x).no, .slice a n c])) (g : A.grownBy C vr.ownBlock)
    (hat : v'.ownBlock = vr.ownBlock ∨ v'.ownBlock = some A.heap.size)
    (hs : SlAt 2 RngC A (.slice a n c) (Rul.relQ x).rs) (hb : ∀ b, (Value.slice a n c).ownBlock = some b → B ≤ b ∧ vr.ownBlock ≠ some b) :
    QI B v' (qs ++ [(Rul.relQ x, .slice a n c)]) (fun b => S b ∨ ((Rul.relQ x).rs ≠ [] ∧ (Value.slice a n c).ownBlock = some b)) (pre ++ [x]) C := by
  have hB : ∀ k, vr.ownBlock = some k → B ≤ k := fun k hk => (h.row.lt k hk).1
  have hS : ∀ b, S b → some b ≠ vr.ownBlock := fun b hb e => h.own.ne b hb e.symm
  have hT : ∀ b, (Rul.relQ x).rs ≠ [] → (Value.slice a n c).ownBlock = some b → IsC A b := by
    intro b hn hb
    rcases hs with ⟨e, _⟩ | ⟨b', off, cap, e1, e2, _, _, e3⟩
    · exact absurd e hn
    · injection e1 with e1 _ _
      subst e1
      injection hb with hb
      subst hb
      have hq := e3 0 _ (List.getElem?_eq_getElem e2)
      exact IsC.of_cell hq.1
  have hs' : SlAt 2 (RngI (fun b => S b ∨ ((Rul.relQ x).rs ≠ [] ∧ (Value.slice a n c).ownBlock = some b))) C (.slice a n c) (Rul.relQ x).rs := by
    rcases hs with ⟨e, z⟩ | ⟨b', off, cap, e1, e2, e4, e5, e3⟩
    · exact .inl ⟨e, z⟩
    · have hne : (Rul.relQ x).rs ≠ [] := by rintro e; rw [e] at e2; simp at e2
      have ho : (Value.slice a n c).ownBlock = some b' := by rw [e1]; rfl
      have hC := g.block b' (hT b' hne ho).lt (fun e => (hb b' ho).2 e.symm)
      refine .inr ⟨b', off, cap, e1, e2, e4, e5, fun j y hy => ⟨.inr ⟨hne, ho⟩, ?_, ?_⟩⟩
      · exact (World.cell?_of_block (a := ⟨b', off + j * 2, none⟩) hC).trans (e3 j y hy).1
      · exact (World.cell?_of_block (a := ⟨b', off + j * 2 + 1, none⟩) hC).trans (e3 j y hy).2
  refine ⟨?_, ?_, ?_, ⟨?_, ?_, ?_⟩, Nat.le_trans h.sz g.size⟩
  · rw [qflat_add, List.length_append]; exact hown
  · rw [List.map_append, List.map_append, h.fst]; rfl
  · intro q hq
    rcases List.mem_append.1 hq with hq | hq
    · obtain ⟨a', n', c', e, z⟩ := h.it q hq
      exact ⟨a', n', c', e, rngsI_kept z (same_grown h.own g hS) (fun _ hb => .inl hb)⟩
    · rw [List.mem_singleton.1 hq]
      exact ⟨a, n, c, rfl, hs'⟩
  · rintro b (hb' | hb')
    · exact h.own.ge b hb'
    · exact (hb b hb'.2).1
  · rintro b (hb' | hb') e
    · rcases hat with e' | e'
      · exact h.own.ne b hb' (e'.symm.trans e)
      · have := (h.own.is b hb').lt
        rw [e'] at e; injection e with e; omega
    · rcases hat with e' | e'
      · exact (hb b hb'.2).2 (e'.symm.trans e)
      · have := (hT b hb'.1 hb'.2).lt
        rw [e'] at e; injection e with e; omega
  · rintro b (hb' | hb')
    · exact (h.own.is b hb').grown g (hS b hb')
    · exact (hT b hb'.1 hb'.2).grown g (fun e => (hb b hb'.2).2 e.symm)
/-- the row as it lies -/
theorem QI.lies {B : Nat} {a : Option Addr} {n c : Nat} {qs : List (Rul.Rl × Value)} {S : Nat → Prop} {pre : List (List UInt8)} {A : World} (h : QI B (.slice a n c) qs S pre A) :
    SlAt 4 (RelI (fun b => S b ∨ (Value.slice a n c).ownBlock = some b)) A (.slice a n c) (pre.map Rul.relQ) ∧ ∀ b, (S b ∨ (Value.slice a n c).ownBlock = some b) → B ≤ b ∧ IsC A b := by
  refine ⟨?_, ?_⟩
  · rw [← h.fst]
    have hr := h.row
    rcases hr.2 with ⟨e, hn⟩ | ⟨g, cap, cur, e, hB, hg, hc, hm, _⟩
    · have : qs = [] := List.eq_nil_of_length_eq_zero hn
      subst this
      injection e with e1 e2 e3
      subst e1 e2 e3
      exact .inl ⟨rfl, _, _, rfl⟩
    · injection e with e1 e2 e3
      subst e1 e2 e3
      by_cases h0 : qs.length = 0
      · have : qs = [] := List.eq_nil_of_length_eq_zero h0
        subst this
        exact .inl ⟨rfl, _, _, rfl⟩
      · refine .inr ⟨g, 0, _, by rw [List.length_map], by rw [List.length_map]; omega, by rw [List.length_map]; exact hc, hm, fun j x hx => ?_⟩
        rw [List.getElem?_map] at hx
        obtain ⟨q, hq, rfl⟩ := Option.map_eq_some_iff.1 hx
        obtain ⟨e0, e1, e2, e3⟩ := qflat_at hq
        have hj : j < qs.length := (List.getElem?_eq_some_iff.1 hq).1
        have c0 := hr.cellAt (g := g) (j * 4) (by omega)
        have c1 := hr.cellAt (g := g) (j * 4 + 1) (by omega)
        have c2 := hr.cellAt (g := g) (j * 4 + 2) (by omega)
        have c3 := hr.cellAt (g := g) (j * 4 + 3) (by omega)
        rw [e0] at c0
        rw [e1] at c1
        rw [e2] at c2
        rw [e3] at c3
        rw [Nat.zero_add]
        obtain ⟨a', n', c', e, z⟩ := h.it q (List.mem_of_getElem? hq)
        rw [e] at c3
        exact ⟨.inr rfl, a', n', c', c0, c1, c2, c3, rngsI_kept z (fun _ _ => rfl) (fun _ hb => .inl hb)⟩
  · rintro b (hb | hb)
    · exact ⟨h.own.ge b hb, h.own.is b hb⟩
    · exact ⟨(h.row.lt b hb).1, IsC.row h.row hb⟩

/-- the row of parts that grows -/
structure QO (w : World) (B : Nat) (vr : Value) (ps : List (List Rul.Rl × Value)) (S : Nat → Prop) (pre : List (List UInt8)) (W : World) : Prop where
  row : W.ownsRow B 102 1 vr ps.length (ps.map (·.2))
  fst : ps.map (·.1) = pre.map Rul.partQ
  it : ∀ q ∈ ps, ∃ a n c, q.2 = .slice a n c ∧ SlAt 4 (RelI S) W (.slice a n c) q.1
  own : Own B S vr W
  low : Below w.heap.size w W
  sz : B ≤ W.heap.size
theorem QO.grown {w : World} {B : Nat} {vr : Value} {ps : List (List Rul.Rl × Value)} {S : Nat → Prop} {pre : List (List UInt8)} {A C : World} {r : Option Nat} (h : QO w B vr ps S pre A) (g : A.grownBy C r)
    (hr : ∀ k, r = some k → w.heap.size ≤ k ∧ vr.ownBlock ≠ some k ∧ ¬ S k) : QO w B vr ps S pre C := by
  have hS : ∀ b, S b → some b ≠ r := fun b hb e => (hr b e.symm).2.2 hb
  refine ⟨h.row.kept g ?_, h.fst, fun q hq => ?_, h.own.grown g hS, h.low.grown g h.low.size (fun k hk => (hr k hk).1), Nat.le_trans h.sz g.size⟩
  · cases hv : vr.ownBlock with
    | none => exact .inl rfl
    | some k => exact .inr fun e => (hr k e.symm).2.1 hv
  · obtain ⟨a, n, c, e, hs⟩ := h.it q hq
    exact ⟨a, n, c, e, relsI_kept hs (same_grown h.own g hS) (fun _ hb => hb)⟩
theorem QO.len {w : World} {B : Nat} {vr : Value} {ps : List (List Rul.Rl × Value)} {S : Nat → Prop} {pre : List (List UInt8)} {W : World} (h : QO w B vr ps S pre W) : ps.length = pre.length := by
  have := congrArg List.length h.fst
  simpa using this
theorem QO.append {w : World} {B : Nat} {vr v' : Value} {ps : List (List Rul.Rl × Value)} {S S2 : Nat → Prop} {pre : List (List UInt8)} {x : List UInt8} {a : Option Addr} {n c : Nat} {A C : World} (h : QO w B vr ps S pre A)
    (hown : C.ownsRow B 102 1 v' (ps.length + 1) (ps.map (·.2) ++ [.slice a n c])) (g : A.grownBy C vr.ownBlock)
    (hat : v'.ownBlock = vr.ownBlock ∨ v'.ownBlock = some A.heap.size) (hw : w.heap.size ≤ B)
    (hs : SlAt 4 (RelI S2) A (.slice a n c) (Rul.partQ x)) (hb : ∀ b, S2 b → B ≤ b ∧ vr.ownBlock ≠ some b ∧ IsC A b) :
    QO w B v' (ps ++ [(Rul.partQ x, .slice a n c)]) (fun b => S b ∨ S2 b) (pre ++ [x]) C := by
  have hB : ∀ k, vr.ownBlock = some k → B ≤ k := fun k hk => (h.row.lt k hk).1
  have hS : ∀ b, S b → some b ≠ vr.ownBlock := fun b hb e => h.own.ne b hb e.symm
  have hS2 : ∀ b, S2 b → some b ≠ vr.ownBlock := fun b hb' e => (hb b hb').2.1 e.symm
  have sm2 : SameOn S2 A C := fun b hb' => g.block b (hb b hb').2.2.lt (hS2 b hb')
  refine ⟨?_, ?_, ?_, ⟨?_, ?_, ?_⟩, h.low.grown g h.low.size (fun k hk => by have := hB k hk; omega), Nat.le_trans h.sz g.size⟩
  · rw [List.length_append, List.map_append]; exact hown
  · rw [List.map_append, List.map_append, h.fst]; rfl
  · intro q hq
    rcases List.mem_append.1 hq with hq | hq
    · obtain ⟨a', n', c', e, z⟩ := h.it q hq
      exact ⟨a', n', c', e, relsI_kept z (same_grown h.own g hS) (fun _ hb => .inl hb)⟩
    · rw [List.mem_singleton.1 hq]
      exact ⟨a, n, c, rfl, relsI_kept hs sm2 (fun _ hb => .inr hb)⟩
  · rintro b (hb' | hb')
    · exact h.own.ge b hb'
    · exact (hb b hb').1
  · rintro b (hb' | hb') e
    · rcases hat with e' | e'
      · exact h.own.ne b hb' (e'.symm.trans e)
      · have := (h.own.is b hb').lt
        rw [e'] at e; injection e with e; omega
    · rcases hat with e' | e'
      · exact (hb b hb').2.1 (e'.symm.trans e)
      · have := (hb b hb').2.2.lt
        rw [e'] at e; injection e with e; omega
  · rintro b (hb' | hb')
    · exact (h.own.is b hb').grown g (hS b hb')
    · exact (hb b hb').2.2.grown g (hS2 b hb')
theorem QO.lies {w : World} {B : Nat} {a : Option Addr} {n c : Nat} {ps : List (List Rul.Rl × Value)} {S : Nat → Prop} {pre : List (List UInt8)} {A : World} (h : QO w B (.slice a n c) ps S pre A) :
    SlAt 1 PartC A (.slice a n c) (pre.map Rul.partQ) := by
  rw [← h.fst]
  have hr := h.row
  rcases hr.2 with ⟨e, hn⟩ | ⟨g, cap, cur, e, hB, hg, hc, hm, _⟩
  · have : ps = [] := List.eq_nil_of_length_eq_zero hn
    subst this
    injection e with e1 e2 e3
    subst e1 e2 e3
    exact .inl ⟨rfl, _, _, rfl⟩
  · injection e with e1 e2 e3
    subst e1 e2 e3
    by_cases h0 : ps.length = 0
    · have : ps = [] := List.eq_nil_of_length_eq_zero h0
      subst this
      exact .inl ⟨rfl, _, _, rfl⟩
    · refine .inr ⟨g, 0, _, by rw [List.length_map], by rw [List.length_map]; omega, by rw [List.length_map]; exact hc, hm, fun j x hx => ?_⟩
      rw [List.getElem?_map] at hx
      obtain ⟨q, hq, rfl⟩ := Option.map_eq_some_iff.1 hx
      have hj : j < ps.length := (List.getElem?_eq_some_iff.1 hq).1
      have c0 := hr.cellAt (g := g) (j * 1) (by omega)
      rw [Nat.mul_one, List.getElem?_map, hq] at c0
      rw [Nat.zero_add, Nat.mul_one]
      obtain ⟨a', n', c', e, z⟩ := h.it q (List.mem_of_getElem? hq)
      exact ⟨a', n', c', c0.trans (by rw [← e]; rfl), relsI_plain z⟩

theorem QI.below {B : Nat} {vr : Value} {qs : List (Rul.Rl × Value)} {S : Nat → Prop} {pre : List (List UInt8)} {A C : World} (h : QI B vr qs S pre A) (hb : Below A.heap.size A C) : QI B vr qs S pre C :=
  h.grown (grown_below hb) (fun k e => by cases e)
theorem QO.below {w : World} {B : Nat} {vr : Value} {ps : List (List Rul.Rl × Value)} {S : Nat → Prop} {pre : List (List UInt8)} {A C : World} (h : QO w B vr ps S pre A) (hb : Below A.heap.size A C) : QO w B vr ps S pre C :=
  h.grown (grown_below hb) (fun k e => by cases e)
end Go.Proofs.YtaijjffnamjhiaaGreatDoor
namespace Go.Proofs.YtaijjffnamjhiaaGreatDoor
open Go.RowKit Go.MapKept

theorem mapb_new {P : Program} (T K E : TypeId) (hT : P.underlying T = some (.map K E)) (hK : P.underlying K = some (.int .u8)) (es : Array MapEntry) (c : Nat) (k : Int) (v : Value)
    (hf : Instr.findNow (.int .u8) (.int .u8 k) es.toList 0 = some none) (w : World) :
    (Instr.mapUpdate T (.map (some w.heap.size)) (.int .u8 k) v).run P (w.alloc (.map es c)) = .ok () (w.alloc (.map (es.push { key := .int .u8 k, val := v, born := c }) (c + 1))) := by
  have hb : (w.alloc (.map es c)).heap[w.heap.size]? = some (.map es c) := by show (w.heap.push _)[w.heap.size]? = _; simp
  have e : ({ (w.alloc (.map es c)) with heap := (w.alloc (.map es c)).heap.setIfInBounds w.heap.size (.map (es.push { key := .int .u8 k, val := v, born := c }) (c + 1)) } : World) = w.alloc (.map (es.push { key := .int .u8 k, val := v, born := c }) (c + 1)) := by
    show ({ w with heap := (w.heap.push _).setIfInBounds w.heap.size _ } : World) = { w with heap := w.heap.push _ }
    congr 1
    apply Array.ext_getElem?
    intro i
    rw [Array.getElem?_setIfInBounds]
    simp only [Array.getElem?_push, Array.size_push]
    by_cases h : w.heap.size = i
    · subst h; simp
    · simp [h, Ne.symm h]
  rw [← e]
  simp [Instr.mapUpdate, run_underlying hT, MapKept.run_getObj_map hb, run_checkKey hK (show IsKey (.int .u8) (.int .u8 k) from rfl), run_findKey hK hf, MapKept.run_setObj_map _ hb, Result.andThen]
theorem mapb_look {P : Program} (T K E : TypeId) (hT : P.underlying T = some (.map K E)) (hK : P.underlying K = some (.int .u8)) (es : Array MapEntry) (c r i : Nat) (k : Int) (v : Value) (w : World)
    (hb : w.heap[r]? = some (.map es c)) (hf : Instr.findNow (.int .u8) (.int .u8 k) es.toList 0 = some (some (i, v))) :
    (Instr.lookup T (.map (some r)) (.int .u8 k) false).run P w = .ok v w := by
  simp [Instr.lookup, run_underlying hT, MapKept.run_getObj_map hb, run_checkKey hK (show IsKey (.int .u8) (.int .u8 k) from rfl), run_findKey hK hf, Result.andThen]
theorem top_alloc' (w : World) (o : Obj) (n : Nat) (h : n = w.heap.size) : (w.alloc o).heap[n]? = some o := by subst h; show (w.heap.push _)[w.heap.size]? = _; simp
end Go.Proofs.YtaijjffnamjhiaaGreatDoor
namespace Go.Proofs.YtaijjffnamjhiaaGreatDoor
open Go.RowKit

set_option maxRecDepth 100000 in
set_option maxHeartbeats 1000000 in
theorem holds1_any (x : Int) (p : Int × Int) (q : Nat) (w : World) (h : w.cell? ⟨q, 0, none⟩ = some (.int .i64 x)) :
    Calls Tryz.prog 120 (#[.agg #[.int .i64 p.1, .int .i64 p.2]] ++ #[.pointer (some ⟨q, 0, none⟩)]) w fun e w' => e = .returned (.bool (Rul.rngHas x p)) ∧ Below w.heap.size w w' := by
  obtain ⟨a, b⟩ := p
  dsimp only
  have HR := Lib.hid (show Rul.rngHas x (a, b) = (decide (a ≤ x) && decide (x ≤ b)) from rfl)
  have hq := World.block_lt_of_cell? w _ h
  generalize Rul.rngHas x (a, b) = R at *
  show Calls _ _ #[_, _] _ _
  by_cases h0 : a ≤ x
  · have d0 : decide (a ≤ x) = true := dec_yes h0
    have d0' : decide (x ≥ a) = true := dec_yes h0
    by_cases h1 : x ≤ b
    · have d1 : decide (x ≤ b) = true := dec_yes h1
      obtain rfl : R = true := by rw [HR.out, d0, d1]; rfl
      go_enter Tryz.func120, Tryz.ntmps120
      go_wp2_with fail
      go_ret
      exact ⟨ret_bool (by simp), blw_alloc _ _⟩
    · have d1 : decide (x ≤ b) = false := dec_no h1
      obtain rfl : R = false := by rw [HR.out, d0, d1]; rfl
      go_enter Tryz.func120, Tryz.ntmps120
      go_wp2_with fail
      go_ret
      exact ⟨ret_bool (by simp), blw_alloc _ _⟩
  · have d0 : decide (a ≤ x) = false := dec_no h0
    obtain rfl : R = false := by rw [HR.out, d0]; rfl
    have d0' : decide (x ≥ a) = false := dec_no h0
    go_enter Tryz.func120, Tryz.ntmps120
    go_wp2_with fail
    go_ret
    exact ⟨ret_bool (by simp), blw_alloc _ _⟩
theorem holds1_at (args : Array Value) (w : World) : (callFunc 120 args).run Tryz.prog w = .ok (.enter 120 args) w := enters_of Tryz.func120 (by kernel_rfl) rfl args w

/-- the map's first entries -/
def hm0 (_ : Rul.Op5) : Array MapEntry := #[]
def hm1 (o : Rul.Op5) : Array MapEntry := (hm0 o).push { key := .int .u8 110, val := .int .i64 o.i, born := 0 }
def hm2 (o : Rul.Op5) : Array MapEntry := (hm1 o).push { key := .int .u8 105, val := .int .i64 o.i, born := 1 }
def hm3 (o : Rul.Op5) : Array MapEntry := (hm2 o).push { key := .int .u8 118, val := .int .i64 o.v, born := 2 }
def hm4 (o : Rul.Op5) : Array MapEntry := (hm3 o).push { key := .int .u8 119, val := .int .i64 o.w, born := 3 }
def hm5 (o : Rul.Op5) : Array MapEntry := (hm4 o).push { key := .int .u8 102, val := .int .i64 o.f, born := 4 }
def hm6 (o : Rul.Op5) : Array MapEntry := (hm5 o).push { key := .int .u8 116, val := .int .i64 o.t, born := 5 }
theorem opv_of {c : UInt8} (h : Rul.opOk c = true) (o : Rul.Op5) : ∃ i, Instr.findNow (.int .u8) (.int .u8 (c.toNat : Int)) (hm6 o).toList 0 = some (some (i, .int .i64 (Rul.opv c o))) := by
  rcases Rul.op_cases h with rfl | rfl | rfl | rfl | rfl | rfl
  · exact ⟨0, by kernel_rfl⟩
  · exact ⟨1, by kernel_rfl⟩
  · exact ⟨2, by kernel_rfl⟩
  · exact ⟨3, by kernel_rfl⟩
  · exact ⟨4, by kernel_rfl⟩
  · exact ⟨5, by kernel_rfl⟩

set_option maxRecDepth 100000 in
set_option maxHeartbeats 4000000 in
theorem holds_any (r : Rul.Rl) (o : Rul.Op5) (a : Option Addr) (n c : Nat) (w : World) (hs : SlAt 2 RngC w (.slice a n c) r.rs) (hok : Rul.opOk r.op = true) :
    Calls Tryz.prog 67 #[.agg #[.int .u8 (r.op.toNat : Int), .int .i64 r.mod, .bool r.no, .slice a n c], .agg #[.int .i64 o.i, .int .i64 o.v, .int .i64 o.w, .int .i64 o.f, .int .i64 o.t]] w fun e w' => e = .returned (.bool (Rul.relH r o)) ∧ Below w.heap.size w w' := by
  obtain ⟨op, mod, no, rs⟩ := r
  dsimp only at *
  obtain ⟨wA, hwA⟩ : ∃ wA, (w.alloc (.cells #[.int .u8 (op.toNat : Int), .int .i64 mod, .bool no, .slice a n c] 106)).alloc (.cells #[.int .i64 o.i, .int .i64 o.v, .int .i64 o.w, .int .i64 o.f, .int .i64 o.t] 45) = wA := ⟨_, rfl⟩
  have zA : wA.heap.size = w.heap.size + 2 := by rw [← hwA]; simp
  have BR := Lib.hid ((Boxed.made w #[.int .u8 (op.toNat : Int), .int .i64 mod, .bool no, .slice a n c] 106).alloc (.cells #[.int .i64 o.i, .int .i64 o.v, .int .i64 o.w, .int .i64 o.f, .int .i64 o.t] 45))
  have BO := Lib.hid (Boxed.made (w.alloc (.cells #[.int .u8 (op.toNat : Int), .int .i64 mod, .bool no, .slice a n c] 106)) #[.int .i64 o.i, .int .i64 o.v, .int .i64 o.w, .int .i64 o.f, .int .i64 o.t] 45)
  have WA := Lib.hid ((blw_alloc w (.cells #[.int .u8 (op.toNat : Int), .int .i64 mod, .bool no, .slice a n c] 106)).alloc (by simp) (.cells #[.int .i64 o.i, .int .i64 o.v, .int .i64 o.w, .int .i64 o.f, .int .i64 o.t] 45))
  simp only [World.size_alloc] at BO
  rw [hwA] at BR BO WA
  have hmm : ∀ w, (Instr.makeMap 174 none).run Tryz.prog w = .ok (.map (some w.heap.size)) (w.alloc (.map (hm0 o) 0)) := fun w => @run_makeMap Tryz.prog 174 w
  have I0 := mapb_new (P := Tryz.prog) 174 5 3 Tryz.underlying174 Tryz.underlying5 (hm0 o) 0 110 (.int .i64 o.i) (by kernel_rfl) wA
  change (Instr.mapUpdate 174 (.map (some wA.heap.size)) (.int .u8 110) (.int .i64 o.i)).run Tryz.prog (wA.alloc (.map (hm0 o) 0)) = .ok () (wA.alloc (.map (hm1 o) 1)) at I0
  rw [zA] at I0
  have I1 := mapb_new (P := Tryz.prog) 174 5 3 Tryz.underlying174 Tryz.underlying5 (hm1 o) 1 105 (.int .i64 o.i) (by kernel_rfl) wA
  change (Instr.mapUpdate 174 (.map (some wA.heap.size)) (.int .u8 105) (.int .i64 o.i)).run Tryz.prog (wA.alloc (.map (hm1 o) 1)) = .ok () (wA.alloc (.map (hm2 o) 2)) at I1
  rw [zA] at I1
  have I2 := mapb_new (P := Tryz.prog) 174 5 3 Tryz.underlying174 Tryz.underlying5 (hm2 o) 2 118 (.int .i64 o.v) (by kernel_rfl) wA
  change (Instr.mapUpdate 174 (.map (some wA.heap.size)) (.int .u8 118) (.int .i64 o.v)).run Tryz.prog (wA.alloc (.map (hm2 o) 2)) = .ok () (wA.alloc (.map (hm3 o) 3)) at I2
  rw [zA] at I2
  have I3 := mapb_new (P := Tryz.prog) 174 5 3 Tryz.underlying174 Tryz.underlying5 (hm3 o) 3 119 (.int .i64 o.w) (by kernel_rfl) wA
  change (Instr.mapUpdate 174 (.map (some wA.heap.size)) (.int .u8 119) (.int .i64 o.w)).run Tryz.prog (wA.alloc (.map (hm3 o) 3)) = .ok () (wA.alloc (.map (hm4 o) 4)) at I3
  rw [zA] at I3
  have I4 := mapb_new (P := Tryz.prog) 174 5 3 Tryz.underlying174 Tryz.underlying5 (hm4 o) 4 102 (.int .i64 o.f) (by kernel_rfl) wA
  change (Instr.mapUpdate 174 (.map (some wA.heap.size)) (.int .u8 102) (.int .i64 o.f)).run Tryz.prog (wA.alloc (.map (hm4 o) 4)) = .ok () (wA.alloc (.map (hm5 o) 5)) at I4
  rw [zA] at I4
  have I5 := mapb_new (P := Tryz.prog) 174 5 3 Tryz.underlying174 Tryz.underlying5 (hm5 o) 5 116 (.int .i64 o.t) (by kernel_rfl) wA
  change (Instr.mapUpdate 174 (.map (some wA.heap.size)) (.int .u8 116) (.int .i64 o.t)).run Tryz.prog (wA.alloc (.map (hm5 o) 5)) = .ok () (wA.alloc (.map (hm6 o) 6)) at I5
  rw [zA] at I5
  obtain ⟨ix, hix⟩ := opv_of hok o
  have LK := mapb_look (P := Tryz.prog) 174 5 3 Tryz.underlying174 Tryz.underlying5 (hm6 o) 6 (w.heap.size + 2) ix (op.toNat : Int) (.int .i64 (Rul.opv op o)) (wA.alloc (.map (hm6 o) 6)) (top_alloc' wA _ _ zA.symm) hix
  clear hix
  have HX := Lib.hid (show Rul.opx ⟨op, mod, no, rs⟩ o = if mod = 0 then Rul.opv op o else (Rul.opv op o).tmod mod from rfl)
  have HR := Lib.hid (show Rul.relH ⟨op, mod, no, rs⟩ o = ((rs.any (Rul.rngHas (Rul.opx ⟨op, mod, no, rs⟩ o)) && (!decide (op = 110) || decide (o.t = 0))) != no) from rfl)
  generalize Rul.opx ⟨op, mod, no, rs⟩ o = X at *
  generalize Rul.relH ⟨op, mod, no, rs⟩ o = R at *
  have HA := Lib.hid fun (w' : World) (hb : Below w.heap.size w w') (q : Nat) (hq : w'.cell? ⟨q, 0, none⟩ = some (.int .i64 X)) => has_rng rs (Rul.rngHas X) 120 #[.pointer (some ⟨q, 0, none⟩)] holds1_at (.slice a n c) w' (hs.rngs_below hb) (Lib.hid fun x _ wx hx => holds1_any X x q wx (cell_keep hq hx))
  have ho110 : decide (op = 110) = decide ((op.toNat : Int) = 110) := by
    by_cases h : op = 110
    · subst h; rfl
    · rw [dec_no h, dec_no (fun e => h (by apply UInt8.toNat_inj.1; show op.toNat = 110; omega))]
  rw [ho110] at HR
  clear ho110
  generalize Rul.opv op o = Y at *
  generalize rs.any (Rul.rngHas X) = I at *
  generalize (op.toNat : Int) = opI at *
  clear hs hok
  subst hwA
  by_cases hm : mod = 0
  · subst hm
    obtain rfl : X = Y := by rw [HX.out, if_pos rfl]
    clear HX
    go_enter Tryz.func67, Tryz.ntmps67
    go_wp2_with fail
    refine (HA.out _ ((WA.out.alloc (by simp only [World.size_alloc]; omega) (.map (hm6 o) 6)).alloc (by simp only [World.size_alloc]; omega) (.cells #[.int .i64 X] 3)) _ (by simp [go_sem])).mono ?_
    rintro e w2 ⟨rfl, hb⟩
    have BR2 := Lib.hid (((BR.out.alloc (.map (hm6 o) 6)).alloc (.cells #[.int .i64 X] 3)).below hb)
    have BO2 := Lib.hid (((BO.out.alloc (.map (hm6 o) 6)).alloc (.cells #[.int .i64 X] 3)).below hb)
    have W2 := Lib.hid (blw_trans ((WA.out.alloc (by simp only [World.size_alloc]; omega) (.map (hm6 o) 6)).alloc (by simp only [World.size_alloc]; omega) (.cells #[.int .i64 X] 3)) hb)
    have k0 := BR2.out.cell 0 _ rfl
    have k2 := BR2.out.cell 2 _ rfl
    have k4 := BO2.out.cell 4 _ rfl
    clear hb HA BR BO WA LK hmm I0 I1 I2 I3 I4 I5
    generalize o.t = ot at *
    cases I with
    | false =>
      go_wp2_with fail
      go_ret
      exact ⟨ret_bool (by rw [HR.out]; simp), W2.out⟩
    | true =>
      by_cases h1 : opI = 110
      · have d1 : (opI == 110) = true := beq_yes h1
        by_cases h2 : ot = 0
        · have d2 : (ot == 0) = true := beq_yes h2
          have HF := Lib.hid (show R = (true != no) by rw [HR.out, dec_yes h1, dec_yes h2]; rfl)
          clear HR
          go_wp2_with fail
          go_ret
          exact ⟨ret_bool (by rw [HF.out]; simp), W2.out⟩
        · have d2 : (ot == 0) = false := beq_no h2
          have HF := Lib.hid (show R = (false != no) by rw [HR.out, dec_yes h1, dec_no h2]; rfl)
          clear HR
          go_wp2_with fail
          go_ret
          exact ⟨ret_bool (by rw [HF.out]; simp), W2.out⟩
      · have d1 : (opI == 110) = false := beq_no h1
        have HF := Lib.hid (show R = (true != no) by rw [HR.out, dec_no h1]; simp)
        clear HR
        go_wp2_with fail
        go_ret
        exact ⟨ret_bool (by rw [HF.out]; simp), W2.out⟩
  · have HXE := HX.out
    rw [if_neg hm] at HXE
    have hm0 : (mod == 0) = false := beq_no hm
    clear HX
    go_enter Tryz.func67, Tryz.ntmps67
    go_wp2_with fail
    rw [← HXE]
    clear HXE hm hm0
    refine (HA.out _ ((WA.out.alloc (by simp only [World.size_alloc]; omega) (.map (hm6 o) 6)).alloc (by simp only [World.size_alloc]; omega) (.cells #[.int .i64 X] 3)) _ (by simp [go_sem])).mono ?_
    rintro e w2 ⟨rfl, hb⟩
    have BR2 := Lib.hid (((BR.out.alloc (.map (hm6 o) 6)).alloc (.cells #[.int .i64 X] 3)).below hb)
    have BO2 := Lib.hid (((BO.out.alloc (.map (hm6 o) 6)).alloc (.cells #[.int .i64 X] 3)).below hb)
    have W2 := Lib.hid (blw_trans ((WA.out.alloc (by simp only [World.size_alloc]; omega) (.map (hm6 o) 6)).alloc (by simp only [World.size_alloc]; omega) (.cells #[.int .i64 X] 3)) hb)
    have k0 := BR2.out.cell 0 _ rfl
    have k2 := BR2.out.cell 2 _ rfl
    have k4 := BO2.out.cell 4 _ rfl
    clear hb HA BR BO WA LK hmm I0 I1 I2 I3 I4 I5
    generalize o.t = ot at *
    cases I with
    | false =>
      go_wp2_with fail
      go_ret
      exact ⟨ret_bool (by rw [HR.out]; simp), W2.out⟩
    | true =>
      by_cases h1 : opI = 110
      · have d1 : (opI == 110) = true := beq_yes h1
        by_cases h2 : ot = 0
        · have d2 : (ot == 0) = true := beq_yes h2
          have HF := Lib.hid (show R = (true != no) by rw [HR.out, dec_yes h1, dec_yes h2]; rfl)
          clear HR
          go_wp2_with fail
          go_ret
          exact ⟨ret_bool (by rw [HF.out]; simp), W2.out⟩
        · have d2 : (ot == 0) = false := beq_no h2
          have HF := Lib.hid (show R = (false != no) by rw [HR.out, dec_yes h1, dec_no h2]; rfl)
          clear HR
          go_wp2_with fail
          go_ret
          exact ⟨ret_bool (by rw [HF.out]; simp), W2.out⟩
      · have d1 : (opI == 110) = false := beq_no h1
        have HF := Lib.hid (show R = (true != no) by rw [HR.out, dec_no h1]; simp)
        clear HR
        go_wp2_with fail
        go_ret
        exact ⟨ret_bool (by rw [HF.out]; simp), W2.out⟩
end Go.Proofs.YtaijjffnamjhiaaGreatDoor
namespace Go.Proofs.YtaijjffnamjhiaaGreatDoor
open Go.RowKit

/-- the operands as a box -/
def opsC (o : Rul.Op5) : Array Value := #[.int .i64 o.i, .int .i64 o.v, .int .i64 o.w, .int .i64 o.f, .int .i64 o.t]

set_option maxRecDepth 100000 in
set_option maxHeartbeats 1000000 in
theorem holds11_any (r : Rul.Rl) (o : Rul.Op5) (q : Nat) (a : Option Addr) (n c : Nat) (w : World) (hs : SlAt 2 RngC w (.slice a n c) r.rs) (hok : Rul.opOk r.op = true) (hq : Boxed w q (opsC o)) :
    Calls Tryz.prog 66 (#[.agg #[.int .u8 (r.op.toNat : Int), .int .i64 r.mod, .bool r.no, .slice a n c]] ++ #[.pointer (some ⟨q, 0, none⟩)]) w fun e w' => e = .returned (.bool (!Rul.relH r o)) ∧ Below w.heap.size w w' := by
  have CH := Lib.hid fun (wx : World) (hb : Below w.heap.size w wx) => holds_any r o a n c wx (hs.rngs_below hb) hok
  obtain ⟨op, mod, no, rs⟩ := r
  dsimp only at *
  generalize Rul.relH ⟨op, mod, no, rs⟩ o = R at *
  generalize (op.toNat : Int) = opI at *
  have k0 := hq.cell 0 _ rfl
  have k1 := hq.cell 1 _ rfl
  have k2 := hq.cell 2 _ rfl
  have k3 := hq.cell 3 _ rfl
  have k4 := hq.cell 4 _ rfl
  have hl := hq.lt
  obtain ⟨i, v, w5, f, t⟩ := o
  dsimp only at *
  clear hs hok hq
  show Calls _ _ #[_, _] _ _
  go_enter Tryz.func66, Tryz.ntmps66
  go_wp2_with fail
  refine (CH.out _ (blw_alloc w (.cells #[.int .u8 opI, .int .i64 mod, .bool no, .slice a n c] 106))).mono ?_
  rintro e w2 ⟨rfl, hb⟩
  have W2 := Lib.hid (blw_trans (blw_alloc w (.cells #[.int .u8 opI, .int .i64 mod, .bool no, .slice a n c] 106)) hb)
  clear hb CH
  go_wp2_with fail
  go_ret
  exact ⟨rfl, W2.out⟩
theorem holds11_at (args : Array Value) (w : World) : (callFunc 66 args).run Tryz.prog w = .ok (.enter 66 args) w := enters_of Tryz.func66 (by kernel_rfl) rfl args w

theorem any_nots {α : Type} {p : α → Bool} {l : List α} : (!(l.any fun x => !p x)) = l.all p := by
  induction l with
  | nil => rfl
  | cons x r ih => rw [List.any_cons, List.all_cons, ← ih, Bool.not_or, Bool.not_not]

set_option maxRecDepth 100000 in
set_option maxHeartbeats 1000000 in
theorem holdsP_any (l : List Rul.Rl) (o : Rul.Op5) (q : Nat) (a : Option Addr) (n c : Nat) (w : World) (hs : SlAt 4 RelC w (.slice a n c) l) (hok : ∀ x ∈ l, Rul.opOk x.op = true) (hq : Boxed w q (opsC o)) :
    Calls Tryz.prog 64 (#[.slice a n c] ++ #[.pointer (some ⟨q, 0, none⟩)]) w fun e w' => e = .returned (.bool (Rul.partH l o)) ∧ Below w.heap.size w w' := by
  have HA := Lib.hid (has_rel l (fun x => !Rul.relH x o) 66 #[.pointer (some ⟨q, 0, none⟩)] holds11_at (.slice a n c) w hs (Lib.hid fun x hx za zn zc wx hb hr => holds11_any x o q za zn zc wx hr (hok x hx) (hq.below hb)))
  have HR := Lib.hid (show (!(l.any fun x => !Rul.relH x o)) = Rul.partH l o from any_nots)
  generalize (l.any fun x => !Rul.relH x o) = I at *
  generalize Rul.partH l o = R at *
  have hl := hq.lt
  clear hs hok hq
  show Calls _ _ #[_, _] _ _
  go_enter Tryz.func64, Tryz.ntmps64
  go_wp2_with fail
  refine HA.out.mono ?_
  rintro e w2 ⟨rfl, hb⟩
  go_wp2_with fail
  go_ret
  exact ⟨ret_bool HR.out, hb⟩
theorem holdsP_at (args : Array Value) (w : World) : (callFunc 64 args).run Tryz.prog w = .ok (.enter 64 args) w := enters_of Tryz.func64 (by kernel_rfl) rfl args w

set_option maxRecDepth 100000 in
set_option maxHeartbeats 1000000 in
theorem rholds_no (r : Rul.Rule) (A : Option Addr) (n c : Nat) (i v w5 f t : Int) (w : World) (hr : SlAt 1 PartC w (.slice A n c) r) (hl : r.length ≤ 1000000000) (hc : Rul.count r ≤ 1000000000) (hrs : ∀ l ∈ r, ∀ x ∈ l, x.rs.length ≤ 4000000001) (hE : Rul.ruleE r ≠ 0) :
    Calls Tryz.prog 25 #[.slice A n c, .agg #[.int .i64 i, .int .i64 v, .int .i64 w5, .int .i64 f, .int .i64 t]] w fun e w' => e = .returned (.tuple #[.bool false, errV (Rul.ruleE r)]) ∧ Below w.heap.size w w' := by
  have CC := Lib.hid fun (wx : World) (hb : Below w.heap.size w wx) => check_any r A n c wx (hr.rule_below hb) hl hc hrs
  have e1 : errR (Rul.ruleE r) = errV (Rul.ruleE r) := if_neg hE
  rw [e1] at CC
  generalize Rul.ruleE r = E at *
  clear e1 hr hrs hE
  have W1 := Lib.hid (blw_alloc w (.cells #[.int .i64 i, .int .i64 v, .int .i64 w5, .int .i64 f, .int .i64 t] 45))
  go_enter Tryz.func25, Tryz.ntmps25
  go_wp2_with fail
  refine (CC.out _ W1.out).mono ?_
  rintro e w2 ⟨rfl, hb⟩
  have W2 := Lib.hid (blw_trans W1.out hb)
  clear hb
  go_wp2_with fail
  go_ret2
  exact ⟨rfl, W2.out⟩

set_option maxRecDepth 100000 in
set_option maxHeartbeats 1000000 in
theorem rholds_yes (r : Rul.Rule) (A : Option Addr) (n c : Nat) (o : Rul.Op5) (w : World) (hr : SlAt 1 PartC w (.slice A n c) r) (hl : r.length ≤ 1000000000) (hc : Rul.count r ≤ 1000000000) (hrs : ∀ l ∈ r, ∀ x ∈ l, x.rs.length ≤ 4000000001) (hE : Rul.ruleE r = 0) :
    Calls Tryz.prog 25 #[.slice A n c, .agg #[.int .i64 o.i, .int .i64 o.v, .int .i64 o.w, .int .i64 o.f, .int .i64 o.t]] w fun e w' => e = .returned (.tuple #[.bool (Rul.ruleH r o), .nilIface]) ∧ Below w.heap.size w w' := by
  have CC := Lib.hid fun (wx : World) (hb : Below w.heap.size w wx) => check_any r A n c wx (hr.rule_below hb) hl hc hrs
  have e1 : errR (Rul.ruleE r) = .nilIface := if_pos hE
  rw [e1] at CC
  have hop : ∀ l ∈ r, ∀ x ∈ l, Rul.opOk x.op = true := fun l hlr x hx => Rul.op_of ((Rul.part_parts ((Rul.shape_parts (Rul.ruleE_zero.1 hE).1).2 l hlr)).2 x hx)
  have HA := Lib.hid fun (wx : World) (hb : Below w.heap.size w wx) (hq : Boxed wx w.heap.size (opsC o)) => has_part r (Rul.partH · o) 64 #[.pointer (some ⟨w.heap.size, 0, none⟩)] holdsP_at (.slice A n c) wx (hr.rule_below hb)
    (Lib.hid fun l hlr za zn zc wy hy hs => holdsP_any l o w.heap.size za zn zc wy hs (hop l hlr) (hq.below hy))
  have HR := Lib.hid (show r.any (Rul.partH · o) = Rul.ruleH r o from rfl)
  generalize Rul.ruleH r o = R at *
  generalize r.any (Rul.partH · o) = I at *
  obtain rfl : I = R := HR.out
  clear e1 hr hrs hE hop HR
  have W1 := Lib.hid (blw_alloc w (.cells #[.int .i64 o.i, .int .i64 o.v, .int .i64 o.w, .int .i64 o.f, .int .i64 o.t] 45))
  have B1 := Lib.hid (Boxed.made w #[.int .i64 o.i, .int .i64 o.v, .int .i64 o.w, .int .i64 o.f, .int .i64 o.t] 45)
  change Hid (Boxed _ _ (opsC o)) at B1
  go_enter Tryz.func25, Tryz.ntmps25
  go_wp2_with fail
  refine (CC.out _ W1.out).mono ?_
  rintro e w2 ⟨rfl, hb⟩
  have W2 := Lib.hid (blw_trans W1.out hb)
  have B2 := Lib.hid (B1.out.below hb)
  clear hb
  go_wp2_with fail
  refine (HA.out _ W2.out B2.out).mono ?_
  rintro e w3 ⟨rfl, hb⟩
  have W3 := Lib.hid (blw_trans W2.out hb)
  clear hb
  go_wp2_with fail
  go_ret2
  exact ⟨rfl, W3.out⟩
end Go.Proofs.YtaijjffnamjhiaaGreatDoor
namespace Go.Proofs.YtaijjffnamjhiaaGreatDoor
open Go.RowKit


set_option maxRecDepth 100000 in
set_option maxHeartbeats 4000000 in
theorem relholds_110 (mod : Int) (no : Bool) (rs : List (Int × Int)) (oi ov ow of : Int) (a : Option Addr) (n c : Nat) (w : World) (hs : SlAt 2 RngC w (.slice a n c) rs) (hm0 : 0 ≤ mod) :
    Calls Tryz.prog 68 #[.agg #[.int .u8 110, .int .i64 mod, .bool no, .slice a n c], .agg #[.int .i64 oi, .int .i64 ov, .int .i64 ow, .int .i64 of, .int .i64 0]] w fun e w' => e = .returned (.bool (rs.any (Rul.rngHas (if mod = 0 then oi else oi.tmod mod)) != no)) ∧ Below w.heap.size w w' := by
  obtain ⟨A, cap, e, hm, hcell⟩ := hs.spread
  injection e with e1 e2 e3
  subst e1 e2 e3
  have HC := Lib.hid hcell
  obtain ⟨n, hn⟩ : ∃ n, rs.length = n := ⟨_, rfl⟩
  rw [hn] at hm ⊢
  have HN := Lib.hid hn
  unfold maxLen at hm
  have W1 := Lib.hid ((blw_alloc w (.cells #[.int .u8 110, .int .i64 mod, .bool no, .slice a n c] 106)).alloc (by simp) (.cells #[.int .i64 oi, .int .i64 ov, .int .i64 ow, .int .i64 of, .int .i64 0] 45))
  have B1 := Lib.hid ((Boxed.made w #[.int .u8 110, .int .i64 mod, .bool no, .slice a n c] 106).alloc (.cells #[.int .i64 oi, .int .i64 ov, .int .i64 ow, .int .i64 of, .int .i64 0] 45))
  clear hs hcell hn
  obtain ⟨XX, hXX⟩ : ∃ XX, (if mod = 0 then oi else oi.tmod mod) = XX := ⟨_, rfl⟩
  rw [hXX]
  have HXX := Lib.hid hXX
  clear hXX
  obtain ⟨PV, hPV⟩ : ∃ PV, (rs.any (Rul.rngHas XX) != no) = PV := ⟨_, rfl⟩
  rw [hPV]
  have HPV := Lib.hid hPV
  clear hPV
  by_cases hmd : 0 < mod
  · have dm : decide (0 < mod) = true := dec_yes hmd
    have hne : mod ≠ 0 := by omega
    obtain rfl : XX = oi.tmod mod := by rw [← HXX.out, if_neg (by omega)]
    clear HXX
    go_enter Tryz.func68, Tryz.ntmps68
    go_wp2_with fail
    obtain ⟨v, hv⟩ : ∃ v, (w.alloc (.cells #[.int .u8 110, .int .i64 mod, .bool no, .slice a n c] 106)).alloc (.cells #[.int .i64 oi, .int .i64 ov, .int .i64 ow, .int .i64 of, .int .i64 0] 45) = v := ⟨_, rfl⟩
    rw [hv] at W1 B1 ⊢
    clear hv
    generalize oi.tmod mod = XX at *
    clear dm hmd hne
    go_loopw [6, 7] (fun s i wr => ∃ k : Nat, i = .int .i64 k ∧ k ≤ n ∧ s = .bool ((rs.take k).any (Rul.rngHas XX)) ∧ Hid (Drew v wr)) (fun _ i _ => n - (RowKit.intOf i).toNat)
    case atStart => exact ⟨0, rfl, Nat.zero_le _, rfl, Drew.refl _⟩
    case round =>
      obtain ⟨k, rfl, hk, rfl, HD⟩ := hrel
      have K3 := (B1.out.below HD.out.below).cell 3 _ rfl
      have K2 := (B1.out.below HD.out.below).cell 2 _ rfl
      have KL := (B1.out.below HD.out.below).lt
      by_cases hlt : k < n
      · obtain ⟨x, hx⟩ : ∃ x, rs[k]? = some x := ⟨rs[k]'(by have := HN.out; omega), List.getElem?_eq_getElem (by have := HN.out; omega)⟩
        obtain ⟨b, off, rfl, hx0, hx1⟩ := HC.out k x hx
        have x0 := cell_keep (cell_keep hx0 W1.out) HD.out.below
        have x1 := cell_keep (cell_keep hx1 W1.out) HD.out.below
        have HT := Lib.hid (any_take' (p := Rul.rngHas XX) hx)
        have HO := Lib.hid (show Rul.rngHas XX x = (decide (x.1 ≤ XX) && decide (XX ≤ x.2)) from rfl)
        generalize Rul.rngHas XX x = RH at *
        clear hx hx0 hx1
        obtain ⟨p, q⟩ := x
        dsimp only at *
        obtain ⟨A1, hA1⟩ : ∃ A1, (rs.take (k + 1)).any (Rul.rngHas XX) = A1 := ⟨_, rfl⟩
        rw [hA1] at HT
        have HA1 := Lib.hid hA1
        clear hA1
        generalize (rs.take k).any (Rul.rngHas XX) = A0 at *
        have k0 : (0 : Int) ≤ (k : Int) := by omega
        have k1 : (k : Int) < (n : Int) := by omega
        cases A0 with
        | true =>
          obtain rfl : A1 = true := by rw [HT.out]; rfl
          go_wp2_with fail
          go_roundw
          case rel => exact ⟨k + 1, by go_num, by omega, by rw [HA1.out], HD⟩
          case measure => simp [RowKit.intOf]; omega
        | false =>
          by_cases g0 : p ≤ XX
          · have d0 : decide (p ≤ XX) = true := dec_yes g0
            have d0' : decide (XX ≥ p) = true := dec_yes g0
            by_cases g1 : XX ≤ q
            · have d1 : decide (XX ≤ q) = true := dec_yes g1
              obtain rfl : A1 = true := by rw [HT.out, HO.out, d0, d1]; rfl
              go_wp2_with fail
              go_roundw
              case rel => exact ⟨k + 1, by go_num, by omega, by rw [HA1.out], HD⟩
              case measure => simp [RowKit.intOf]; omega
            · have d1 : decide (XX ≤ q) = false := dec_no g1
              obtain rfl : A1 = false := by rw [HT.out, HO.out, d0, d1]; rfl
              go_wp2_with fail
              go_roundw
              case rel => exact ⟨k + 1, by go_num, by omega, by rw [HA1.out], HD⟩
              case measure => simp [RowKit.intOf]; omega
          · have d0 : decide (p ≤ XX) = false := dec_no g0
            have d0' : decide (XX ≥ p) = false := dec_no g0
            obtain rfl : A1 = false := by rw [HT.out, HO.out, d0]; rfl
            go_wp2_with fail
            go_roundw
            case rel => exact ⟨k + 1, by go_num, by omega, by rw [HA1.out], HD⟩
            case measure => simp [RowKit.intOf]; omega
      · have e : k = n := by omega
        subst e
        have hf : (rs.take k).any (Rul.rngHas XX) = rs.any (Rul.rngHas XX) := by rw [List.take_of_length_le (by have := HN.out; omega)]
        rw [hf]
        generalize rs.any (Rul.rngHas XX) = AA at *
        clear hf
        go_wp2_with fail
        go_ret
        exact ⟨ret_bool (by rw [← HPV.out]; cases AA <;> cases no <;> rfl), W1.out.trans (Below.mono HD.out.below W1.out.size)⟩
  · have dm : decide (0 < mod) = false := dec_no hmd
    obtain rfl : mod = 0 := by omega
    obtain rfl : XX = oi := by rw [← HXX.out, if_pos rfl]
    clear HXX
    go_enter Tryz.func68, Tryz.ntmps68
    go_wp2_with fail
    obtain ⟨v, hv⟩ : ∃ v, (w.alloc (.cells #[.int .u8 110, .int .i64 0, .bool no, .slice a n c] 106)).alloc (.cells #[.int .i64 XX, .int .i64 ov, .int .i64 ow, .int .i64 of, .int .i64 0] 45) = v := ⟨_, rfl⟩
    rw [hv] at W1 B1 ⊢
    clear hv
    clear dm hmd hm0
    go_loopw [6, 7] (fun s i wr => ∃ k : Nat, i = .int .i64 k ∧ k ≤ n ∧ s = .bool ((rs.take k).any (Rul.rngHas XX)) ∧ Hid (Drew v wr)) (fun _ i _ => n - (RowKit.intOf i).toNat)
    case atStart => exact ⟨0, rfl, Nat.zero_le _, rfl, Drew.refl _⟩
    case round =>
      obtain ⟨k, rfl, hk, rfl, HD⟩ := hrel
      have K3 := (B1.out.below HD.out.below).cell 3 _ rfl
      have K2 := (B1.out.below HD.out.below).cell 2 _ rfl
      have KL := (B1.out.below HD.out.below).lt
      by_cases hlt : k < n
      · obtain ⟨x, hx⟩ : ∃ x, rs[k]? = some x := ⟨rs[k]'(by have := HN.out; omega), List.getElem?_eq_getElem (by have := HN.out; omega)⟩
        obtain ⟨b, off, rfl, hx0, hx1⟩ := HC.out k x hx
        have x0 := cell_keep (cell_keep hx0 W1.out) HD.out.below
        have x1 := cell_keep (cell_keep hx1 W1.out) HD.out.below
        have HT := Lib.hid (any_take' (p := Rul.rngHas XX) hx)
        have HO := Lib.hid (show Rul.rngHas XX x = (decide (x.1 ≤ XX) && decide (XX ≤ x.2)) from rfl)
        generalize Rul.rngHas XX x = RH at *
        clear hx hx0 hx1
        obtain ⟨p, q⟩ := x
        dsimp only at *
        obtain ⟨A1, hA1⟩ : ∃ A1, (rs.take (k + 1)).any (Rul.rngHas XX) = A1 := ⟨_, rfl⟩
        rw [hA1] at HT
        have HA1 := Lib.hid hA1
        clear hA1
        generalize (rs.take k).any (Rul.rngHas XX) = A0 at *
        have k0 : (0 : Int) ≤ (k : Int) := by omega
        have k1 : (k : Int) < (n : Int) := by omega
        cases A0 with
        | true =>
          obtain rfl : A1 = true := by rw [HT.out]; rfl
          go_wp2_with fail
          go_roundw
          case rel => exact ⟨k + 1, by go_num, by omega, by rw [HA1.out], HD⟩
          case measure => simp [RowKit.intOf]; omega
        | false =>
          by_cases g0 : p ≤ XX
          · have d0 : decide (p ≤ XX) = true := dec_yes g0
            have d0' : decide (XX ≥ p) = true := dec_yes g0
            by_cases g1 : XX ≤ q
            · have d1 : decide (XX ≤ q) = true := dec_yes g1
              obtain rfl : A1 = true := by rw [HT.out, HO.out, d0, d1]; rfl
              go_wp2_with fail
              go_roundw
              case rel => exact ⟨k + 1, by go_num, by omega, by rw [HA1.out], HD⟩
              case measure => simp [RowKit.intOf]; omega
            · have d1 : decide (XX ≤ q) = false := dec_no g1
              obtain rfl : A1 = false := by rw [HT.out, HO.out, d0, d1]; rfl
              go_wp2_with fail
              go_roundw
              case rel => exact ⟨k + 1, by go_num, by omega, by rw [HA1.out], HD⟩
              case measure => simp [RowKit.intOf]; omega
          · have d0 : decide (p ≤ XX) = false := dec_no g0
            have d0' : decide (XX ≥ p) = false := dec_no g0
            obtain rfl : A1 = false := by rw [HT.out, HO.out, d0]; rfl
            go_wp2_with fail
            go_roundw
            case rel => exact ⟨k + 1, by go_num, by omega, by rw [HA1.out], HD⟩
            case measure => simp [RowKit.intOf]; omega
      · have e : k = n := by omega
        subst e
        have hf : (rs.take k).any (Rul.rngHas XX) = rs.any (Rul.rngHas XX) := by rw [List.take_of_length_le (by have := HN.out; omega)]
        rw [hf]
        generalize rs.any (Rul.rngHas XX) = AA at *
        clear hf
        go_wp2_with fail
        go_ret
        exact ⟨ret_bool (by rw [← HPV.out]; cases AA <;> cases no <;> rfl), W1.out.trans (Below.mono HD.out.below W1.out.size)⟩

set_option maxRecDepth 100000 in
set_option maxHeartbeats 4000000 in
theorem relholds_105 (mod : Int) (no : Bool) (rs : List (Int × Int)) (oi ov ow of ot : Int) (a : Option Addr) (n c : Nat) (w : World) (hs : SlAt 2 RngC w (.slice a n c) rs) (hm0 : 0 ≤ mod) :
    Calls Tryz.prog 68 #[.agg #[.int .u8 105, .int .i64 mod, .bool no, .slice a n c], .agg #[.int .i64 oi, .int .i64 ov, .int .i64 ow, .int .i64 of, .int .i64 ot]] w fun e w' => e = .returned (.bool (rs.any (Rul.rngHas (if mod = 0 then oi else oi.tmod mod)) != no)) ∧ Below w.heap.size w w' := by
  obtain ⟨A, cap, e, hm, hcell⟩ := hs.spread
  injection e with e1 e2 e3
  subst e1 e2 e3
  have HC := Lib.hid hcell
  obtain ⟨n, hn⟩ : ∃ n, rs.length = n := ⟨_, rfl⟩
  rw [hn] at hm ⊢
  have HN := Lib.hid hn
  unfold maxLen at hm
  have W1 := Lib.hid ((blw_alloc w (.cells #[.int .u8 105, .int .i64 mod, .bool no, .slice a n c] 106)).alloc (by simp) (.cells #[.int .i64 oi, .int .i64 ov, .int .i64 ow, .int .i64 of, .int .i64 ot] 45))
  have B1 := Lib.hid ((Boxed.made w #[.int .u8 105, .int .i64 mod, .bool no, .slice a n c] 106).alloc (.cells #[.int .i64 oi, .int .i64 ov, .int .i64 ow, .int .i64 of, .int .i64 ot] 45))
  clear hs hcell hn
  obtain ⟨XX, hXX⟩ : ∃ XX, (if mod = 0 then oi else oi.tmod mod) = XX := ⟨_, rfl⟩
  rw [hXX]
  have HXX := Lib.hid hXX
  clear hXX
  obtain ⟨PV, hPV⟩ : ∃ PV, (rs.any (Rul.rngHas XX) != no) = PV := ⟨_, rfl⟩
  rw [hPV]
  have HPV := Lib.hid hPV
  clear hPV
  by_cases hmd : 0 < mod
  · have dm : decide (0 < mod) = true := dec_yes hmd
    have hne : mod ≠ 0 := by omega
    obtain rfl : XX = oi.tmod mod := by rw [← HXX.out, if_neg (by omega)]
    clear HXX
    go_enter Tryz.func68, Tryz.ntmps68
    go_wp2_with fail
    obtain ⟨v, hv⟩ : ∃ v, (w.alloc (.cells #[.int .u8 105, .int .i64 mod, .bool no, .slice a n c] 106)).alloc (.cells #[.int .i64 oi, .int .i64 ov, .int .i64 ow, .int .i64 of, .int .i64 ot] 45) = v := ⟨_, rfl⟩
    rw [hv] at W1 B1 ⊢
    clear hv
    generalize oi.tmod mod = XX at *
    clear dm hmd hne
    go_loopw [6, 7] (fun s i wr => ∃ k : Nat, i = .int .i64 k ∧ k ≤ n ∧ s = .bool ((rs.take k).any (Rul.rngHas XX)) ∧ Hid (Drew v wr)) (fun _ i _ => n - (RowKit.intOf i).toNat)
    case atStart => exact ⟨0, rfl, Nat.zero_le _, rfl, Drew.refl _⟩
    case round =>
      obtain ⟨k, rfl, hk, rfl, HD⟩ := hrel
      have K3 := (B1.out.below HD.out.below).cell 3 _ rfl
      have K2 := (B1.out.below HD.out.below).cell 2 _ rfl
      have KL := (B1.out.below HD.out.below).lt
      by_cases hlt : k < n
      · obtain ⟨x, hx⟩ : ∃ x, rs[k]? = some x := ⟨rs[k]'(by have := HN.out; omega), List.getElem?_eq_getElem (by have := HN.out; omega)⟩
        obtain ⟨b, off, rfl, hx0, hx1⟩ := HC.out k x hx
        have x0 := cell_keep (cell_keep hx0 W1.out) HD.out.below
        have x1 := cell_keep (cell_keep hx1 W1.out) HD.out.below
        have HT := Lib.hid (any_take' (p := Rul.rngHas XX) hx)
        have HO := Lib.hid (show Rul.rngHas XX x = (decide (x.1 ≤ XX) && decide (XX ≤ x.2)) from rfl)
        generalize Rul.rngHas XX x = RH at *
        clear hx hx0 hx1
        obtain ⟨p, q⟩ := x
        dsimp only at *
        obtain ⟨A1, hA1⟩ : ∃ A1, (rs.take (k + 1)).any (Rul.rngHas XX) = A1 := ⟨_, rfl⟩
        rw [hA1] at HT
        have HA1 := Lib.hid hA1
        clear hA1
        generalize (rs.take k).any (Rul.rngHas XX) = A0 at *
        have k0 : (0 : Int) ≤ (k : Int) := by omega
        have k1 : (k : Int) < (n : Int) := by omega
        cases A0 with
        | true =>
          obtain rfl : A1 = true := by rw [HT.out]; rfl
          go_wp2_with fail
          go_roundw
          case rel => exact ⟨k + 1, by go_num, by omega, by rw [HA1.out], HD⟩
          case measure => simp [RowKit.intOf]; omega
        | false =>
          by_cases g0 : p ≤ XX
          · have d0 : decide (p ≤ XX) = true := dec_yes g0
            have d0' : decide (XX ≥ p) = true := dec_yes g0
            by_cases g1 : XX ≤ q
            · have d1 : decide (XX ≤ q) = true := dec_yes g1
              obtain rfl : A1 = true := by rw [HT.out, HO.out, d0, d1]; rfl
              go_wp2_with fail
              go_roundw
              case rel => exact ⟨k + 1, by go_num, by omega, by rw [HA1.out], HD⟩
              case measure => simp [RowKit.intOf]; omega
            · have d1 : decide (XX ≤ q) = false := dec_no g1
              obtain rfl : A1 = false := by rw [HT.out, HO.out, d0, d1]; rfl
              go_wp2_with fail
              go_roundw
              case rel => exact ⟨k + 1, by go_num, by omega, by rw [HA1.out], HD⟩
              case measure => simp [RowKit.intOf]; omega
          · have d0 : decide (p ≤ XX) = false := dec_no g0
            have d0' : decide (XX ≥ p) = false := dec_no g0
            obtain rfl : A1 = false := by rw [HT.out, HO.out, d0]; rfl
            go_wp2_with fail
            go_roundw
            case rel => exact ⟨k + 1, by go_num, by omega, by rw [HA1.out], HD⟩
            case measure => simp [RowKit.intOf]; omega
      · have e : k = n := by omega
        subst e
        have hf : (rs.take k).any (Rul.rngHas XX) = rs.any (Rul.rngHas XX) := by rw [List.take_of_length_le (by have := HN.out; omega)]
        rw [hf]
        generalize rs.any (Rul.rngHas XX) = AA at *
        clear hf
        go_wp2_with fail
        go_ret
        exact ⟨ret_bool (by rw [← HPV.out]; cases AA <;> cases no <;> rfl), W1.out.trans (Below.mono HD.out.below W1.out.size)⟩
  · have dm : decide (0 < mod) = false := dec_no hmd
    obtain rfl : mod = 0 := by omega
    obtain rfl : XX = oi := by rw [← HXX.out, if_pos rfl]
    clear HXX
    go_enter Tryz.func68, Tryz.ntmps68
    go_wp2_with fail
    obtain ⟨v, hv⟩ : ∃ v, (w.alloc (.cells #[.int .u8 105, .int .i64 0, .bool no, .slice a n c] 106)).alloc (.cells #[.int .i64 XX, .int .i64 ov, .int .i64 ow, .int .i64 of, .int .i64 ot] 45) = v := ⟨_, rfl⟩
    rw [hv] at W1 B1 ⊢
    clear hv
    clear dm hmd hm0
    go_loopw [6, 7] (fun s i wr => ∃ k : Nat, i = .int .i64 k ∧ k ≤ n ∧ s = .bool ((rs.take k).any (Rul.rngHas XX)) ∧ Hid (Drew v wr)) (fun _ i _ => n - (RowKit.intOf i).toNat)
    case atStart => exact ⟨0, rfl, Nat.zero_le _, rfl, Drew.refl _⟩
    case round =>
      obtain ⟨k, rfl, hk, rfl, HD⟩ := hrel
      have K3 := (B1.out.below HD.out.below).cell 3 _ rfl
      have K2 := (B1.out.below HD.out.below).cell 2 _ rfl
      have KL := (B1.out.below HD.out.below).lt
      by_cases hlt : k < n
      · obtain ⟨x, hx⟩ : ∃ x, rs[k]? = some x := ⟨rs[k]'(by have := HN.out; omega), List.getElem?_eq_getElem (by have := HN.out; omega)⟩
        obtain ⟨b, off, rfl, hx0, hx1⟩ := HC.out k x hx
        have x0 := cell_keep (cell_keep hx0 W1.out) HD.out.below
        have x1 := cell_keep (cell_keep hx1 W1.out) HD.out.below
        have HT := Lib.hid (any_take' (p := Rul.rngHas XX) hx)
        have HO := Lib.hid (show Rul.rngHas XX x = (decide (x.1 ≤ XX) && decide (XX ≤ x.2)) from rfl)
        generalize Rul.rngHas XX x = RH at *
        clear hx hx0 hx1
        obtain ⟨p, q⟩ := x
        dsimp only at *
        obtain ⟨A1, hA1⟩ : ∃ A1, (rs.take (k + 1)).any (Rul.rngHas XX) = A1 := ⟨_, rfl⟩
        rw [hA1] at HT
        have HA1 := Lib.hid hA1
        clear hA1
        generalize (rs.take k).any (Rul.rngHas XX) = A0 at *
        have k0 : (0 : Int) ≤ (k : Int) := by omega
        have k1 : (k : Int) < (n : Int) := by omega
        cases A0 with
        | true =>
          obtain rfl : A1 = true := by rw [HT.out]; rfl
          go_wp2_with fail
          go_roundw
          case rel => exact ⟨k + 1, by go_num, by omega, by rw [HA1.out], HD⟩
          case measure => simp [RowKit.intOf]; omega
        | false =>
          by_cases g0 : p ≤ XX
          · have d0 : decide (p ≤ XX) = true := dec_yes g0
            have d0' : decide (XX ≥ p) = true := dec_yes g0
            by_cases g1 : XX ≤ q
            · have d1 : decide (XX ≤ q) = true := dec_yes g1
              obtain rfl : A1 = true := by rw [HT.out, HO.out, d0, d1]; rfl
              go_wp2_with fail
              go_roundw
              case rel => exact ⟨k + 1, by go_num, by omega, by rw [HA1.out], HD⟩
              case measure => simp [RowKit.intOf]; omega
            · have d1 : decide (XX ≤ q) = false := dec_no g1
              obtain rfl : A1 = false := by rw [HT.out, HO.out, d0, d1]; rfl
              go_wp2_with fail
              go_roundw
              case rel => exact ⟨k + 1, by go_num, by omega, by rw [HA1.out], HD⟩
              case measure => simp [RowKit.intOf]; omega
          · have d0 : decide (p ≤ XX) = false := dec_no g0
            have d0' : decide (XX ≥ p) = false := dec_no g0
            obtain rfl : A1 = false := by rw [HT.out, HO.out, d0]; rfl
            go_wp2_with fail
            go_roundw
            case rel => exact ⟨k + 1, by go_num, by omega, by rw [HA1.out], HD⟩
            case measure => simp [RowKit.intOf]; omega
      · have e : k = n := by omega
        subst e
        have hf : (rs.take k).any (Rul.rngHas XX) = rs.any (Rul.rngHas XX) := by rw [List.take_of_length_le (by have := HN.out; omega)]
        rw [hf]
        generalize rs.any (Rul.rngHas XX) = AA at *
        clear hf
        go_wp2_with fail
        go_ret
        exact ⟨ret_bool (by rw [← HPV.out]; cases AA <;> cases no <;> rfl), W1.out.trans (Below.mono HD.out.below W1.out.size)⟩

set_option maxRecDepth 100000 in
set_option maxHeartbeats 4000000 in
theorem relholds_118 (mod : Int) (no : Bool) (rs : List (Int × Int)) (oi ov ow of ot : Int) (a : Option Addr) (n c : Nat) (w : World) (hs : SlAt 2 RngC w (.slice a n c) rs) (hm0 : 0 ≤ mod) :
    Calls Tryz.prog 68 #[.agg #[.int .u8 118, .int .i64 mod, .bool no, .slice a n c], .agg #[.int .i64 oi, .int .i64 ov, .int .i64 ow, .int .i64 of, .int .i64 ot]] w fun e w' => e = .returned (.bool (rs.any (Rul.rngHas (if mod = 0 then ov else ov.tmod mod)) != no)) ∧ Below w.heap.size w w' := by
  obtain ⟨A, cap, e, hm, hcell⟩ := hs.spread
  injection e with e1 e2 e3
  subst e1 e2 e3
  have HC := Lib.hid hcell
  obtain ⟨n, hn⟩ : ∃ n, rs.length = n := ⟨_, rfl⟩
  rw [hn] at hm ⊢
  have HN := Lib.hid hn
  unfold maxLen at hm
  have W1 := Lib.hid ((blw_alloc w (.cells #[.int .u8 118, .int .i64 mod, .bool no, .slice a n c] 106)).alloc (by simp) (.cells #[.int .i64 oi, .int .i64 ov, .int .i64 ow, .int .i64 of, .int .i64 ot] 45))
  have B1 := Lib.hid ((Boxed.made w #[.int .u8 118, .int .i64 mod, .bool no, .slice a n c] 106).alloc (.cells #[.int .i64 oi, .int .i64 ov, .int .i64 ow, .int .i64 of, .int .i64 ot] 45))
  clear hs hcell hn
  obtain ⟨XX, hXX⟩ : ∃ XX, (if mod = 0 then ov else ov.tmod mod) = XX := ⟨_, rfl⟩
  rw [hXX]
  have HXX := Lib.hid hXX
  clear hXX
  obtain ⟨PV, hPV⟩ : ∃ PV, (rs.any (Rul.rngHas XX) != no) = PV := ⟨_, rfl⟩
  rw [hPV]
  have HPV := Lib.hid hPV
  clear hPV
  by_cases hmd : 0 < mod
  · have dm : decide (0 < mod) = true := dec_yes hmd
    have hne : mod ≠ 0 := by omega
    obtain rfl : XX = ov.tmod mod := by rw [← HXX.out, if_neg (by omega)]
    clear HXX
    go_enter Tryz.func68, Tryz.ntmps68
    go_wp2_with fail
    obtain ⟨v, hv⟩ : ∃ v, (w.alloc (.cells #[.int .u8 118, .int .i64 mod, .bool no, .slice a n c] 106)).alloc (.cells #[.int .i64 oi, .int .i64 ov, .int .i64 ow, .int .i64 of, .int .i64 ot] 45) = v := ⟨_, rfl⟩
    rw [hv] at W1 B1 ⊢
    clear hv
    generalize ov.tmod mod = XX at *
    clear dm hmd hne
    go_loopw [6, 7] (fun s i wr => ∃ k : Nat, i = .int .i64 k ∧ k ≤ n ∧ s = .bool ((rs.take k).any (Rul.rngHas XX)) ∧ Hid (Drew v wr)) (fun _ i _ => n - (RowKit.intOf i).toNat)
    case atStart => exact ⟨0, rfl, Nat.zero_le _, rfl, Drew.refl _⟩
    case round =>
      obtain ⟨k, rfl, hk, rfl, HD⟩ := hrel
      have K3 := (B1.out.below HD.out.below).cell 3 _ rfl
      have K2 := (B1.out.below HD.out.below).cell 2 _ rfl
      have KL := (B1.out.below HD.out.below).lt
      by_cases hlt : k < n
      · obtain ⟨x, hx⟩ : ∃ x, rs[k]? = some x := ⟨rs[k]'(by have := HN.out; omega), List.getElem?_eq_getElem (by have := HN.out; omega)⟩
        obtain ⟨b, off, rfl, hx0, hx1⟩ := HC.out k x hx
        have x0 := cell_keep (cell_keep hx0 W1.out) HD.out.below
        have x1 := cell_keep (cell_keep hx1 W1.out) HD.out.below
        have HT := Lib.hid (any_take' (p := Rul.rngHas XX) hx)
        have HO := Lib.hid (show Rul.rngHas XX x = (decide (x.1 ≤ XX) && decide (XX ≤ x.2)) from rfl)
        generalize Rul.rngHas XX x = RH at *
        clear hx hx0 hx1
        obtain ⟨p, q⟩ := x
        dsimp only at *
        obtain ⟨A1, hA1⟩ : ∃ A1, (rs.take (k + 1)).any (Rul.rngHas XX) = A1 := ⟨_, rfl⟩
        rw [hA1] at HT
        have HA1 := Lib.hid hA1
        clear hA1
        generalize (rs.take k).any (Rul.rngHas XX) = A0 at *
        have k0 : (0 : Int) ≤ (k : Int) := by omega
        have k1 : (k : Int) < (n : Int) := by omega
        cases A0 with
        | true =>
          obtain rfl : A1 = true := by rw [HT.out]; rfl
          go_wp2_with fail
          go_roundw
          case rel => exact ⟨k + 1, by go_num, by omega, by rw [HA1.out], HD⟩
          case measure => simp [RowKit.intOf]; omega
        | false =>
          by_cases g0 : p ≤ XX
          · have d0 : decide (p ≤ XX) = true := dec_yes g0
            have d0' : decide (XX ≥ p) = true := dec_yes g0
            by_cases g1 : XX ≤ q
            · have d1 : decide (XX ≤ q) = true := dec_yes g1
              obtain rfl : A1 = true := by rw [HT.out, HO.out, d0, d1]; rfl
              go_wp2_with fail
              go_roundw
              case rel => exact ⟨k + 1, by go_num, by omega, by rw [HA1.out], HD⟩
              case measure => simp [RowKit.intOf]; omega
            · have d1 : decide (XX ≤ q) = false := dec_no g1
              obtain rfl : A1 = false := by rw [HT.out, HO.out, d0, d1]; rfl
              go_wp2_with fail
              go_roundw
              case rel => exact ⟨k + 1, by go_num, by omega, by rw [HA1.out], HD⟩
              case measure => simp [RowKit.intOf]; omega
          · have d0 : decide (p ≤ XX) = false := dec_no g0
            have d0' : decide (XX ≥ p) = false := dec_no g0
            obtain rfl : A1 = false := by rw [HT.out, HO.out, d0]; rfl
            go_wp2_with fail
            go_roundw
            case rel => exact ⟨k + 1, by go_num, by omega, by rw [HA1.out], HD⟩
            case measure => simp [RowKit.intOf]; omega
      · have e : k = n := by omega
        subst e
        have hf : (rs.take k).any (Rul.rngHas XX) = rs.any (Rul.rngHas XX) := by rw [List.take_of_length_le (by have := HN.out; omega)]
        rw [hf]
        generalize rs.any (Rul.rngHas XX) = AA at *
        clear hf
        go_wp2_with fail
        go_ret
        exact ⟨ret_bool (by rw [← HPV.out]; cases AA <;> cases no <;> rfl), W1.out.trans (Below.mono HD.out.below W1.out.size)⟩
  · have dm : decide (0 < mod) = false := dec_no hmd
    obtain rfl : mod = 0 := by omega
    obtain rfl : XX = ov := by rw [← HXX.out, if_pos rfl]
    clear HXX
    go_enter Tryz.func68, Tryz.ntmps68
    go_wp2_with fail
    obtain ⟨v, hv⟩ : ∃ v, (w.alloc (.cells #[.int .u8 118, .int .i64 0, .bool no, .slice a n c] 106)).alloc (.cells #[.int .i64 oi, .int .i64 XX, .int .i64 ow, .int .i64 of, .int .i64 ot] 45) = v := ⟨_, rfl⟩
    rw [hv] at W1 B1 ⊢
    clear hv
    clear dm hmd hm0
    go_loopw [6, 7] (fun s i wr => ∃ k : Nat, i = .int .i64 k ∧ k ≤ n ∧ s = .bool ((rs.take k).any (Rul.rngHas XX)) ∧ Hid (Drew v wr)) (fun _ i _ => n - (RowKit.intOf i).toNat)
    case atStart => exact ⟨0, rfl, Nat.zero_le _, rfl, Drew.refl _⟩
    case round =>
      obtain ⟨k, rfl, hk, rfl, HD⟩ := hrel
      have K3 := (B1.out.below HD.out.below).cell 3 _ rfl
      have K2 := (B1.out.below HD.out.below).cell 2 _ rfl
      have KL := (B1.out.below HD.out.below).lt
      by_cases hlt : k < n
      · obtain ⟨x, hx⟩ : ∃ x, rs[k]? = some x := ⟨rs[k]'(by have := HN.out; omega), List.getElem?_eq_getElem (by have := HN.out; omega)⟩
        obtain ⟨b, off, rfl, hx0, hx1⟩ := HC.out k x hx
        have x0 := cell_keep (cell_keep hx0 W1.out) HD.out.below
        have x1 := cell_keep (cell_keep hx1 W1.out) HD.out.below
        have HT := Lib.hid (any_take' (p := Rul.rngHas XX) hx)
        have HO := Lib.hid (show Rul.rngHas XX x = (decide (x.1 ≤ XX) && decide (XX ≤ x.2)) from rfl)
        generalize Rul.rngHas XX x = RH at *
        clear hx hx0 hx1
        obtain ⟨p, q⟩ := x
        dsimp only at *
        obtain ⟨A1, hA1⟩ : ∃ A1, (rs.take (k + 1)).any (Rul.rngHas XX) = A1 := ⟨_, rfl⟩
        rw [hA1] at HT
        have HA1 := Lib.hid hA1
        clear hA1
        generalize (rs.take k).any (Rul.rngHas XX) = A0 at *
        have k0 : (0 : Int) ≤ (k : Int) := by omega
        have k1 : (k : Int) < (n : Int) := by omega
        cases A0 with
        | true =>
          obtain rfl : A1 = true := by rw [HT.out]; rfl
          go_wp2_with fail
          go_roundw
          case rel => exact ⟨k + 1, by go_num, by omega, by rw [HA1.out], HD⟩
          case measure => simp [RowKit.intOf]; omega
        | false =>
          by_cases g0 : p ≤ XX
          · have d0 : decide (p ≤ XX) = true := dec_yes g0
            have d0' : decide (XX ≥ p) = true := dec_yes g0
            by_cases g1 : XX ≤ q
            · have d1 : decide (XX ≤ q) = true := dec_yes g1
              obtain rfl : A1 = true := by rw [HT.out, HO.out, d0, d1]; rfl
              go_wp2_with fail
              go_roundw
              case rel => exact ⟨k + 1, by go_num, by omega, by rw [HA1.out], HD⟩
              case measure => simp [RowKit.intOf]; omega
            · have d1 : decide (XX ≤ q) = false := dec_no g1
              obtain rfl : A1 = false := by rw [HT.out, HO.out, d0, d1]; rfl
              go_wp2_with fail
              go_roundw
              case rel => exact ⟨k + 1, by go_num, by omega, by rw [HA1.out], HD⟩
              case measure => simp [RowKit.intOf]; omega
          · have d0 : decide (p ≤ XX) = false := dec_no g0
            have d0' : decide (XX ≥ p) = false := dec_no g0
            obtain rfl : A1 = false := by rw [HT.out, HO.out, d0]; rfl
            go_wp2_with fail
            go_roundw
            case rel => exact ⟨k + 1, by go_num, by omega, by rw [HA1.out], HD⟩
            case measure => simp [RowKit.intOf]; omega
      · have e : k = n := by omega
        subst e
        have hf : (rs.take k).any (Rul.rngHas XX) = rs.any (Rul.rngHas XX) := by rw [List.take_of_length_le (by have := HN.out; omega)]
        rw [hf]
        generalize rs.any (Rul.rngHas XX) = AA at *
        clear hf
        go_wp2_with fail
        go_ret
        exact ⟨ret_bool (by rw [← HPV.out]; cases AA <;> cases no <;> rfl), W1.out.trans (Below.mono HD.out.below W1.out.size)⟩

set_option maxRecDepth 100000 in
set_option maxHeartbeats 4000000 in
theorem relholds_119 (mod : Int) (no : Bool) (rs : List (Int × Int)) (oi ov ow of ot : Int) (a : Option Addr) (n c : Nat) (w : World) (hs : SlAt 2 RngC w (.slice a n c) rs) (hm0 : 0 ≤ mod) :
    Calls Tryz.prog 68 #[.agg #[.int .u8 119, .int .i64 mod, .bool no, .slice a n c], .agg #[.int .i64 oi, .int .i64 ov, .int .i64 ow, .int .i64 of, .int .i64 ot]] w fun e w' => e = .returned (.bool (rs.any (Rul.rngHas (if mod = 0 then ow else ow.tmod mod)) != no)) ∧ Below w.heap.size w w' := by
  obtain ⟨A, cap, e, hm, hcell⟩ := hs.spread
  injection e with e1 e2 e3
  subst e1 e2 e3
  have HC := Lib.hid hcell
  obtain ⟨n, hn⟩ : ∃ n, rs.length = n := ⟨_, rfl⟩
  rw [hn] at hm ⊢
  have HN := Lib.hid hn
  unfold maxLen at hm
  have W1 := Lib.hid ((blw_alloc w (.cells #[.int .u8 119, .int .i64 mod, .bool no, .slice a n c] 106)).alloc (by simp) (.cells #[.int .i64 oi, .int .i64 ov, .int .i64 ow, .int .i64 of, .int .i64 ot] 45))
  have B1 := Lib.hid ((Boxed.made w #[.int .u8 119, .int .i64 mod, .bool no, .slice a n c] 106).alloc (.cells #[.int .i64 oi, .int .i64 ov, .int .i64 ow, .int .i64 of, .int .i64 ot] 45))
  clear hs hcell hn
  obtain ⟨XX, hXX⟩ : ∃ XX, (if mod = 0 then ow else ow.tmod mod) = XX := ⟨_, rfl⟩
  rw [hXX]
  have HXX := Lib.hid hXX
  clear hXX
  obtain ⟨PV, hPV⟩ : ∃ PV, (rs.any (Rul.rngHas XX) != no) = PV := ⟨_, rfl⟩
  rw [hPV]
  have HPV := Lib.hid hPV
  clear hPV
  by_cases hmd : 0 < mod
  · have dm : decide (0 < mod) = true := dec_yes hmd
    have hne : mod ≠ 0 := by omega
    obtain rfl : XX = ow.tmod mod := by rw [← HXX.out, if_neg (by omega)]
    clear HXX
    go_enter Tryz.func68, Tryz.ntmps68
    go_wp2_with fail
    obtain ⟨v, hv⟩ : ∃ v, (w.alloc (.cells #[.int .u8 119, .int .i64 mod, .bool no, .slice a n c] 106)).alloc (.cells #[.int .i64 oi, .int .i64 ov, .int .i64 ow, .int .i64 of, .int .i64 ot] 45) = v := ⟨_, rfl⟩
    rw [hv] at W1 B1 ⊢
    clear hv
    generalize ow.tmod mod = XX at *
    clear dm hmd hne
    go_loopw [6, 7] (fun s i wr => ∃ k : Nat, i = .int .i64 k ∧ k ≤ n ∧ s = .bool ((rs.take k).any (Rul.rngHas XX)) ∧ Hid (Drew v wr)) (fun _ i _ => n - (RowKit.intOf i).toNat)
    case atStart => exact ⟨0, rfl, Nat.zero_le _, rfl, Drew.refl _⟩
    case round =>
      obtain ⟨k, rfl, hk, rfl, HD⟩ := hrel
      have K3 := (B1.out.below HD.out.below).cell 3 _ rfl
      have K2 := (B1.out.below HD.out.below).cell 2 _ rfl
      have KL := (B1.out.below HD.out.below).lt
      by_cases hlt : k < n
      · obtain ⟨x, hx⟩ : ∃ x, rs[k]? = some x := ⟨rs[k]'(by have := HN.out; omega), List.getElem?_eq_getElem (by have := HN.out; omega)⟩
        obtain ⟨b, off, rfl, hx0, hx1⟩ := HC.out k x hx
        have x0 := cell_keep (cell_keep hx0 W1.out) HD.out.below
        have x1 := cell_keep (cell_keep hx1 W1.out) HD.out.below
        have HT := Lib.hid (any_take' (p := Rul.rngHas XX) hx)
        have HO := Lib.hid (show Rul.rngHas XX x = (decide (x.1 ≤ XX) && decide (XX ≤ x.2)) from rfl)
        generalize Rul.rngHas XX x = RH at *
        clear hx hx0 hx1
        obtain ⟨p, q⟩ := x
        dsimp only at *
        obtain ⟨A1, hA1⟩ : ∃ A1, (rs.take (k + 1)).any (Rul.rngHas XX) = A1 := ⟨_, rfl⟩
        rw [hA1] at HT
        have HA1 := Lib.hid hA1
        clear hA1
        generalize (rs.take k).any (Rul.rngHas XX) = A0 at *
        have k0 : (0 : Int) ≤ (k : Int) := by omega
        have k1 : (k : Int) < (n : Int) := by omega
        cases A0 with
        | true =>
          obtain rfl : A1 = true := by rw [HT.out]; rfl
          go_wp2_with fail
          go_roundw
          case rel => exact ⟨k + 1, by go_num, by omega, by rw [HA1.out], HD⟩
          case measure => simp [RowKit.intOf]; omega
        | false =>
          by_cases g0 : p ≤ XX
          · have d0 : decide (p ≤ XX) = true := dec_yes g0
            have d0' : decide (XX ≥ p) = true := dec_yes g0
            by_cases g1 : XX ≤ q
            · have d1 : decide (XX ≤ q) = true := dec_yes g1
              obtain rfl : A1 = true := by rw [HT.out, HO.out, d0, d1]; rfl
              go_wp2_with fail
              go_roundw
              case rel => exact ⟨k + 1, by go_num, by omega, by rw [HA1.out], HD⟩
              case measure => simp [RowKit.intOf]; omega
            · have d1 : decide (XX ≤ q) = false := dec_no g1
              obtain rfl : A1 = false := by rw [HT.out, HO.out, d0, d1]; rfl
              go_wp2_with fail
              go_roundw
              case rel => exact ⟨k + 1, by go_num, by omega, by rw [HA1.out], HD⟩
              case measure => simp [RowKit.intOf]; omega
          · have d0 : decide (p ≤ XX) = false := dec_no g0
            have d0' : decide (XX ≥ p) = false := dec_no g0
            obtain rfl : A1 = false := by rw [HT.out, HO.out, d0]; rfl
            go_wp2_with fail
            go_roundw
            case rel => exact ⟨k + 1, by go_num, by omega, by rw [HA1.out], HD⟩
            case measure => simp [RowKit.intOf]; omega
      · have e : k = n := by omega
        subst e
        have hf : (rs.take k).any (Rul.rngHas XX) = rs.any (Rul.rngHas XX) := by rw [List.take_of_length_le (by have := HN.out; omega)]
        rw [hf]
        generalize rs.any (Rul.rngHas XX) = AA at *
        clear hf
        go_wp2_with fail
        go_ret
        exact ⟨ret_bool (by rw [← HPV.out]; cases AA <;> cases no <;> rfl), W1.out.trans (Below.mono HD.out.below W1.out.size)⟩
  · have dm : decide (0 < mod) = false := dec_no hmd
    obtain rfl : mod = 0 := by omega
    obtain rfl : XX = ow := by rw [← HXX.out, if_pos rfl]
    clear HXX
    go_enter Tryz.func68, Tryz.ntmps68
    go_wp2_with fail
    obtain ⟨v, hv⟩ : ∃ v, (w.alloc (.cells #[.int .u8 119, .int .i64 0, .bool no, .slice a n c] 106)).alloc (.cells #[.int .i64 oi, .int .i64 ov, .int .i64 XX, .int .i64 of, .int .i64 ot] 45) = v := ⟨_, rfl⟩
    rw [hv] at W1 B1 ⊢
    clear hv
    clear dm hmd hm0
    go_loopw [6, 7] (fun s i wr => ∃ k : Nat, i = .int .i64 k ∧ k ≤ n ∧ s = .bool ((rs.take k).any (Rul.rngHas XX)) ∧ Hid (Drew v wr)) (fun _ i _ => n - (RowKit.intOf i).toNat)
    case atStart => exact ⟨0, rfl, Nat.zero_le _, rfl, Drew.refl _⟩
    case round =>
      obtain ⟨k, rfl, hk, rfl, HD⟩ := hrel
      have K3 := (B1.out.below HD.out.below).cell 3 _ rfl
      have K2 := (B1.out.below HD.out.below).cell 2 _ rfl
      have KL := (B1.out.below HD.out.below).lt
      by_cases hlt : k < n
      · obtain ⟨x, hx⟩ : ∃ x, rs[k]? = some x := ⟨rs[k]'(by have := HN.out; omega), List.getElem?_eq_getElem (by have := HN.out; omega)⟩
        obtain ⟨b, off, rfl, hx0, hx1⟩ := HC.out k x hx
        have x0 := cell_keep (cell_keep hx0 W1.out) HD.out.below
        have x1 := cell_keep (cell_keep hx1 W1.out) HD.out.below
        have HT := Lib.hid (any_take' (p := Rul.rngHas XX) hx)
        have HO := Lib.hid (show Rul.rngHas XX x = (decide (x.1 ≤ XX) && decide (XX ≤ x.2)) from rfl)
        generalize Rul.rngHas XX x = RH at *
        clear hx hx0 hx1
        obtain ⟨p, q⟩ := x
        dsimp only at *
        obtain ⟨A1, hA1⟩ : ∃ A1, (rs.take (k + 1)).any (Rul.rngHas XX) = A1 := ⟨_, rfl⟩
        rw [hA1] at HT
        have HA1 := Lib.hid hA1
        clear hA1
        generalize (rs.take k).any (Rul.rngHas XX) = A0 at *
        have k0 : (0 : Int) ≤ (k : Int) := by omega
        have k1 : (k : Int) < (n : Int) := by omega
        cases A0 with
        | true =>
          obtain rfl : A1 = true := by rw [HT.out]; rfl
          go_wp2_with fail
          go_roundw
          case rel => exact ⟨k + 1, by go_num, by omega, by rw [HA1.out], HD⟩
          case measure => simp [RowKit.intOf]; omega
        | false =>
          by_cases g0 : p ≤ XX
          · have d0 : decide (p ≤ XX) = true := dec_yes g0
            have d0' : decide (XX ≥ p) = true := dec_yes g0
            by_cases g1 : XX ≤ q
            · have d1 : decide (XX ≤ q) = true := dec_yes g1
              obtain rfl : A1 = true := by rw [HT.out, HO.out, d0, d1]; rfl
              go_wp2_with fail
              go_roundw
              case rel => exact ⟨k + 1, by go_num, by omega, by rw [HA1.out], HD⟩
              case measure => simp [RowKit.intOf]; omega
            · have d1 : decide (XX ≤ q) = false := dec_no g1
              obtain rfl : A1 = false := by rw [HT.out, HO.out, d0, d1]; rfl
              go_wp2_with fail
              go_roundw
              case rel => exact ⟨k + 1, by go_num, by omega, by rw [HA1.out], HD⟩
              case measure => simp [RowKit.intOf]; omega
          · have d0 : decide (p ≤ XX) = false := dec_no g0
            have d0' : decide (XX ≥ p) = false := dec_no g0
            obtain rfl : A1 = false := by rw [HT.out, HO.out, d0]; rfl
            go_wp2_with fail
            go_roundw
            case rel => exact ⟨k + 1, by go_num, by omega, by rw [HA1.out], HD⟩
            case measure => simp [RowKit.intOf]; omega
      · have e : k = n := by omega
        subst e
        have hf : (rs.take k).any (Rul.rngHas XX) = rs.any (Rul.rngHas XX) := by rw [List.take_of_length_le (by have := HN.out; omega)]
        rw [hf]
        generalize rs.any (Rul.rngHas XX) = AA at *
        clear hf
        go_wp2_with fail
        go_ret
        exact ⟨ret_bool (by rw [← HPV.out]; cases AA <;> cases no <;> rfl), W1.out.trans (Below.mono HD.out.below W1.out.size)⟩

set_option maxRecDepth 100000 in
set_option maxHeartbeats 4000000 in
theorem relholds_102 (mod : Int) (no : Bool) (rs : List (Int × Int)) (oi ov ow of ot : Int) (a : Option Addr) (n c : Nat) (w : World) (hs : SlAt 2 RngC w (.slice a n c) rs) (hm0 : 0 ≤ mod) :
    Calls Tryz.prog 68 #[.agg #[.int .u8 102, .int .i64 mod, .bool no, .slice a n c], .agg #[.int .i64 oi, .int .i64 ov, .int .i64 ow, .int .i64 of, .int .i64 ot]] w fun e w' => e = .returned (.bool (rs.any (Rul.rngHas (if mod = 0 then of else of.tmod mod)) != no)) ∧ Below w.heap.size w w' := by
  obtain ⟨A, cap, e, hm, hcell⟩ := hs.spread
  injection e with e1 e2 e3
  subst e1 e2 e3
  have HC := Lib.hid hcell
  obtain ⟨n, hn⟩ : ∃ n, rs.length = n := ⟨_, rfl⟩
  rw [hn] at hm ⊢
  have HN := Lib.hid hn
  unfold maxLen at hm
  have W1 := Lib.hid ((blw_alloc w (.cells #[.int .u8 102, .int .i64 mod, .bool no, .slice a n c] 106)).alloc (by simp) (.cells #[.int .i64 oi, .int .i64 ov, .int .i64 ow, .int .i64 of, .int .i64 ot] 45))
  have B1 := Lib.hid ((Boxed.made w #[.int .u8 102, .int .i64 mod, .bool no, .slice a n c] 106).alloc (.cells #[.int .i64 oi, .int .i64 ov, .int .i64 ow, .int .i64 of, .int .i64 ot] 45))
  clear hs hcell hn
  obtain ⟨XX, hXX⟩ : ∃ XX, (if mod = 0 then of else of.tmod mod) = XX := ⟨_, rfl⟩
  rw [hXX]
  have HXX := Lib.hid hXX
  clear hXX
  obtain ⟨PV, hPV⟩ : ∃ PV, (rs.any (Rul.rngHas XX) != no) = PV := ⟨_, rfl⟩
  rw [hPV]
  have HPV := Lib.hid hPV
  clear hPV
  by_cases hmd : 0 < mod
  · have dm : decide (0 < mod) = true := dec_yes hmd
    have hne : mod ≠ 0 := by omega
    obtain rfl : XX = of.tmod mod := by rw [← HXX.out, if_neg (by omega)]
    clear HXX
    go_enter Tryz.func68, Tryz.ntmps68
    go_wp2_with fail
    obtain ⟨v, hv⟩ : ∃ v, (w.alloc (.cells #[.int .u8 102, .int .i64 mod, .bool no, .slice a n c] 106)).alloc (.cells #[.int .i64 oi, .int .i64 ov, .int .i64 ow, .int .i64 of, .int .i64 ot] 45) = v := ⟨_, rfl⟩
    rw [hv] at W1 B1 ⊢
    clear hv
    generalize of.tmod mod = XX at *
    clear dm hmd hne
    go_loopw [6, 7] (fun s i wr => ∃ k : Nat, i = .int .i64 k ∧ k ≤ n ∧ s = .bool ((rs.take k).any (Rul.rngHas XX)) ∧ Hid (Drew v wr)) (fun _ i _ => n - (RowKit.intOf i).toNat)
    case atStart => exact ⟨0, rfl, Nat.zero_le _, rfl, Drew.refl _⟩
    case round =>
      obtain ⟨k, rfl, hk, rfl, HD⟩ := hrel
      have K3 := (B1.out.below HD.out.below).cell 3 _ rfl
      have K2 := (B1.out.below HD.out.below).cell 2 _ rfl
      have KL := (B1.out.below HD.out.below).lt
      by_cases hlt : k < n
      · obtain ⟨x, hx⟩ : ∃ x, rs[k]? = some x := ⟨rs[k]'(by have := HN.out; omega), List.getElem?_eq_getElem (by have := HN.out; omega)⟩
        obtain ⟨b, off, rfl, hx0, hx1⟩ := HC.out k x hx
        have x0 := cell_keep (cell_keep hx0 W1.out) HD.out.below
        have x1 := cell_keep (cell_keep hx1 W1.out) HD.out.below
        have HT := Lib.hid (any_take' (p := Rul.rngHas XX) hx)
        have HO := Lib.hid (show Rul.rngHas XX x = (decide (x.1 ≤ XX) && decide (XX ≤ x.2)) from rfl)
        generalize Rul.rngHas XX x = RH at *
        clear hx hx0 hx1
        obtain ⟨p, q⟩ := x
        dsimp only at *
        obtain ⟨A1, hA1⟩ : ∃ A1, (rs.take (k + 1)).any (Rul.rngHas XX) = A1 := ⟨_, rfl⟩
        rw [hA1] at HT
        have HA1 := Lib.hid hA1
        clear hA1
        generalize (rs.take k).any (Rul.rngHas XX) = A0 at *
        have k0 : (0 : Int) ≤ (k : Int) := by omega
        have k1 : (k : Int) < (n : Int) := by omega
        cases A0 with
        | true =>
          obtain rfl : A1 = true := by rw [HT.out]; rfl
          go_wp2_with fail
          go_roundw
          case rel => exact ⟨k + 1, by go_num, by omega, by rw [HA1.out], HD⟩
          case measure => simp [RowKit.intOf]; omega
        | false =>
          by_cases g0 : p ≤ XX
          · have d0 : decide (p ≤ XX) = true := dec_yes g0
            have d0' : decide (XX ≥ p) = true := dec_yes g0
            by_cases g1 : XX ≤ q
            · have d1 : decide (XX ≤ q) = true := dec_yes g1
              obtain rfl : A1 = true := by rw [HT.out, HO.out, d0, d1]; rfl
              go_wp2_with fail
              go_roundw
              case rel => exact ⟨k + 1, by go_num, by omega, by rw [HA1.out], HD⟩
              case measure => simp [RowKit.intOf]; omega
            · have d1 : decide (XX ≤ q) = false := dec_no g1
              obtain rfl : A1 = false := by rw [HT.out, HO.out, d0, d1]; rfl
              go_wp2_with fail
              go_roundw
              case rel => exact ⟨k + 1, by go_num, by omega, by rw [HA1.out], HD⟩
              case measure => simp [RowKit.intOf]; omega
          · have d0 : decide (p ≤ XX) = false := dec_no g0
            have d0' : decide (XX ≥ p) = false := dec_no g0
            obtain rfl : A1 = false := by rw [HT.out, HO.out, d0]; rfl
            go_wp2_with fail
            go_roundw
            case rel => exact ⟨k + 1, by go_num, by omega, by rw [HA1.out], HD⟩
            case measure => simp [RowKit.intOf]; omega
      · have e : k = n := by omega
        subst e
        have hf : (rs.take k).any (Rul.rngHas XX) = rs.any (Rul.rngHas XX) := by rw [List.take_of_length_le (by have := HN.out; omega)]
        rw [hf]
        generalize rs.any (Rul.rngHas XX) = AA at *
        clear hf
        go_wp2_with fail
        go_ret
        exact ⟨ret_bool (by rw [← HPV.out]; cases AA <;> cases no <;> rfl), W1.out.trans (Below.mono HD.out.below W1.out.size)⟩
  · have dm : decide (0 < mod) = false := dec_no hmd
    obtain rfl : mod = 0 := by omega
    obtain rfl : XX = of := by rw [← HXX.out, if_pos rfl]
    clear HXX
    go_enter Tryz.func68, Tryz.ntmps68
    go_wp2_with fail
    obtain ⟨v, hv⟩ : ∃ v, (w.alloc (.cells #[.int .u8 102, .int .i64 0, .bool no, .slice a n c] 106)).alloc (.cells #[.int .i64 oi, .int .i64 ov, .int .i64 ow, .int .i64 XX, .int .i64 ot] 45) = v := ⟨_, rfl⟩
    rw [hv] at W1 B1 ⊢
    clear hv
    clear dm hmd hm0
    go_loopw [6, 7] (fun s i wr => ∃ k : Nat, i = .int .i64 k ∧ k ≤ n ∧ s = .bool ((rs.take k).any (Rul.rngHas XX)) ∧ Hid (Drew v wr)) (fun _ i _ => n - (RowKit.intOf i).toNat)
    case atStart => exact ⟨0, rfl, Nat.zero_le _, rfl, Drew.refl _⟩
    case round =>
      obtain ⟨k, rfl, hk, rfl, HD⟩ := hrel
      have K3 := (B1.out.below HD.out.below).cell 3 _ rfl
      have K2 := (B1.out.below HD.out.below).cell 2 _ rfl
      have KL := (B1.out.below HD.out.below).lt
      by_cases hlt : k < n
      · obtain ⟨x, hx⟩ : ∃ x, rs[k]? = some x := ⟨rs[k]'(by have := HN.out; omega), List.getElem?_eq_getElem (by have := HN.out; omega)⟩
        obtain ⟨b, off, rfl, hx0, hx1⟩ := HC.out k x hx
        have x0 := cell_keep (cell_keep hx0 W1.out) HD.out.below
        have x1 := cell_keep (cell_keep hx1 W1.out) HD.out.below
        have HT := Lib.hid (any_take' (p := Rul.rngHas XX) hx)
        have HO := Lib.hid (show Rul.rngHas XX x = (decide (x.1 ≤ XX) && decide (XX ≤ x.2)) from rfl)
        generalize Rul.rngHas XX x = RH at *
        clear hx hx0 hx1
        obtain ⟨p, q⟩ := x
        dsimp only at *
        obtain ⟨A1, hA1⟩ : ∃ A1, (rs.take (k + 1)).any (Rul.rngHas XX) = A1 := ⟨_, rfl⟩
        rw [hA1] at HT
        have HA1 := Lib.hid hA1
        clear hA1
        generalize (rs.take k).any (Rul.rngHas XX) = A0 at *
        have k0 : (0 : Int) ≤ (k : Int) := by omega
        have k1 : (k : Int) < (n : Int) := by omega
        cases A0 with
        | true =>
          obtain rfl : A1 = true := by rw [HT.out]; rfl
          go_wp2_with fail
          go_roundw
          case rel => exact ⟨k + 1, by go_num, by omega, by rw [HA1.out], HD⟩
          case measure => simp [RowKit.intOf]; omega
        | false =>
          by_cases g0 : p ≤ XX
          · have d0 : decide (p ≤ XX) = true := dec_yes g0
            have d0' : decide (XX ≥ p) = true := dec_yes g0
            by_cases g1 : XX ≤ q
            · have d1 : decide (XX ≤ q) = true := dec_yes g1
              obtain rfl : A1 = true := by rw [HT.out, HO.out, d0, d1]; rfl
              go_wp2_with fail
              go_roundw
              case rel => exact ⟨k + 1, by go_num, by omega, by rw [HA1.out], HD⟩
              case measure => simp [RowKit.intOf]; omega
            · have d1 : decide (XX ≤ q) = false := dec_no g1
              obtain rfl : A1 = false := by rw [HT.out, HO.out, d0, d1]; rfl
              go_wp2_with fail
              go_roundw
              case rel => exact ⟨k + 1, by go_num, by omega, by rw [HA1.out], HD⟩
              case measure => simp [RowKit.intOf]; omega
          · have d0 : decide (p ≤ XX) = false := dec_no g0
            have d0' : decide (XX ≥ p) = false := dec_no g0
            obtain rfl : A1 = false := by rw [HT.out, HO.out, d0]; rfl
            go_wp2_with fail
            go_roundw
            case rel => exact ⟨k + 1, by go_num, by omega, by rw [HA1.out], HD⟩
            case measure => simp [RowKit.intOf]; omega
      · have e : k = n := by omega
        subst e
        have hf : (rs.take k).any (Rul.rngHas XX) = rs.any (Rul.rngHas XX) := by rw [List.take_of_length_le (by have := HN.out; omega)]
        rw [hf]
        generalize rs.any (Rul.rngHas XX) = AA at *
        clear hf
        go_wp2_with fail
        go_ret
        exact ⟨ret_bool (by rw [← HPV.out]; cases AA <;> cases no <;> rfl), W1.out.trans (Below.mono HD.out.below W1.out.size)⟩

set_option maxRecDepth 100000 in
set_option maxHeartbeats 4000000 in
theorem relholds_116 (mod : Int) (no : Bool) (rs : List (Int × Int)) (oi ov ow of ot : Int) (a : Option Addr) (n c : Nat) (w : World) (hs : SlAt 2 RngC w (.slice a n c) rs) (hm0 : 0 ≤ mod) :
    Calls Tryz.prog 68 #[.agg #[.int .u8 116, .int .i64 mod, .bool no, .slice a n c], .agg #[.int .i64 oi, .int .i64 ov, .int .i64 ow, .int .i64 of, .int .i64 ot]] w fun e w' => e = .returned (.bool (rs.any (Rul.rngHas (if mod = 0 then ot else ot.tmod mod)) != no)) ∧ Below w.heap.size w w' := by
  obtain ⟨A, cap, e, hm, hcell⟩ := hs.spread
  injection e with e1 e2 e3
  subst e1 e2 e3
  have HC := Lib.hid hcell
  obtain ⟨n, hn⟩ : ∃ n, rs.length = n := ⟨_, rfl⟩
  rw [hn] at hm ⊢
  have HN := Lib.hid hn
  unfold maxLen at hm
  have W1 := Lib.hid ((blw_alloc w (.cells #[.int .u8 116, .int .i64 mod, .bool no, .slice a n c] 106)).alloc (by simp) (.cells #[.int .i64 oi, .int .i64 ov, .int .i64 ow, .int .i64 of, .int .i64 ot] 45))
  have B1 := Lib.hid ((Boxed.made w #[.int .u8 116, .int .i64 mod, .bool no, .slice a n c] 106).alloc (.cells #[.int .i64 oi, .int .i64 ov, .int .i64 ow, .int .i64 of, .int .i64 ot] 45))
  clear hs hcell hn
  obtain ⟨XX, hXX⟩ : ∃ XX, (if mod = 0 then ot else ot.tmod mod) = XX := ⟨_, rfl⟩
  rw [hXX]
  have HXX := Lib.hid hXX
  clear hXX
  obtain ⟨PV, hPV⟩ : ∃ PV, (rs.any (Rul.rngHas XX) != no) = PV := ⟨_, rfl⟩
  rw [hPV]
  have HPV := Lib.hid hPV
  clear hPV
  by_cases hmd : 0 < mod
  · have dm : decide (0 < mod) = true := dec_yes hmd
    have hne : mod ≠ 0 := by omega
    obtain rfl : XX = ot.tmod mod := by rw [← HXX.out, if_neg (by omega)]
    clear HXX
    go_enter Tryz.func68, Tryz.ntmps68
    go_wp2_with fail
    obtain ⟨v, hv⟩ : ∃ v, (w.alloc (.cells #[.int .u8 116, .int .i64 mod, .bool no, .slice a n c] 106)).alloc (.cells #[.int .i64 oi, .int .i64 ov, .int .i64 ow, .int .i64 of, .int .i64 ot] 45) = v := ⟨_, rfl⟩
    rw [hv] at W1 B1 ⊢
    clear hv
    generalize ot.tmod mod = XX at *
    clear dm hmd hne
    go_loopw [6, 7] (fun s i wr => ∃ k : Nat, i = .int .i64 k ∧ k ≤ n ∧ s = .bool ((rs.take k).any (Rul.rngHas XX)) ∧ Hid (Drew v wr)) (fun _ i _ => n - (RowKit.intOf i).toNat)
    case atStart => exact ⟨0, rfl, Nat.zero_le _, rfl, Drew.refl _⟩
    case round =>
      obtain ⟨k, rfl, hk, rfl, HD⟩ := hrel
      have K3 := (B1.out.below HD.out.below).cell 3 _ rfl
      have K2 := (B1.out.below HD.out.below).cell 2 _ rfl
      have KL := (B1.out.below HD.out.below).lt
      by_cases hlt : k < n
      · obtain ⟨x, hx⟩ : ∃ x, rs[k]? = some x := ⟨rs[k]'(by have := HN.out; omega), List.getElem?_eq_getElem (by have := HN.out; omega)⟩
        obtain ⟨b, off, rfl, hx0, hx1⟩ := HC.out k x hx
        have x0 := cell_keep (cell_keep hx0 W1.out) HD.out.below
        have x1 := cell_keep (cell_keep hx1 W1.out) HD.out.below
        have HT := Lib.hid (any_take' (p := Rul.rngHas XX) hx)
        have HO := Lib.hid (show Rul.rngHas XX x = (decide (x.1 ≤ XX) && decide (XX ≤ x.2)) from rfl)
        generalize Rul.rngHas XX x = RH at *
        clear hx hx0 hx1
        obtain ⟨p, q⟩ := x
        dsimp only at *
        obtain ⟨A1, hA1⟩ : ∃ A1, (rs.take (k + 1)).any (Rul.rngHas XX) = A1 := ⟨_, rfl⟩
        rw [hA1] at HT
        have HA1 := Lib.hid hA1
        clear hA1
        generalize (rs.take k).any (Rul.rngHas XX) = A0 at *
        have k0 : (0 : Int) ≤ (k : Int) := by omega
        have k1 : (k : Int) < (n : Int) := by omega
        cases A0 with
        | true =>
          obtain rfl : A1 = true := by rw [HT.out]; rfl
          go_wp2_with fail
          go_roundw
          case rel => exact ⟨k + 1, by go_num, by omega, by rw [HA1.out], HD⟩
          case measure => simp [RowKit.intOf]; omega
        | false =>
          by_cases g0 : p ≤ XX
          · have d0 : decide (p ≤ XX) = true := dec_yes g0
            have d0' : decide (XX ≥ p) = true := dec_yes g0
            by_cases g1 : XX ≤ q
            · have d1 : decide (XX ≤ q) = true := dec_yes g1
              obtain rfl : A1 = true := by rw [HT.out, HO.out, d0, d1]; rfl
              go_wp2_with fail
              go_roundw
              case rel => exact ⟨k + 1, by go_num, by omega, by rw [HA1.out], HD⟩
              case measure => simp [RowKit.intOf]; omega
            · have d1 : decide (XX ≤ q) = false := dec_no g1
              obtain rfl : A1 = false := by rw [HT.out, HO.out, d0, d1]; rfl
              go_wp2_with fail
              go_roundw
              case rel => exact ⟨k + 1, by go_num, by omega, by rw [HA1.out], HD⟩
              case measure => simp [RowKit.intOf]; omega
          · have d0 : decide (p ≤ XX) = false := dec_no g0
            have d0' : decide (XX ≥ p) = false := dec_no g0
            obtain rfl : A1 = false := by rw [HT.out, HO.out, d0]; rfl
            go_wp2_with fail
            go_roundw
            case rel => exact ⟨k + 1, by go_num, by omega, by rw [HA1.out], HD⟩
            case measure => simp [RowKit.intOf]; omega
      · have e : k = n := by omega
        subst e
        have hf : (rs.take k).any (Rul.rngHas XX) = rs.any (Rul.rngHas XX) := by rw [List.take_of_length_le (by have := HN.out; omega)]
        rw [hf]
        generalize rs.any (Rul.rngHas XX) = AA at *
        clear hf
        go_wp2_with fail
        go_ret
        exact ⟨ret_bool (by rw [← HPV.out]; cases AA <;> cases no <;> rfl), W1.out.trans (Below.mono HD.out.below W1.out.size)⟩
  · have dm : decide (0 < mod) = false := dec_no hmd
    obtain rfl : mod = 0 := by omega
    obtain rfl : XX = ot := by rw [← HXX.out, if_pos rfl]
    clear HXX
    go_enter Tryz.func68, Tryz.ntmps68
    go_wp2_with fail
    obtain ⟨v, hv⟩ : ∃ v, (w.alloc (.cells #[.int .u8 116, .int .i64 0, .bool no, .slice a n c] 106)).alloc (.cells #[.int .i64 oi, .int .i64 ov, .int .i64 ow, .int .i64 of, .int .i64 XX] 45) = v := ⟨_, rfl⟩
    rw [hv] at W1 B1 ⊢
    clear hv
    clear dm hmd hm0
    go_loopw [6, 7] (fun s i wr => ∃ k : Nat, i = .int .i64 k ∧ k ≤ n ∧ s = .bool ((rs.take k).any (Rul.rngHas XX)) ∧ Hid (Drew v wr)) (fun _ i _ => n - (RowKit.intOf i).toNat)
    case atStart => exact ⟨0, rfl, Nat.zero_le _, rfl, Drew.refl _⟩
    case round =>
      obtain ⟨k, rfl, hk, rfl, HD⟩ := hrel
      have K3 := (B1.out.below HD.out.below).cell 3 _ rfl
      have K2 := (B1.out.below HD.out.below).cell 2 _ rfl
      have KL := (B1.out.below HD.out.below).lt
      by_cases hlt : k < n
      · obtain ⟨x, hx⟩ : ∃ x, rs[k]? = some x := ⟨rs[k]'(by have := HN.out; omega), List.getElem?_eq_getElem (by have := HN.out; omega)⟩
        obtain ⟨b, off, rfl, hx0, hx1⟩ := HC.out k x hx
        have x0 := cell_keep (cell_keep hx0 W1.out) HD.out.below
        have x1 := cell_keep (cell_keep hx1 W1.out) HD.out.below
        have HT := Lib.hid (any_take' (p := Rul.rngHas XX) hx)
        have HO := Lib.hid (show Rul.rngHas XX x = (decide (x.1 ≤ XX) && decide (XX ≤ x.2)) from rfl)
        generalize Rul.rngHas XX x = RH at *
        clear hx hx0 hx1
        obtain ⟨p, q⟩ := x
        dsimp only at *
        obtain ⟨A1, hA1⟩ : ∃ A1, (rs.take (k + 1)).any (Rul.rngHas XX) = A1 := ⟨_, rfl⟩
        rw [hA1] at HT
        have HA1 := Lib.hid hA1
        clear hA1
        generalize (rs.take k).any (Rul.rngHas XX) = A0 at *
        have k0 : (0 : Int) ≤ (k : Int) := by omega
        have k1 : (k : Int) < (n : Int) := by omega
        cases A0 with
        | true =>
          obtain rfl : A1 = true := by rw [HT.out]; rfl
          go_wp2_with fail
          go_roundw
          case rel => exact ⟨k + 1, by go_num, by omega, by rw [HA1.out], HD⟩
          case measure => simp [RowKit.intOf]; omega
        | false =>
          by_cases g0 : p ≤ XX
          · have d0 : decide (p ≤ XX) = true := dec_yes g0
            have d0' : decide (XX ≥ p) = true := dec_yes g0
            by_cases g1 : XX ≤ q
            · have d1 : decide (XX ≤ q) = true := dec_yes g1
              obtain rfl : A1 = true := by rw [HT.out, HO.out, d0, d1]; rfl
              go_wp2_with fail
              go_roundw
              case rel => exact ⟨k + 1, by go_num, by omega, by rw [HA1.out], HD⟩
              case measure => simp [RowKit.intOf]; omega
            · have d1 : decide (XX ≤ q) = false := dec_no g1
              obtain rfl : A1 = false := by rw [HT.out, HO.out, d0, d1]; rfl
              go_wp2_with fail
              go_roundw
              case rel => exact ⟨k + 1, by go_num, by omega, by rw [HA1.out], HD⟩
              case measure => simp [RowKit.intOf]; omega
          · have d0 : decide (p ≤ XX) = false := dec_no g0
            have d0' : decide (XX ≥ p) = false := dec_no g0
            obtain rfl : A1 = false := by rw [HT.out, HO.out, d0]; rfl
            go_wp2_with fail
            go_roundw
            case rel => exact ⟨k + 1, by go_num, by omega, by rw [HA1.out], HD⟩
            case measure => simp [RowKit.intOf]; omega
      · have e : k = n := by omega
        subst e
        have hf : (rs.take k).any (Rul.rngHas XX) = rs.any (Rul.rngHas XX) := by rw [List.take_of_length_le (by have := HN.out; omega)]
        rw [hf]
        generalize rs.any (Rul.rngHas XX) = AA at *
        clear hf
        go_wp2_with fail
        go_ret
        exact ⟨ret_bool (by rw [← HPV.out]; cases AA <;> cases no <;> rfl), W1.out.trans (Below.mono HD.out.below W1.out.size)⟩

set_option maxRecDepth 100000 in
set_option maxHeartbeats 1000000 in
theorem relholds_n (mod : Int) (no : Bool) (oi ov ow of ot : Int) (a : Option Addr) (n c : Nat) (w : World) (ht : ot ≠ 0) :
    Calls Tryz.prog 68 #[.agg #[.int .u8 110, .int .i64 mod, .bool no, .slice a n c], .agg #[.int .i64 oi, .int .i64 ov, .int .i64 ow, .int .i64 of, .int .i64 ot]] w fun e w' => e = .returned (.bool no) ∧ Below w.heap.size w w' := by
  have t0 : (ot == 0) = false := beq_no ht
  have W1 := Lib.hid ((blw_alloc w (.cells #[.int .u8 110, .int .i64 mod, .bool no, .slice a n c] 106)).alloc (by simp) (.cells #[.int .i64 oi, .int .i64 ov, .int .i64 ow, .int .i64 of, .int .i64 ot] 45))
  go_enter Tryz.func68, Tryz.ntmps68
  go_wp2_with fail
  go_ret
  exact ⟨rfl, W1.out⟩
theorem relholds_any (x : Rul.Rl) (o : Rul.Op5) (a : Option Addr) (n c : Nat) (w : World) (hs : SlAt 2 RngC w (.slice a n c) x.rs) (hok : Rul.relOk x = true) :
    Calls Tryz.prog 68 #[.agg #[.int .u8 (x.op.toNat : Int), .int .i64 x.mod, .bool x.no, .slice a n c], .agg #[.int .i64 o.i, .int .i64 o.v, .int .i64 o.w, .int .i64 o.f, .int .i64 o.t]] w fun e w' => e = .returned (.bool (Rul.relH x o)) ∧ Below w.heap.size w w' := by
  obtain ⟨h1, h2, _, _, _⟩ := Rul.relOk_parts hok
  have e : Rul.relH x o = ((x.rs.any (Rul.rngHas (Rul.opx x o)) && (!decide (x.op = 110) || decide (o.t = 0))) != x.no) := rfl
  rw [e]
  obtain ⟨op, mod, no, rs⟩ := x
  obtain ⟨oi, ov, ow, of, ot⟩ := o
  dsimp only at *
  rcases Rul.op_cases h1 with rfl | rfl | rfl | rfl | rfl | rfl
  · by_cases ht : ot = 0
    · subst ht
      exact (relholds_110 mod no rs oi ov ow of a n c w hs h2).mono fun e w' h => by simpa [Rul.opx, Rul.opv] using h
    · exact (relholds_n mod no oi ov ow of ot a n c w ht).mono fun e w' h => by simpa [ht] using h
  · exact (relholds_105 mod no rs oi ov ow of ot a n c w hs h2).mono fun e w' h => by simpa [Rul.opx, Rul.opv] using h
  · exact (relholds_118 mod no rs oi ov ow of ot a n c w hs h2).mono fun e w' h => by simpa [Rul.opx, Rul.opv] using h
  · exact (relholds_119 mod no rs oi ov ow of ot a n c w hs h2).mono fun e w' h => by simpa [Rul.opx, Rul.opv] using h
  · exact (relholds_102 mod no rs oi ov ow of ot a n c w hs h2).mono fun e w' h => by simpa [Rul.opx, Rul.opv] using h
  · exact (relholds_116 mod no rs oi ov ow of ot a n c w hs h2).mono fun e w' h => by simpa [Rul.opx, Rul.opv] using h
end Go.Proofs.YtaijjffnamjhiaaGreatDoor
namespace Go.Proofs.YtaijjffnamjhiaaGreatDoor
open Go.RowKit

theorem all_takeH {α : Type} {L : List α} {p : α → Bool} {k : Nat} {x : α} (h : L[k]? = some x) : (L.take (k + 1)).all p = ((L.take k).all p && p x) := by
  rw [List.take_add_one, h]; simp

set_option maxRecDepth 100000 in
set_option maxHeartbeats 8000000 in
theorem rhr_some (r : Rul.Rule) (b off c n : Nat) (oi ov ow of ot : Int) (w : World) (hn : r.length = n) (hm : n ≤ 1000000000) (hE : Rul.ruleE r = 0) (hcell : ∀ (j : Nat) x, r[j]? = some x → PartC w b (off + j * 1) x) :
    Calls Tryz.prog 26 #[.slice (some ⟨b, off, none⟩) n c, .agg #[.int .i64 oi, .int .i64 ov, .int .i64 ow, .int .i64 of, .int .i64 ot]] w fun e w' => e = .returned (.bool (Rul.ruleH r ⟨oi, ov, ow, of, ot⟩)) ∧ Below w.heap.size w w' := by
  have W0 := Lib.hid (blw_alloc w (.cells #[.int .i64 oi, .int .i64 ov, .int .i64 ow, .int .i64 of, .int .i64 ot] 45))
  have B0 := Lib.hid (Boxed.made w #[.int .i64 oi, .int .i64 ov, .int .i64 ow, .int .i64 of, .int .i64 ot] 45)
  have HOK := Lib.hid fun (l : List Rul.Rl) (hlr : l ∈ r) => Rul.part_parts ((Rul.shape_parts (Rul.ruleE_zero.1 hE).1).2 l hlr)
  have HLM := Lib.hid fun (l : List Rul.Rl) (hlr : l ∈ r) => Nat.le_trans (Rul.count_mem hlr) (Rul.ruleE_zero.1 hE).2
  have HRH := Lib.hid fun (x : Rul.Rl) (a : Option Addr) (n c : Nat) (wx : World) (hs : SlAt 2 RngC wx (.slice a n c) x.rs) (hok : Rul.relOk x = true) => relholds_any x ⟨oi, ov, ow, of, ot⟩ a n c wx hs hok
  generalize hO : (⟨oi, ov, ow, of, ot⟩ : Rul.Op5) = O at *
  have HH := Lib.hid (show Rul.ruleH r O = r.any (Rul.partH · O) from rfl)
  generalize Rul.ruleH r O = RH at *
  have HO := Lib.hid hO
  have HC := Lib.hid hcell
  have HN := Lib.hid hn
  clear hcell hn hE hO
  go_enter Tryz.func26, Tryz.ntmps26
  go_wp2_with fail
  generalize w.alloc (.cells #[.int .i64 oi, .int .i64 ov, .int .i64 ow, .int .i64 of, .int .i64 ot] 45) = v at *
  go_loopw [5] (fun i wr => ∃ k : Nat, i = .int .i64 k ∧ k ≤ n ∧ Hid ((r.take k).any (Rul.partH · O) = false) ∧ Hid (Below v.heap.size v wr)) (fun i _ => n - (RowKit.intOf i).toNat)
  case atStart => exact ⟨0, rfl, Nat.zero_le _, Lib.hid (by simp), Lib.hid (Below.refl _ _)⟩
  case round =>
    obtain ⟨k, rfl, hk, HANY, HD⟩ := hrel
    by_cases hlt : k < n
    · obtain ⟨l, hlk⟩ : ∃ l, r[k]? = some l := ⟨r[k]'(by have := HN.out; omega), List.getElem?_eq_getElem (by have := HN.out; omega)⟩
      have hlr := List.mem_of_getElem? hlk
      have HA := Lib.hid (any_take' (p := (Rul.partH · O)) hlk)
      have HLR := Lib.hid hlr
      have hp0 := HC.out k l hlk
      rw [Nat.mul_one] at hp0
      obtain ⟨pa, pn, pc, q0, qs⟩ := hp0
      obtain ⟨A1, cap1, e1, hm1, _⟩ := qs.spread
      injection e1 with e1 e2 e3
      subst e1 e2 e3
      have hlm := HLM.out l hlr
      have Q0 := Lib.hid (fun (wx : World) (hb : Below v.heap.size v wx) => cell_keep q0 (blw_trans W0.out hb))
      have QS := Lib.hid (fun (wx : World) (hb : Below v.heap.size v wx) => qs.rels_below (blw_trans W0.out hb))
      have HPH := Lib.hid (show Rul.partH l O = l.all (Rul.relH · O) from rfl)
      generalize Rul.partH l O = PH1 at *
      obtain ⟨AN1, hAN1⟩ : ∃ AN1, (r.take (k + 1)).any (Rul.partH · O) = AN1 := ⟨_, rfl⟩
      rw [hAN1] at HA
      have HAN1 := Lib.hid hAN1
      have HLT := Lib.hid hlk
      clear hAN1
      obtain ⟨m, hmm⟩ : ∃ m, l.length = m := ⟨_, rfl⟩
      rw [hmm] at Q0 QS hlm
      have HM := Lib.hid hmm
      have BO := Lib.hid fun (wx : World) (hb : Below v.heap.size v wx) => B0.out.below hb
      have k0 : (0 : Int) ≤ (k : Int) := by omega
      have k1 : (k : Int) < (n : Int) := by omega
      clear q0 qs hmm hlk hm1 hlr
      have HK := Lib.hid (And.intro hlt hk)
      go_wp2_with fail
      go_loopw [6, 7] (fun s i wr => ∃ j : Nat, i = .int .i64 j ∧ j ≤ m ∧ s = .bool ((l.take j).all (Rul.relH · O)) ∧ Hid (Below v.heap.size v wr)) (fun _ i _ => m - (RowKit.intOf i).toNat)
      case atStart => exact ⟨0, rfl, Nat.zero_le _, rfl, HD⟩
      case round =>
        obtain ⟨j, rfl, hj, rfl, HI⟩ := hrel
        have p0 := Q0.out wr HI.out
        by_cases hjm : j < m
        · obtain ⟨y, hy⟩ : ∃ y, l[j]? = some y := ⟨l[j]'(by have := HM.out; omega), List.getElem?_eq_getElem (by have := HM.out; omega)⟩
          have hyl := List.mem_of_getElem? hy
          have HA2 := Lib.hid (all_takeH (p := (Rul.relH · O)) hy)
          obtain ⟨b1, of1, rfl, hry⟩ : ∃ b1 o1, pa = some ⟨b1, o1, none⟩ ∧ ∀ wx, Below v.heap.size v wx → RelC wx b1 (o1 + j * 4) y := by
            obtain ⟨A1, cap2, e1, _, hcell2⟩ := (QS.out v (Below.refl _ _)).spread
            injection e1 with e1 _ _
            subst e1
            obtain ⟨b1, o1, e2, h2⟩ := hcell2 j y hy
            exact ⟨b1, o1, e2, fun wx hb => h2.below hb⟩
          obtain ⟨ya, yn, yc, y0, y1, y2, y3, ys⟩ := hry wr HI.out
          have hyok := (HOK.out l HLR.out).2 y hyl
          have HYS := Lib.hid ys
          have C3 := Lib.hid fun (wx : World) (hs : SlAt 2 RngC wx (.slice ya yn yc) y.rs) => HRH.out y ya yn yc wx hs hyok
          rw [← HO.out] at C3
          dsimp only at C3
          rw [HO.out] at C3
          have o0 := (BO.out wr HI.out).cell 0 _ rfl
          have o1 := (BO.out wr HI.out).cell 1 _ rfl
          have o2 := (BO.out wr HI.out).cell 2 _ rfl
          have o3 := (BO.out wr HI.out).cell 3 _ rfl
          have o4 := (BO.out wr HI.out).cell 4 _ rfl
          have ol := (BO.out wr HI.out).lt
          have j0 : (0 : Int) ≤ (j : Int) := by omega
          have j1 : (j : Int) < (m : Int) := by omega
          have HB1 := Lib.hid HI.out
          obtain ⟨L1, hL1⟩ : ∃ L1, (l.take (j + 1)).all (Rul.relH · O) = L1 := ⟨_, rfl⟩
          rw [hL1] at HA2
          have HL1 := Lib.hid hL1
          clear hL1
          generalize (l.take j).all (Rul.relH · O) = L0 at *
          generalize Rul.relH y O = LY at *
          clear hry hy hyl hyok ys
          cases L0 with
          | true =>
            obtain rfl : L1 = LY := by rw [HA2.out]; rfl
            go_wp2_with fail
            refine wp_region_held_drew (S := fun w' => w'.cell? ⟨b, off + k, none⟩ = some (.slice (some ⟨b1, of1, none⟩) m pc) ∧ w'.cell? ⟨b1, of1 + j * 4, none⟩ = some (.int .u8 (y.op.toNat : Int)) ∧ w'.cell? ⟨b1, of1 + j * 4 + 1, none⟩ = some (.int .i64 y.mod) ∧ w'.cell? ⟨b1, of1 + j * 4 + 2, none⟩ = some (.bool y.no) ∧ w'.cell? ⟨b1, of1 + j * 4 + 3, none⟩ = some (.slice ya yn yc) ∧ w'.cell? ⟨w.heap.size, 0, none⟩ = some (.int .i64 oi) ∧ w'.cell? ⟨w.heap.size, 1, none⟩ = some (.int .i64 ov) ∧ w'.cell? ⟨w.heap.size, 2, none⟩ = some (.int .i64 ow) ∧ w'.cell? ⟨w.heap.size, 3, none⟩ = some (.int .i64 of) ∧ w'.cell? ⟨w.heap.size, 4, none⟩ = some (.int .i64 ot) ∧ Hid (SlAt 2 RngC w' (.slice ya yn yc) y.rs) ∧ Hid (Below v.heap.size v w')) (by kernel_rfl) (by exact ⟨by go_keep, by go_keep, by go_keep, by go_keep, by go_keep, by go_keep, by go_keep, by go_keep, by go_keep, by go_keep, Lib.hid (HYS.out.rngs_below (Below.drew (Below.refl _ _))), Lib.hid (Below.drew HB1.out)⟩) (fun hHeld => ?_)
            refine take_run (d := (some 23)) (v := ?v1) 0 rfl rfl (by kernel_rfl) (by kernel_rfl) (by kernel_rfl) (fun _ _ _ h => h) (by rfl) hHeld ?hy1 ?rs1
            case hy1 => (intro w hSw; (try dsimp only at hSw); go_simp) <;> (try with_reducible rfl)
            (try simp only [Act.put, List.setIfInBounds_toArray, List.set_cons_zero, List.set_cons_succ])
            refine take_run (d := (some 24)) (v := ?v2) 1 rfl rfl (by kernel_rfl) (by kernel_rfl) (by kernel_rfl) (fun _ _ _ h => h) (by rfl) hHeld ?hy2 ?rs2
            case hy2 => (intro w hSw; (try dsimp only at hSw); go_simp) <;> (try with_reducible rfl)
            (try simp only [Act.put, List.setIfInBounds_toArray, List.set_cons_zero, List.set_cons_succ])
            refine take_run (d := (some 25)) (v := ?v3) 2 rfl rfl (by kernel_rfl) (by kernel_rfl) (by kernel_rfl) (fun _ _ _ h => h) (by rfl) hHeld ?hy3 ?rs3
            case hy3 => (intro w hSw; (try dsimp only at hSw); go_simp) <;> (try with_reducible rfl)
            (try simp only [Act.put, List.setIfInBounds_toArray, List.set_cons_zero, List.set_cons_succ])
            refine take_run (d := (some 26)) (v := ?v4) 3 rfl rfl (by kernel_rfl) (by kernel_rfl) (by kernel_rfl) (fun _ _ _ h => h) (by rfl) hHeld ?hy4 ?rs4
            case hy4 => (intro w hSw; (try dsimp only at hSw); go_simp) <;> (try with_reducible rfl)
            (try simp only [Act.put, List.setIfInBounds_toArray, List.set_cons_zero, List.set_cons_succ])
            refine take_run (d := (some 27)) (v := ?v5) 4 rfl rfl (by kernel_rfl) (by kernel_rfl) (by kernel_rfl) (fun _ _ _ h => h) (by rfl) hHeld ?hy5 ?rs5
            case hy5 => (intro w hSw; (try dsimp only at hSw); go_simp) <;> (try with_reducible rfl)
            (try simp only [Act.put, List.setIfInBounds_toArray, List.set_cons_zero, List.set_cons_succ])
            refine take_run (d := (some 28)) (v := ?v6) 5 rfl rfl (by kernel_rfl) (by kernel_rfl) (by kernel_rfl) (fun _ _ _ h => h) (by rfl) hHeld ?hy6 ?rs6
            case hy6 => (intro w hSw; (try dsimp only at hSw); go_simp) <;> (try with_reducible rfl)
            (try simp only [Act.put, List.setIfInBounds_toArray, List.set_cons_zero, List.set_cons_succ])
            refine take_run (d := (some 29)) (v := ?v7) 6 rfl rfl (by kernel_rfl) (by kernel_rfl) (by kernel_rfl) (fun _ _ _ h => h) (by rfl) hHeld ?hy7 ?rs7
            case hy7 => (intro w hSw; (try dsimp only at hSw); go_simp) <;> (try with_reducible rfl)
            (try simp only [Act.put, List.setIfInBounds_toArray, List.set_cons_zero, List.set_cons_succ])
            refine take_run (d := (some 30)) (v := ?v8) 7 rfl rfl (by kernel_rfl) (by kernel_rfl) (by kernel_rfl) (fun _ _ _ h => h) (by rfl) hHeld ?hy8 ?rs8
            case hy8 => (intro w hSw; (try dsimp only at hSw); go_simp) <;> (try with_reducible rfl)
            (try simp only [Act.put, List.setIfInBounds_toArray, List.set_cons_zero, List.set_cons_succ])
            refine take_run (d := (some 31)) (v := ?v9) 8 rfl rfl (by kernel_rfl) (by kernel_rfl) (by kernel_rfl) (fun _ _ _ h => h) (by rfl) hHeld ?hy9 ?rs9
            case hy9 => (intro w hSw; (try dsimp only at hSw); go_simp) <;> (try with_reducible rfl)
            (try simp only [Act.put, List.setIfInBounds_toArray, List.set_cons_zero, List.set_cons_succ])
            refine take_run (d := (some 32)) (v := ?v10) 9 rfl rfl (by kernel_rfl) (by kernel_rfl) (by kernel_rfl) (fun _ _ _ h => h) (by rfl) hHeld ?hy10 ?rs10
            case hy10 => (intro w hSw; (try dsimp only at hSw); go_simp) <;> (try with_reducible rfl)
            (try simp only [Act.put, List.setIfInBounds_toArray, List.set_cons_zero, List.set_cons_succ])
            refine take_call 10 rfl (by kernel_rfl) (by rfl) (fun K hK => ?_)
            go_simp
            refine (C3.out _ (by obtain ⟨_, _, _, _, _, _, _, _, _, _, h1, _⟩ := hHeld; exact h1.out)).mono ?_
            rintro e w' ⟨rfl, hb⟩
            refine hK.out _ _ (by obtain ⟨h0, h1, h2, h3, h4, h5, h6, h7, h8, h9, h10, hw⟩ := hHeld; exact ⟨cell_keep h0 hb, cell_keep h1 hb, cell_keep h2 hb, cell_keep h3 hb, cell_keep h4 hb, cell_keep h5 hb, cell_keep h6 hb, cell_keep h7 hb, cell_keep h8 hb, cell_keep h9 hb, Lib.hid (h10.out.rngs_below hb), Lib.hid (blw_trans hw.out hb)⟩) (fun hHeld => ?_)
            clear hK K
            (try simp only [Act.put, List.setIfInBounds_toArray, List.set_cons_zero, List.set_cons_succ])
            refine take_run (d := (some 34)) (v := ?v12) 11 rfl rfl (by kernel_rfl) (by kernel_rfl) (by kernel_rfl) (fun _ _ _ h => h) (by rfl) hHeld ?hy12 ?rs12
            case hy12 => (intro w hSw; (try dsimp only at hSw); go_simp) <;> (try with_reducible rfl)
            (try simp only [Act.put, List.setIfInBounds_toArray, List.set_cons_zero, List.set_cons_succ])
            refine take_run (d := (some 6)) (v := ?v13) 12 rfl rfl (by kernel_rfl) (by kernel_rfl) (by kernel_rfl) (fun _ _ _ h => h) (by rfl) hHeld ?hy13 ?rs13
            case hy13 => (intro w hSw; (try dsimp only at hSw); go_simp) <;> (try with_reducible rfl)
            (try simp only [Act.put, List.setIfInBounds_toArray, List.set_cons_zero, List.set_cons_succ])
            refine wpAnyH_done (by kernel_rfl) ?_ _
            obtain ⟨z0, z1, z2, z3, z4, z5, z6, z7, z8, z9, z10, zW⟩ := hHeld
            clear z0 z1 z2 z3 z4 z5 z6 z7 z8 z9 z10 C3
            go_wp2_with fail
            go_roundw
            case rel => exact ⟨j + 1, by go_num, by omega, by rw [HL1.out], zW⟩
            case measure => simp [RowKit.intOf]; omega
          | false =>
            obtain rfl : L1 = false := by rw [HA2.out]; rfl
            go_wp2_with fail
            refine wp_region_held_drew (S := fun w' => w'.cell? ⟨b, off + k, none⟩ = some (.slice (some ⟨b1, of1, none⟩) m pc) ∧ w'.cell? ⟨b1, of1 + j * 4, none⟩ = some (.int .u8 (y.op.toNat : Int)) ∧ w'.cell? ⟨b1, of1 + j * 4 + 1, none⟩ = some (.int .i64 y.mod) ∧ w'.cell? ⟨b1, of1 + j * 4 + 2, none⟩ = some (.bool y.no) ∧ w'.cell? ⟨b1, of1 + j * 4 + 3, none⟩ = some (.slice ya yn yc) ∧ w'.cell? ⟨w.heap.size, 0, none⟩ = some (.int .i64 oi) ∧ w'.cell? ⟨w.heap.size, 1, none⟩ = some (.int .i64 ov) ∧ w'.cell? ⟨w.heap.size, 2, none⟩ = some (.int .i64 ow) ∧ w'.cell? ⟨w.heap.size, 3, none⟩ = some (.int .i64 of) ∧ w'.cell? ⟨w.heap.size, 4, none⟩ = some (.int .i64 ot) ∧ Hid (SlAt 2 RngC w' (.slice ya yn yc) y.rs) ∧ Hid (Below v.heap.size v w')) (by kernel_rfl) (by exact ⟨by go_keep, by go_keep, by go_keep, by go_keep, by go_keep, by go_keep, by go_keep, by go_keep, by go_keep, by go_keep, Lib.hid (HYS.out.rngs_below (Below.drew (Below.refl _ _))), Lib.hid (Below.drew HB1.out)⟩) (fun hHeld => ?_)
            refine take_run (d := (some 23)) (v := ?v14) 0 rfl rfl (by kernel_rfl) (by kernel_rfl) (by kernel_rfl) (fun _ _ _ h => h) (by rfl) hHeld ?hy14 ?rs14
            case hy14 => (intro w hSw; (try dsimp only at hSw); go_simp) <;> (try with_reducible rfl)
            (try simp only [Act.put, List.setIfInBounds_toArray, List.set_cons_zero, List.set_cons_succ])
            refine take_run (d := (some 24)) (v := ?v15) 1 rfl rfl (by kernel_rfl) (by kernel_rfl) (by kernel_rfl) (fun _ _ _ h => h) (by rfl) hHeld ?hy15 ?rs15
            case hy15 => (intro w hSw; (try dsimp only at hSw); go_simp) <;> (try with_reducible rfl)
            (try simp only [Act.put, List.setIfInBounds_toArray, List.set_cons_zero, List.set_cons_succ])
            refine take_skip (d := (some 25)) 2 rfl rfl (by kernel_rfl) (by kernel_rfl) (by kernel_rfl) (fun _ _ _ h => h) (by rfl) hHeld ?_
            (try simp only [Act.put, List.setIfInBounds_toArray, List.set_cons_zero, List.set_cons_succ])
            refine take_skip (d := (some 26)) 3 rfl rfl (by kernel_rfl) (by kernel_rfl) (by kernel_rfl) (fun _ _ _ h => h) (by rfl) hHeld ?_
            (try simp only [Act.put, List.setIfInBounds_toArray, List.set_cons_zero, List.set_cons_succ])
            refine take_skip (d := (some 27)) 4 rfl rfl (by kernel_rfl) (by kernel_rfl) (by kernel_rfl) (fun _ _ _ h => h) (by rfl) hHeld ?_
            (try simp only [Act.put, List.setIfInBounds_toArray, List.set_cons_zero, List.set_cons_succ])
            refine take_skip (d := (some 28)) 5 rfl rfl (by kernel_rfl) (by kernel_rfl) (by kernel_rfl) (fun _ _ _ h => h) (by rfl) hHeld ?_
            (try simp only [Act.put, List.setIfInBounds_toArray, List.set_cons_zero, List.set_cons_succ])
            refine take_skip (d := (some 29)) 6 rfl rfl (by kernel_rfl) (by kernel_rfl) (by kernel_rfl) (fun _ _ _ h => h) (by rfl) hHeld ?_
            (try simp only [Act.put, List.setIfInBounds_toArray, List.set_cons_zero, List.set_cons_succ])
            refine take_skip (d := (some 30)) 7 rfl rfl (by kernel_rfl) (by kernel_rfl) (by kernel_rfl) (fun _ _ _ h => h) (by rfl) hHeld ?_
            (try simp only [Act.put, List.setIfInBounds_toArray, List.set_cons_zero, List.set_cons_succ])
            refine take_skip (d := (some 31)) 8 rfl rfl (by kernel_rfl) (by kernel_rfl) (by kernel_rfl) (fun _ _ _ h => h) (by rfl) hHeld ?_
            (try simp only [Act.put, List.setIfInBounds_toArray, List.set_cons_zero, List.set_cons_succ])
            refine take_skip (d := (some 32)) 9 rfl rfl (by kernel_rfl) (by kernel_rfl) (by kernel_rfl) (fun _ _ _ h => h) (by rfl) hHeld ?_
            (try simp only [Act.put, List.setIfInBounds_toArray, List.set_cons_zero, List.set_cons_succ])
            refine take_skip (d := (some 33)) 10 rfl rfl (by kernel_rfl) (by kernel_rfl) (by kernel_rfl) (fun _ _ _ h => h) (by rfl) hHeld ?_
            (try simp only [Act.put, List.setIfInBounds_toArray, List.set_cons_zero, List.set_cons_succ])
            refine take_run (d := (some 34)) (v := ?v25) 11 rfl rfl (by kernel_rfl) (by kernel_rfl) (by kernel_rfl) (fun _ _ _ h => h) (by rfl) hHeld ?hy25 ?rs25
            case hy25 => (intro w hSw; (try dsimp only at hSw); go_simp) <;> (try with_reducible rfl)
            (try simp only [Act.put, List.setIfInBounds_toArray, List.set_cons_zero, List.set_cons_succ])
            refine take_run (d := (some 6)) (v := ?v26) 12 rfl rfl (by kernel_rfl) (by kernel_rfl) (by kernel_rfl) (fun _ _ _ h => h) (by rfl) hHeld ?hy26 ?rs26
            case hy26 => (intro w hSw; (try dsimp only at hSw); go_simp) <;> (try with_reducible rfl)
            (try simp only [Act.put, List.setIfInBounds_toArray, List.set_cons_zero, List.set_cons_succ])
            refine wpAnyH_done (by kernel_rfl) ?_ _
            obtain ⟨z0, z1, z2, z3, z4, z5, z6, z7, z8, z9, z10, zW⟩ := hHeld
            clear z0 z1 z2 z3 z4 z5 z6 z7 z8 z9 z10 C3
            go_wp2_with fail
            go_roundw
            case rel => exact ⟨j + 1, by go_num, by omega, by rw [HL1.out], zW⟩
            case measure => simp [RowKit.intOf]; omega
        · have e : j = m := by omega
          subst e
          have HF := Lib.hid (show (l.take j).all (Rul.relH · O) = PH1 by rw [HPH.out, List.take_of_length_le (by have := HM.out; omega)])
          rw [HF.out]
          clear HF
          have ht := HK.out
          cases PH1 with
          | true =>
            have hfin : RH = true := by
              rw [HH.out, List.any_eq_true]
              exact ⟨l, HLR.out, by rw [show Rul.partH l O = l.all (Rul.relH · O) from rfl, ← HPH.out]⟩
            go_wp2_with fail
            go_ret
            exact ⟨ret_bool (by rw [hfin]), W0.out.trans (HI.out.mono W0.out.size)⟩
          | false =>
            go_wp2_with fail
            go_roundw
            case rel => exact ⟨k + 1, by go_num, by omega, Lib.hid (by rw [HAN1.out, HA.out, HANY.out]; rfl), HI⟩
            case measure => simp [RowKit.intOf]; omega
    · have e : k = n := by omega
      subst e
      have hfin : RH = false := by rw [HH.out]; have := HANY.out; rwa [List.take_of_length_le (by have := HN.out; omega)] at this
      go_wp2_with fail
      go_ret
      exact ⟨ret_bool (by rw [hfin]), W0.out.trans (HD.out.mono W0.out.size)⟩
theorem rhr_any (r : Rul.Rule) (A : Option Addr) (n c : Nat) (o : Rul.Op5) (w : World) (hr : SlAt 1 PartC w (.slice A n c) r) (hE : Rul.ruleE r = 0) :
    Calls Tryz.prog 26 #[.slice A n c, .agg #[.int .i64 o.i, .int .i64 o.v, .int .i64 o.w, .int .i64 o.f, .int .i64 o.t]] w fun e w' => e = .returned (.bool (Rul.ruleH r o)) ∧ Below w.heap.size w w' := by
  obtain ⟨hs, hc⟩ := Rul.ruleE_zero.1 hE
  rcases hr with ⟨rfl, a, c', e⟩ | ⟨b, off, cap, e, h0, _, _, h3⟩
  · exact absurd rfl (Rul.shape_parts hs).1
  · injection e with e1 e2 e3
    subst e1 e2 e3
    exact rhr_some r b off _ _ o.i o.v o.w o.f o.t w rfl (by have := Rul.len_count (fun l hl => (Rul.part_parts ((Rul.shape_parts hs).2 l hl)).1); omega) hE h3
end Go.Proofs.YtaijjffnamjhiaaGreatDoor
