/- The walks of prop.key and prop.Tag. Conditions: the text is short; the library's variable MaxLen holds a number. -/
import Derived.Test.YtghohnbajbikjaaGreatDoorUnP
import Derived.Test.YtghohnbajbikjaaGreatDoorTa1
import Derived.Test.YtghohnbajbikjaaGreatDoorShelfG
namespace Go.Proofs.YtghohnbajbikjaaGreatDoor
open Go.RowKit
namespace Tn
theorem key_small : ∀ b ∈ keyL, b.toNat < 128 := by decide
theorem trimK_any (s : List UInt8) (w : World) (hs : s.length ≤ 4000000000) :
    Calls Tryz.prog 50 #[.string ⟨s.toArray⟩, .string ⟨#[97, 98, 99, 100, 101, 102, 103, 104, 105, 106, 107, 108, 109, 110, 111, 112, 113, 114, 115, 116, 117, 118, 119, 120, 121, 122, 48, 49, 50, 51, 52, 53, 54, 55, 56, 57, 46, 95]⟩] w fun e w' => e = .returned (.string ⟨(Lib.trimS s keyL).toArray⟩) ∧ Below w.heap.size w w' :=
  Any.strings_Trim_laid Tryz.lays160 (by kernel_rfl) ⟨s.toArray⟩ ⟨keyL.toArray⟩ w (by rw [size_mkl]; omega) (by decide) (fun j b hb => key_small b (List.mem_of_getElem? (i := j) hb))

set_option maxRecDepth 100000 in
set_option maxHeartbeats 2000000 in
theorem pkey_any (s : List UInt8) (w : World) (hs : s.length ≤ 4000000000) :
    Calls Tryz.prog 29 #[.string ⟨s.toArray⟩] w fun e w' => e = .returned (.bool (keyB s)) ∧ Below w.heap.size w w' := by
  cases s with
  | nil =>
    go_enter Tryz.func29, Tryz.ntmps29
    go_wp2_with fail
    go_ret
    exact ⟨ret_bool (by decide), Below.refl _ _⟩
  | cons x r =>
    have CT := Lib.hid fun w => trimK_any (x :: r) w hs
    have HD : Hid ((x :: r).all (fun c => keyL.contains c) = decide (Lib.trimS (x :: r) keyL = [])) := Lib.hid (by
      rw [Bool.eq_iff_iff, decide_eq_true_iff, trim_none])
    have e0 : keyB (x :: r) = (decide ((x :: r).length ≤ 40) && (x :: r).all (fun c => keyL.contains c)) := rfl
    rw [e0]
    have hne : (x :: r).isEmpty = false := rfl
    have hn0 : ((x :: r) == []) = false := rfl
    generalize (x :: r).all (fun c => keyL.contains c) = A at *
    generalize Lib.trimS (x :: r) keyL = T at *
    generalize hS : x :: r = S at *
    clear hS e0 hs
    by_cases h5 : S.length ≤ 40
    · have h6 : (S.length : Int) ≤ 40 := by omega
      rw [decide_eq_true h5]
      cases T with
      | nil =>
        go_enter Tryz.func29, Tryz.ntmps29
        go_wp2_with fail
        refine (CT.out _).mono ?_
        rintro e w1 ⟨rfl, hb⟩
        have W := Lib.hid hb
        clear hb
        go_wp2_with fail
        go_ret
        exact ⟨ret_bool (by rw [HD.out]; simp), W.out⟩
      | cons y z =>
        go_enter Tryz.func29, Tryz.ntmps29
        go_wp2_with fail
        refine (CT.out _).mono ?_
        rintro e w1 ⟨rfl, hb⟩
        have W := Lib.hid hb
        clear hb
        go_wp2_with fail
        go_ret
        exact ⟨ret_bool (by rw [HD.out]; simp), W.out⟩
    · have h6 : ¬ (S.length : Int) ≤ 40 := by omega
      rw [decide_eq_false h5]
      go_enter Tryz.func29, Tryz.ntmps29
      go_wp2_with fail
      go_ret
      exact ⟨ret_bool (by simp), Below.refl _ _⟩

theorem readE_yes {s : List UInt8} (h : readOk s = true) : errE (if readOk s then 0 else 3) = .nilIface := by rw [h]; rfl
theorem readE_no {s : List UInt8} (h : readOk s = false) : errE (if readOk s then 0 else 3) = errV 3 := by rw [h]; rfl
theorem parse_at (s : List UInt8) (t : Tg) (E : Value) (ht : readT s = t) (ho : errE (if readOk s then 0 else 3) = E) (w : World) (hM : MaxW w) (hs : s.length ≤ 10000000) :
    Calls Tryz.prog 5 #[.string ⟨s.toArray⟩] w fun e w' => ∃ a n c, e = .returned (.tuple #[.agg #[.string ⟨t.l.toArray⟩, .string ⟨t.s.toArray⟩, .string ⟨t.r.toArray⟩, .slice a n c], E]) ∧ StrsAt w' (.slice a n c) t.vs ∧ Nil0 (.slice a n c) ∧ Below w.heap.size w w' := by
  subst ht ho
  refine (tparse_any s w hM hs).mono ?_
  rintro e w' ⟨V, rfl, hV, h0, hb⟩
  obtain ⟨a, n, c, rfl⟩ := hV.isSlice
  exact ⟨a, n, c, rfl, hV, h0, hb⟩
theorem readT_bulk (s : List UInt8) : (readT s).bulk ≤ s.length := by
  unfold Tg.bulk readT readTag
  cases e : Lib.split (s.map lowC) [45] with
  | nil => simp [noTag, Lib.lens]
  | cons a T =>
    have h := split_small (s.map lowC) e
    have h1 := cutS_small PS1 T
    have h2 := cutR_small PR1 (cutS PS1 T).2
    rw [List.length_map] at h
    dsimp only
    split
    · dsimp only [Option.getD]; omega
    · simp [noTag, Lib.lens]

set_option maxRecDepth 100000 in
set_option maxHeartbeats 2000000 in
theorem ptag_any (s : List UInt8) (w : World) (hM : MaxW w) (hs : s.length ≤ 10000000) :
    Calls Tryz.prog 12 #[.string ⟨s.toArray⟩] w fun e w' => e = .returned (.bool (tagB s)) ∧ Below w.heap.size w w' := by
  have hbk := readT_bulk s
  have HB := Lib.hid (show tagB s = (readOk s && ((readT s).txt == s)) from rfl)
  have CX := Lib.hid fun (t : Tg) V wx hv hz (hx : t.bulk ≤ 100000000) => text_any t.l t.s t.r t.vs V wx hv hz (by unfold Tg.bulk at hx; omega)
  have HX := Lib.hid (show ∀ t : Tg, tagText t.l t.s t.r t.vs = t.txt from fun _ => rfl)
  obtain ⟨ok, hok⟩ : ∃ ok, readOk s = ok := ⟨_, rfl⟩
  obtain ⟨t, ht⟩ : ∃ t, readT s = t := ⟨_, rfl⟩
  rw [ht] at hbk HB
  rw [hok] at HB
  obtain ⟨TB, hTB⟩ : ∃ b, tagB s = b := ⟨_, rfl⟩
  rw [hTB] at HB
  rw [hTB]
  clear hTB
  cases ok with
  | false =>
    have CP := Lib.hid fun wx hM => parse_at s t (errV 3) ht (readE_no hok) wx hM hs
    clear hok ht
    go_enter Tryz.func12, Tryz.ntmps12
    go_wp2_with fail
    refine (CP.out _ (by first | exact hM | exact hM.alloc _)).mono ?_
    rintro e w1 ⟨a, n, c, rfl, hv, hz, hb⟩
    have W := Lib.hid hb
    clear hv hz hb
    go_wp2_with fail
    go_ret
    exact ⟨ret_bool (by rw [HB.out]; simp), by repeat (first | exact W.out | refine Below.alloc ?_ (by first | (simp; done) | omega | exact W.out.size) _ | refine Below.setCell ?_ (by first | (simp; done) | omega | exact W.out.size) _)⟩
  | true =>
    have CP := Lib.hid fun wx hM => parse_at s t .nilIface ht (readE_yes hok) wx hM hs
    clear hok ht
    go_enter Tryz.func12, Tryz.ntmps12
    go_wp2_with fail
    refine (CP.out _ (by first | exact hM | exact hM.alloc _)).mono ?_
    rintro e w1 ⟨a, n, c, rfl, hv, hz, hb⟩
    have W := Lib.hid hb
    have HV := Lib.hid hv
    have HZ := Lib.hid hz
    clear hv hz hb
    go_wp2_with fail
    refine (CX.out t _ _ (by first | exact HV.out | exact HV.out.alloc _) HZ.out (by omega)).mono ?_
    rintro e w2 ⟨rfl, hb⟩
    rw [HX.out]
    have W2 := Lib.hid (blw_trans (blw_trans W.out (blw_alloc _ _)) hb)
    clear hb
    generalize t.txt = X at *
    go_wp2_with fail
    go_ret
    exact ⟨ret_bool (by rw [HB.out]; simp), W2.out⟩
end Tn
end Go.Proofs.YtghohnbajbikjaaGreatDoor
