/- The walks of tag.low, high, digit, both, and of made at each of them. -/
import Derived.Test.YtlhleojigcnjeaaDoorOnly
import Derived.Test.YtlhleojigcnjeaaDoorOwn
namespace Go.Proofs.YtlhleojigcnjeaaDoor
open Go.RowKit

abbrev LOW : List UInt8 := [97, 98, 99, 100, 101, 102, 103, 104, 105, 106, 107, 108, 109, 110, 111, 112, 113, 114, 115, 116, 117, 118, 119, 120, 121, 122]
abbrev HIGH : List UInt8 := [65, 66, 67, 68, 69, 70, 71, 72, 73, 74, 75, 76, 77, 78, 79, 80, 81, 82, 83, 84, 85, 86, 87, 88, 89, 90]
abbrev DIG : List UInt8 := [48, 49, 50, 51, 52, 53, 54, 55, 56, 57]
theorem each_byte (P : UInt8 → Prop) (h : ∀ n, n < 256 → P (UInt8.ofNat n)) (c : UInt8) : P c := by
  have := h c.toNat c.toNat_lt
  simpa using this
theorem low_in (c : UInt8) : LOW.contains c = (decide (97 ≤ (c.toNat : Int)) && decide ((c.toNat : Int) ≤ 122)) :=
  each_byte (fun c => LOW.contains c = (decide (97 ≤ (c.toNat : Int)) && decide ((c.toNat : Int) ≤ 122))) (by decide +kernel) c
theorem high_in (c : UInt8) : HIGH.contains c = (decide (65 ≤ (c.toNat : Int)) && decide ((c.toNat : Int) ≤ 90)) :=
  each_byte (fun c => HIGH.contains c = (decide (65 ≤ (c.toNat : Int)) && decide ((c.toNat : Int) ≤ 90))) (by decide +kernel) c
theorem dig_in' (c : UInt8) : DIG.contains c = (decide (48 ≤ (c.toNat : Int)) && decide ((c.toNat : Int) ≤ 57)) :=
  each_byte (fun c => DIG.contains c = (decide (48 ≤ (c.toNat : Int)) && decide ((c.toNat : Int) ≤ 57))) (by decide +kernel) c

set_option maxRecDepth 100000 in
set_option maxHeartbeats 1000000 in
theorem low_any (c : UInt8) (w : World) :
    Calls Tryd.prog 41 #[.int .u8 (c.toNat : Int)] w fun e w' => e = .returned (.bool (LOW.contains c)) ∧ w = w' := by
  have HP := Lib.hid (low_in c)
  generalize LOW.contains c = B at *
  by_cases h1 : 97 ≤ (c.toNat : Int)
  · have d1 : decide (97 ≤ (c.toNat : Int)) = true := dec_yes h1
    by_cases h2 : (c.toNat : Int) ≤ 122
    · have d2 : decide ((c.toNat : Int) ≤ 122) = true := dec_yes h2
      have HB := Lib.hid (show B = true by rw [HP.out, d1, d2]; rfl)
      go_enter Tryd.func41, Tryd.ntmps41
      go_wp2
      go_ret
      exact ⟨ret_bool (by rw [HB.out]), rfl⟩
    · have d2 : decide ((c.toNat : Int) ≤ 122) = false := dec_no h2
      have HB := Lib.hid (show B = false by rw [HP.out, d1, d2]; rfl)
      go_enter Tryd.func41, Tryd.ntmps41
      go_wp2
      go_ret
      exact ⟨ret_bool (by rw [HB.out]), rfl⟩
  · have d1 : decide (97 ≤ (c.toNat : Int)) = false := dec_no h1
    have HB := Lib.hid (show B = false by rw [HP.out, d1]; rfl)
    go_enter Tryd.func41, Tryd.ntmps41
    go_wp2
    go_ret
    exact ⟨ret_bool (by rw [HB.out]), rfl⟩

set_option maxRecDepth 100000 in
set_option maxHeartbeats 1000000 in
theorem high_any (c : UInt8) (w : World) :
    Calls Tryd.prog 69 #[.int .u8 (c.toNat : Int)] w fun e w' => e = .returned (.bool (HIGH.contains c)) ∧ w = w' := by
  have HP := Lib.hid (high_in c)
  generalize HIGH.contains c = B at *
  by_cases h1 : 65 ≤ (c.toNat : Int)
  · have d1 : decide (65 ≤ (c.toNat : Int)) = true := dec_yes h1
    by_cases h2 : (c.toNat : Int) ≤ 90
    · have d2 : decide ((c.toNat : Int) ≤ 90) = true := dec_yes h2
      have HB := Lib.hid (show B = true by rw [HP.out, d1, d2]; rfl)
      go_enter Tryd.func69, Tryd.ntmps69
      go_wp2
      go_ret
      exact ⟨ret_bool (by rw [HB.out]), rfl⟩
    · have d2 : decide ((c.toNat : Int) ≤ 90) = false := dec_no h2
      have HB := Lib.hid (show B = false by rw [HP.out, d1, d2]; rfl)
      go_enter Tryd.func69, Tryd.ntmps69
      go_wp2
      go_ret
      exact ⟨ret_bool (by rw [HB.out]), rfl⟩
  · have d1 : decide (65 ≤ (c.toNat : Int)) = false := dec_no h1
    have HB := Lib.hid (show B = false by rw [HP.out, d1]; rfl)
    go_enter Tryd.func69, Tryd.ntmps69
    go_wp2
    go_ret
    exact ⟨ret_bool (by rw [HB.out]), rfl⟩

set_option maxRecDepth 100000 in
set_option maxHeartbeats 1000000 in
theorem digit_any (c : UInt8) (w : World) :
    Calls Tryd.prog 70 #[.int .u8 (c.toNat : Int)] w fun e w' => e = .returned (.bool (DIG.contains c)) ∧ w = w' := by
  have HP := Lib.hid (dig_in' c)
  generalize DIG.contains c = B at *
  by_cases h1 : 48 ≤ (c.toNat : Int)
  · have d1 : decide (48 ≤ (c.toNat : Int)) = true := dec_yes h1
    by_cases h2 : (c.toNat : Int) ≤ 57
    · have d2 : decide ((c.toNat : Int) ≤ 57) = true := dec_yes h2
      have HB := Lib.hid (show B = true by rw [HP.out, d1, d2]; rfl)
      go_enter Tryd.func70, Tryd.ntmps70
      go_wp2
      go_ret
      exact ⟨ret_bool (by rw [HB.out]), rfl⟩
    · have d2 : decide ((c.toNat : Int) ≤ 57) = false := dec_no h2
      have HB := Lib.hid (show B = false by rw [HP.out, d1, d2]; rfl)
      go_enter Tryd.func70, Tryd.ntmps70
      go_wp2
      go_ret
      exact ⟨ret_bool (by rw [HB.out]), rfl⟩
  · have d1 : decide (48 ≤ (c.toNat : Int)) = false := dec_no h1
    have HB := Lib.hid (show B = false by rw [HP.out, d1]; rfl)
    go_enter Tryd.func70, Tryd.ntmps70
    go_wp2
    go_ret
    exact ⟨ret_bool (by rw [HB.out]), rfl⟩

set_option maxRecDepth 100000 in
set_option maxHeartbeats 1000000 in
theorem both_any (c : UInt8) (w : World) :
    Calls Tryd.prog 51 #[.int .u8 (c.toNat : Int)] w fun e w' => e = .returned (.bool ((LOW ++ DIG).contains c)) ∧ w = w' := by
  have CL := Lib.hid fun w => low_any c w
  have CD := Lib.hid fun w => digit_any c w
  have HP := Lib.hid (show (LOW ++ DIG).contains c = (LOW.contains c || DIG.contains c) by rw [Bool.eq_iff_iff, Bool.or_eq_true]; simp only [List.contains_iff_mem, List.mem_append])
  generalize (LOW ++ DIG).contains c = B at *
  generalize LOW.contains c = x at *
  generalize DIG.contains c = y at *
  cases x
  · go_enter Tryd.func51, Tryd.ntmps51
    go_wp2_with fail
    refine (CL.out _).mono ?_
    rintro e w' ⟨rfl, rfl⟩
    go_wp2_with fail
    refine (CD.out _).mono ?_
    rintro e w' ⟨rfl, rfl⟩
    go_wp2_with fail
    go_ret
    exact ⟨ret_bool (by rw [HP.out]; simp), rfl⟩
  · go_enter Tryd.func51, Tryd.ntmps51
    go_wp2_with fail
    refine (CL.out _).mono ?_
    rintro e w' ⟨rfl, rfl⟩
    go_wp2_with fail
    go_ret
    exact ⟨ret_bool (by rw [HP.out]; simp), rfl⟩

set_option maxRecDepth 100000 in
set_option maxHeartbeats 1000000 in
theorem made_low (s : List UInt8) (f t : Int) (w : World) (hs : s.length ≤ 4000000000) :
    Calls Tryd.prog 42 #[.func (.func 41) #[] #[], .string ⟨s.toArray⟩, .int .i64 f, .int .i64 t] w fun e w' => e = .returned (.bool (onlyB s LOW f t)) ∧ w = w' := by
  generalize HPOST : onlyB s LOW f t = POST
  have HP := Lib.hid HPOST
  clear HPOST
  go_enter Tryd.func42, Tryd.ntmps42
  go_wp2_with fail
  go_loop [9, 12] (fun _ i => ∃ k : Nat, i = .int .i64 k ∧ k ≤ s.length ∧ Hid ((s.take k).all (fun c => LOW.contains c) = true)) (fun _ i => s.length - (RowKit.intOf i).toNat)
  case atStart => exact ⟨0, rfl, Nat.zero_le _, Lib.hid rfl⟩
  case round =>
    obtain ⟨k, rfl, hk, HA⟩ := hrel
    by_cases hlt : k < s.length
    · obtain ⟨c, hc⟩ : ∃ c, s[k]? = some c := ⟨s[k], List.getElem?_eq_getElem hlt⟩
      have IX := fun w => index_str (P := Tryd.prog) 9 Tryd.underlying9 s .i64 k c hc w
      have CC := Lib.hid fun w => low_any c w
      have HT := Lib.hid (show LOW.contains c = true → (s.take (k + 1)).all (fun c => LOW.contains c) = true from fun hin => by
        rw [List.take_add_one, hc, List.all_append, HA.out]; simpa using hin)
      have HF := Lib.hid (show LOW.contains c = false → onlyB s LOW f t = false from fun hin => by
        unfold onlyB
        rw [show s.all (fun c => LOW.contains c) = false from List.all_eq_false.2 ⟨c, List.mem_of_getElem? hc, by rw [hin]; decide⟩]
        rfl)
      clear hc
      generalize LOW.contains c = b at *
      cases b
      · have HN := Lib.hid (HF.out rfl)
        clear HF HT
        go_wp2_with fail
        refine (CC.out _).mono ?_
        rintro e w' ⟨rfl, rfl⟩
        go_wp2_with fail
        go_ret
        exact ⟨ret_bool (by rw [← HP.out, HN.out]), rfl⟩
      · have HN := Lib.hid (HT.out rfl)
        clear HF HT
        go_wp2_with fail
        refine (CC.out _).mono ?_
        rintro e w' ⟨rfl, rfl⟩
        go_wp2_with fail
        first | (go_round; case rel => exact ⟨k + 1, by go_num, by omega, HN⟩; case measure => simp [RowKit.intOf]; omega) | exact ⟨⟨k + 1, by go_num, by omega, HN⟩, by simp [RowKit.intOf]; omega⟩
    · have HN := Lib.hid (show onlyB s LOW f t = (decide (f ≤ (s.length : Int)) && decide ((s.length : Int) ≤ t)) by
        have h := HA.out
        rw [List.take_of_length_le (by omega)] at h
        unfold onlyB; rw [h]; rfl)
      by_cases h1 : f ≤ (s.length : Int)
      · have e1 : decide (f ≤ (s.length : Int)) = true := dec_yes h1
        go_wp2_with fail
        go_ret
        exact ⟨ret_bool (by rw [← HP.out, HN.out, e1]; first | rfl | simp), rfl⟩
      · have e1 : decide (f ≤ (s.length : Int)) = false := dec_no h1
        go_wp2_with fail
        go_ret
        exact ⟨ret_bool (by rw [← HP.out, HN.out, e1]; first | rfl | simp), rfl⟩

set_option maxRecDepth 100000 in
set_option maxHeartbeats 1000000 in
theorem made_high (s : List UInt8) (f t : Int) (w : World) (hs : s.length ≤ 4000000000) :
    Calls Tryd.prog 42 #[.func (.func 69) #[] #[], .string ⟨s.toArray⟩, .int .i64 f, .int .i64 t] w fun e w' => e = .returned (.bool (onlyB s HIGH f t)) ∧ w = w' := by
  generalize HPOST : onlyB s HIGH f t = POST
  have HP := Lib.hid HPOST
  clear HPOST
  go_enter Tryd.func42, Tryd.ntmps42
  go_wp2_with fail
  go_loop [9, 12] (fun _ i => ∃ k : Nat, i = .int .i64 k ∧ k ≤ s.length ∧ Hid ((s.take k).all (fun c => HIGH.contains c) = true)) (fun _ i => s.length - (RowKit.intOf i).toNat)
  case atStart => exact ⟨0, rfl, Nat.zero_le _, Lib.hid rfl⟩
  case round =>
    obtain ⟨k, rfl, hk, HA⟩ := hrel
    by_cases hlt : k < s.length
    · obtain ⟨c, hc⟩ : ∃ c, s[k]? = some c := ⟨s[k], List.getElem?_eq_getElem hlt⟩
      have IX := fun w => index_str (P := Tryd.prog) 9 Tryd.underlying9 s .i64 k c hc w
      have CC := Lib.hid fun w => high_any c w
      have HT := Lib.hid (show HIGH.contains c = true → (s.take (k + 1)).all (fun c => HIGH.contains c) = true from fun hin => by
        rw [List.take_add_one, hc, List.all_append, HA.out]; simpa using hin)
      have HF := Lib.hid (show HIGH.contains c = false → onlyB s HIGH f t = false from fun hin => by
        unfold onlyB
        rw [show s.all (fun c => HIGH.contains c) = false from List.all_eq_false.2 ⟨c, List.mem_of_getElem? hc, by rw [hin]; decide⟩]
        rfl)
      clear hc
      generalize HIGH.contains c = b at *
      cases b
      · have HN := Lib.hid (HF.out rfl)
        clear HF HT
        go_wp2_with fail
        refine (CC.out _).mono ?_
        rintro e w' ⟨rfl, rfl⟩
        go_wp2_with fail
        go_ret
        exact ⟨ret_bool (by rw [← HP.out, HN.out]), rfl⟩
      · have HN := Lib.hid (HT.out rfl)
        clear HF HT
        go_wp2_with fail
        refine (CC.out _).mono ?_
        rintro e w' ⟨rfl, rfl⟩
        go_wp2_with fail
        first | (go_round; case rel => exact ⟨k + 1, by go_num, by omega, HN⟩; case measure => simp [RowKit.intOf]; omega) | exact ⟨⟨k + 1, by go_num, by omega, HN⟩, by simp [RowKit.intOf]; omega⟩
    · have HN := Lib.hid (show onlyB s HIGH f t = (decide (f ≤ (s.length : Int)) && decide ((s.length : Int) ≤ t)) by
        have h := HA.out
        rw [List.take_of_length_le (by omega)] at h
        unfold onlyB; rw [h]; rfl)
      by_cases h1 : f ≤ (s.length : Int)
      · have e1 : decide (f ≤ (s.length : Int)) = true := dec_yes h1
        go_wp2_with fail
        go_ret
        exact ⟨ret_bool (by rw [← HP.out, HN.out, e1]; first | rfl | simp), rfl⟩
      · have e1 : decide (f ≤ (s.length : Int)) = false := dec_no h1
        go_wp2_with fail
        go_ret
        exact ⟨ret_bool (by rw [← HP.out, HN.out, e1]; first | rfl | simp), rfl⟩

set_option maxRecDepth 100000 in
set_option maxHeartbeats 1000000 in
theorem made_digit (s : List UInt8) (f t : Int) (w : World) (hs : s.length ≤ 4000000000) :
    Calls Tryd.prog 42 #[.func (.func 70) #[] #[], .string ⟨s.toArray⟩, .int .i64 f, .int .i64 t] w fun e w' => e = .returned (.bool (onlyB s DIG f t)) ∧ w = w' := by
  generalize HPOST : onlyB s DIG f t = POST
  have HP := Lib.hid HPOST
  clear HPOST
  go_enter Tryd.func42, Tryd.ntmps42
  go_wp2_with fail
  go_loop [9, 12] (fun _ i => ∃ k : Nat, i = .int .i64 k ∧ k ≤ s.length ∧ Hid ((s.take k).all (fun c => DIG.contains c) = true)) (fun _ i => s.length - (RowKit.intOf i).toNat)
  case atStart => exact ⟨0, rfl, Nat.zero_le _, Lib.hid rfl⟩
  case round =>
    obtain ⟨k, rfl, hk, HA⟩ := hrel
    by_cases hlt : k < s.length
    · obtain ⟨c, hc⟩ : ∃ c, s[k]? = some c := ⟨s[k], List.getElem?_eq_getElem hlt⟩
      have IX := fun w => index_str (P := Tryd.prog) 9 Tryd.underlying9 s .i64 k c hc w
      have CC := Lib.hid fun w => digit_any c w
      have HT := Lib.hid (show DIG.contains c = true → (s.take (k + 1)).all (fun c => DIG.contains c) = true from fun hin => by
        rw [List.take_add_one, hc, List.all_append, HA.out]; simpa using hin)
      have HF := Lib.hid (show DIG.contains c = false → onlyB s DIG f t = false from fun hin => by
        unfold onlyB
        rw [show s.all (fun c => DIG.contains c) = false from List.all_eq_false.2 ⟨c, List.mem_of_getElem? hc, by rw [hin]; decide⟩]
        rfl)
      clear hc
      generalize DIG.contains c = b at *
      cases b
      · have HN := Lib.hid (HF.out rfl)
        clear HF HT
        go_wp2_with fail
        refine (CC.out _).mono ?_
        rintro e w' ⟨rfl, rfl⟩
        go_wp2_with fail
        go_ret
        exact ⟨ret_bool (by rw [← HP.out, HN.out]), rfl⟩
      · have HN := Lib.hid (HT.out rfl)
        clear HF HT
        go_wp2_with fail
        refine (CC.out _).mono ?_
        rintro e w' ⟨rfl, rfl⟩
        go_wp2_with fail
        first | (go_round; case rel => exact ⟨k + 1, by go_num, by omega, HN⟩; case measure => simp [RowKit.intOf]; omega) | exact ⟨⟨k + 1, by go_num, by omega, HN⟩, by simp [RowKit.intOf]; omega⟩
    · have HN := Lib.hid (show onlyB s DIG f t = (decide (f ≤ (s.length : Int)) && decide ((s.length : Int) ≤ t)) by
        have h := HA.out
        rw [List.take_of_length_le (by omega)] at h
        unfold onlyB; rw [h]; rfl)
      by_cases h1 : f ≤ (s.length : Int)
      · have e1 : decide (f ≤ (s.length : Int)) = true := dec_yes h1
        go_wp2_with fail
        go_ret
        exact ⟨ret_bool (by rw [← HP.out, HN.out, e1]; first | rfl | simp), rfl⟩
      · have e1 : decide (f ≤ (s.length : Int)) = false := dec_no h1
        go_wp2_with fail
        go_ret
        exact ⟨ret_bool (by rw [← HP.out, HN.out, e1]; first | rfl | simp), rfl⟩

set_option maxRecDepth 100000 in
set_option maxHeartbeats 1000000 in
theorem made_both (s : List UInt8) (f t : Int) (w : World) (hs : s.length ≤ 4000000000) :
    Calls Tryd.prog 42 #[.func (.func 51) #[] #[], .string ⟨s.toArray⟩, .int .i64 f, .int .i64 t] w fun e w' => e = .returned (.bool (onlyB s (LOW ++ DIG) f t)) ∧ w = w' := by
  generalize HPOST : onlyB s (LOW ++ DIG) f t = POST
  have HP := Lib.hid HPOST
  clear HPOST
  go_enter Tryd.func42, Tryd.ntmps42
  go_wp2_with fail
  go_loop [9, 12] (fun _ i => ∃ k : Nat, i = .int .i64 k ∧ k ≤ s.length ∧ Hid ((s.take k).all (fun c => (LOW ++ DIG).contains c) = true)) (fun _ i => s.length - (RowKit.intOf i).toNat)
  case atStart => exact ⟨0, rfl, Nat.zero_le _, Lib.hid rfl⟩
  case round =>
    obtain ⟨k, rfl, hk, HA⟩ := hrel
    by_cases hlt : k < s.length
    · obtain ⟨c, hc⟩ : ∃ c, s[k]? = some c := ⟨s[k], List.getElem?_eq_getElem hlt⟩
      have IX := fun w => index_str (P := Tryd.prog) 9 Tryd.underlying9 s .i64 k c hc w
      have CC := Lib.hid fun w => both_any c w
      have HT := Lib.hid (show (LOW ++ DIG).contains c = true → (s.take (k + 1)).all (fun c => (LOW ++ DIG).contains c) = true from fun hin => by
        rw [List.take_add_one, hc, List.all_append, HA.out]; simpa using hin)
      have HF := Lib.hid (show (LOW ++ DIG).contains c = false → onlyB s (LOW ++ DIG) f t = false from fun hin => by
        unfold onlyB
        rw [show s.all (fun c => (LOW ++ DIG).contains c) = false from List.all_eq_false.2 ⟨c, List.mem_of_getElem? hc, by rw [hin]; decide⟩]
        rfl)
      clear hc
      generalize (LOW ++ DIG).contains c = b at *
      cases b
      · have HN := Lib.hid (HF.out rfl)
        clear HF HT
        go_wp2_with fail
        refine (CC.out _).mono ?_
        rintro e w' ⟨rfl, rfl⟩
        go_wp2_with fail
        go_ret
        exact ⟨ret_bool (by rw [← HP.out, HN.out]), rfl⟩
      · have HN := Lib.hid (HT.out rfl)
        clear HF HT
        go_wp2_with fail
        refine (CC.out _).mono ?_
        rintro e w' ⟨rfl, rfl⟩
        go_wp2_with fail
        first | (go_round; case rel => exact ⟨k + 1, by go_num, by omega, HN⟩; case measure => simp [RowKit.intOf]; omega) | exact ⟨⟨k + 1, by go_num, by omega, HN⟩, by simp [RowKit.intOf]; omega⟩
    · have HN := Lib.hid (show onlyB s (LOW ++ DIG) f t = (decide (f ≤ (s.length : Int)) && decide ((s.length : Int) ≤ t)) by
        have h := HA.out
        rw [List.take_of_length_le (by omega)] at h
        unfold onlyB; rw [h]; rfl)
      by_cases h1 : f ≤ (s.length : Int)
      · have e1 : decide (f ≤ (s.length : Int)) = true := dec_yes h1
        go_wp2_with fail
        go_ret
        exact ⟨ret_bool (by rw [← HP.out, HN.out, e1]; first | rfl | simp), rfl⟩
      · have e1 : decide (f ≤ (s.length : Int)) = false := dec_no h1
        go_wp2_with fail
        go_ret
        exact ⟨ret_bool (by rw [← HP.out, HN.out, e1]; first | rfl | simp), rfl⟩
end Go.Proofs.YtlhleojigcnjeaaDoor
