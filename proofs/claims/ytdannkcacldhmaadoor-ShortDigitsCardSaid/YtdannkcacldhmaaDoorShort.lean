/- The walks of short.Text, short.Parts and linguisterref1.ShortText. Conditions: the library's table of powers holds its numbers. -/
import Derived.Test.YtdannkcacldhmaaDoorItoa
import Derived.Test.YtdannkcacldhmaaDoorDigits
import Derived.Test.YtdannkcacldhmaaDoorShortP
import Derived.Test.YtdannkcacldhmaaDoorErrs
namespace Go.Proofs.YtdannkcacldhmaaDoor
open Go.RowKit Go.Lib

theorem sht_cells (w : World) (b : Nat) (k : Nat) (hk : k < 4) (h : Boxed w b #[.string ⟨#[75]⟩, .string ⟨#[77]⟩, .string ⟨#[66]⟩, .string ⟨#[84]⟩]) : w.cell? ⟨b, k, none⟩ = some (.string ⟨(Sht.letter (k + 1)).toArray⟩) := by
  have : k = 0 ∨ k = 1 ∨ k = 2 ∨ k = 3 := by omega
  rcases this with rfl | rfl | rfl | rfl
  · exact h.cell 0 _ rfl
  · exact h.cell 1 _ rfl
  · exact h.cell 2 _ rfl
  · exact h.cell 3 _ rfl

set_option maxRecDepth 100000 in
set_option maxHeartbeats 1000000 in
theorem short_no (n : Int) (w : World) (h : n < 0 ∨ 1000000000000000 < n) :
    Calls Tryd.prog 14 #[.int .i64 n] w fun e w' => e = .returned (.tuple #[.string ⟨#[]⟩, errV 1]) ∧ Below w.heap.size w w' := by
  rcases h with h | h
  · go_enter Tryd.func14, Tryd.ntmps14
    go_wp2_with fail
    go_ret2
    exact ⟨rfl, Below.refl _ _⟩
  · have h' : ¬ n < 0 := by omega
    go_enter Tryd.func14, Tryd.ntmps14
    go_wp2_with fail
    go_ret2
    exact ⟨rfl, Below.refl _ _⟩

set_option maxRecDepth 100000 in
set_option maxHeartbeats 1000000 in
theorem short_yes (n : Int) (w : World) (hp : PowW w) (n0 : 0 ≤ n) (n1 : n ≤ 1000000000000000) :
    Calls Tryd.prog 14 #[.int .i64 n] w fun e w' => e = .returned (.tuple #[.string ⟨(Sht.txt n).toArray⟩, .nilIface]) ∧ Below w.heap.size w w' := by
  have HN := Lib.hid (Sht.lv_lt n)
  have HB := Lib.hid (Sht.hd_bd n)
  have E0 := Lib.hid (show Sht.hd n 0 = n by simp [Sht.hd, Sht.un])
  have d1 : ¬ n < 0 := by omega
  have d2 : ¬ 1000000000000000 < n := by omega
  go_enter Tryd.func14, Tryd.ntmps14
  go_wp2_with fail
  have B1 := Boxed.made w #[.string ⟨#[75]⟩, .string ⟨#[77]⟩, .string ⟨#[66]⟩, .string ⟨#[84]⟩] 9
  have W1 := Lib.hid (blw_alloc w (.cells #[.string ⟨#[75]⟩, .string ⟨#[77]⟩, .string ⟨#[66]⟩, .string ⟨#[84]⟩] 9))
  have P1 := hp.alloc (.cells #[.string ⟨#[75]⟩, .string ⟨#[77]⟩, .string ⟨#[66]⟩, .string ⟨#[84]⟩] 9)
  generalize w.alloc (.cells #[.string ⟨#[75]⟩, .string ⟨#[77]⟩, .string ⟨#[66]⟩, .string ⟨#[84]⟩] 9) = w1 at *
  have CE := Lib.hid fun k hk => sht_cells w1 w.heap.size k hk B1
  clear B1
  go_loop [0, 4, 5, 18] (fun a s x i => ∃ k : Nat, k ≤ Sht.lv n ∧ a = .int .i64 (Sht.hd n k) ∧ s = .string ⟨(Sht.letter k).toArray⟩ ∧ x = .int .i64 (Sht.nx n k) ∧ i = .int .i64 k) (fun _ _ _ i => 4 - (RowKit.intOf i).toNat)
  case atStart => exact ⟨0, Nat.zero_le _, by rw [E0.out], rfl, rfl, rfl⟩
  case round =>
    obtain ⟨k, hk, rfl, rfl, rfl, rfl⟩ := hrel
    have hl := Sht.lv_le n
    have b1 := HB.out k (by omega) n0 n1
    have b2 := Sht.nx_bd n k
    have LK := Sht.letter_len k
    by_cases hk4 : k < 4
    · have CK := CE.out k hk4
      by_cases hd : Sht.hd n k < 1000
      · have EK := Lib.hid (Sht.lv_eq n k n0 hk (fun g => by omega))
        have L1 := Sht.dd_len (Sht.hd n k) (by omega)
        have L2 := Sht.dd_len (Sht.nx n k) (by omega)
        have M := Lib.hid (show Sht.txt n = decDigits (Sht.hd n k).toNat ++ Sht.mid n k ++ Sht.letter k by rw [EK.out]; rfl)
        have M2 := Lib.hid (show Sht.mid n k = if Sht.hd n k < 10 ∧ 0 < Sht.nx n k then 46 :: decDigits (Sht.nx n k).toNat else [] from rfl)
        have C1 := Lib.hid (itoa_pos (Sht.hd n k) w1 P1 (by omega) (by omega))
        have C2 := Lib.hid fun w hp => itoa_pos (Sht.nx n k) w hp (by omega) (by omega)
        generalize hgm : Sht.mid n k = MM at *
        clear hgm EK
        generalize Sht.hd n k = h at *
        generalize Sht.nx n k = x at *
        generalize Sht.letter k = LT at *
        generalize decDigits h.toNat = D at *
        generalize decDigits x.toNat = X at *
        by_cases hx : h < 10 ∧ 0 < x
        · obtain ⟨hx1, hx2⟩ := hx
          have M3 := Lib.hid (show Sht.txt n = D ++ (46 :: X) ++ LT by rw [M.out, M2.out, if_pos ⟨hx1, hx2⟩])
          have A1 : ∀ w, (Op.stringOp .add ⟨#[46]⟩ ⟨X.toArray⟩).run Tryd.prog w = .ok (.string ⟨(46 :: X).toArray⟩) w := fun w => add_str (P := Tryd.prog) [46] X (by simp; omega) w
          have A2 := fun w => add_str (P := Tryd.prog) D (46 :: X) (by simp; omega) w
          have A3 := fun w => add_str (P := Tryd.prog) (D ++ 46 :: X) LT (by simp; omega) w
          go_wp2_with fail
          refine (C1.out).mono ?_
          rintro e w2 ⟨rfl, hb⟩
          have P2 := P1.below hb
          have W2 := Lib.hid (blw_trans W1.out hb)
          clear hb
          go_wp2_with fail
          refine (C2.out _ P2).mono ?_
          rintro e w3 ⟨rfl, hb⟩
          have W3 := Lib.hid (blw_trans W2.out hb)
          clear hb P1 P2 W1 W2 CE
          go_wp2_with fail
          go_ret2
          exact ⟨ret_str_nil (by rw [M3.out]; simp), W3.out⟩
        · have M3 := Lib.hid (show Sht.txt n = D ++ LT by rw [M.out, M2.out, if_neg hx]; simp)
          have A3 := fun w => add_str (P := Tryd.prog) D LT (by omega) w
          by_cases hx1 : h < 10
          · have hx2 : ¬ 0 < x := fun g => hx ⟨hx1, g⟩
            clear hx
            go_wp2_with fail
            refine (C1.out).mono ?_
            rintro e w2 ⟨rfl, hb⟩
            have W2 := Lib.hid (blw_trans W1.out hb)
            clear hb P1 W1 CE
            go_wp2_with fail
            go_ret2
            exact ⟨ret_str_nil (by rw [M3.out]), W2.out⟩
          · clear hx
            go_wp2_with fail
            refine (C1.out).mono ?_
            rintro e w2 ⟨rfl, hb⟩
            have W2 := Lib.hid (blw_trans W1.out hb)
            clear hb P1 W1 CE
            go_wp2_with fail
            go_ret2
            exact ⟨ret_str_nil (by rw [M3.out]), W2.out⟩
      · have HS := Lib.hid (Sht.hd_succ n k hk4)
        have HL := Lib.hid ((HN.out k n0).2 ⟨hk4, by omega⟩)
        go_wp2_with fail
        go_round
        case rel => exact ⟨k + 1, HL.out, by rw [HS.out], rfl, rfl, by go_num⟩
        case measure => simp [RowKit.intOf]; omega
    · have EK := Lib.hid (Sht.lv_eq n k n0 hk (fun g => by omega))
      have L1 := Sht.dd_len (Sht.hd n k) (by omega)
      have L2 := Sht.dd_len (Sht.nx n k) (by omega)
      have M := Lib.hid (show Sht.txt n = decDigits (Sht.hd n k).toNat ++ Sht.mid n k ++ Sht.letter k by rw [EK.out]; rfl)
      have M2 := Lib.hid (show Sht.mid n k = if Sht.hd n k < 10 ∧ 0 < Sht.nx n k then 46 :: decDigits (Sht.nx n k).toNat else [] from rfl)
      have C1 := Lib.hid (itoa_pos (Sht.hd n k) w1 P1 (by omega) (by omega))
      have C2 := Lib.hid fun w hp => itoa_pos (Sht.nx n k) w hp (by omega) (by omega)
      generalize hgm : Sht.mid n k = MM at *
      clear hgm EK
      generalize Sht.hd n k = h at *
      generalize Sht.nx n k = x at *
      generalize Sht.letter k = LT at *
      generalize decDigits h.toNat = D at *
      generalize decDigits x.toNat = X at *
      by_cases hx : h < 10 ∧ 0 < x
      · obtain ⟨hx1, hx2⟩ := hx
        have M3 := Lib.hid (show Sht.txt n = D ++ (46 :: X) ++ LT by rw [M.out, M2.out, if_pos ⟨hx1, hx2⟩])
        have A1 : ∀ w, (Op.stringOp .add ⟨#[46]⟩ ⟨X.toArray⟩).run Tryd.prog w = .ok (.string ⟨(46 :: X).toArray⟩) w := fun w => add_str (P := Tryd.prog) [46] X (by simp; omega) w
        have A2 := fun w => add_str (P := Tryd.prog) D (46 :: X) (by simp; omega) w
        have A3 := fun w => add_str (P := Tryd.prog) (D ++ 46 :: X) LT (by simp; omega) w
        go_wp2_with fail
        refine (C1.out).mono ?_
        rintro e w2 ⟨rfl, hb⟩
        have P2 := P1.below hb
        have W2 := Lib.hid (blw_trans W1.out hb)
        clear hb
        go_wp2_with fail
        refine (C2.out _ P2).mono ?_
        rintro e w3 ⟨rfl, hb⟩
        have W3 := Lib.hid (blw_trans W2.out hb)
        clear hb P1 P2 W1 W2 CE
        go_wp2_with fail
        go_ret2
        exact ⟨ret_str_nil (by rw [M3.out]; simp), W3.out⟩
      · have M3 := Lib.hid (show Sht.txt n = D ++ LT by rw [M.out, M2.out, if_neg hx]; simp)
        have A3 := fun w => add_str (P := Tryd.prog) D LT (by omega) w
        by_cases hx1 : h < 10
        · have hx2 : ¬ 0 < x := fun g => hx ⟨hx1, g⟩
          clear hx
          go_wp2_with fail
          refine (C1.out).mono ?_
          rintro e w2 ⟨rfl, hb⟩
          have W2 := Lib.hid (blw_trans W1.out hb)
          clear hb P1 W1 CE
          go_wp2_with fail
          go_ret2
          exact ⟨ret_str_nil (by rw [M3.out]), W2.out⟩
        · clear hx
          go_wp2_with fail
          refine (C1.out).mono ?_
          rintro e w2 ⟨rfl, hb⟩
          have W2 := Lib.hid (blw_trans W1.out hb)
          clear hb P1 W1 CE
          go_wp2_with fail
          go_ret2
          exact ⟨ret_str_nil (by rw [M3.out]), W2.out⟩

theorem parts_bad (n u : Int) (w : World) (h : n < 0 ∨ 1000000000000000 < n ∨ u < 1 ∨ 1000000 < u) :
    Calls Tryd.prog 21 #[.int .i64 n, .int .i64 u] w fun e w' => e = .returned (.tuple #[.int .i64 0, .int .i64 0, errV 1]) ∧ Below w.heap.size w w' := by
  by_cases h1 : n < 0
  · go_enter Tryd.func21, Tryd.ntmps21
    go_wp2_with fail
    go_ret3
    exact ⟨rfl, Below.refl _ _⟩
  by_cases h2 : 1000000000000000 < n
  · go_enter Tryd.func21, Tryd.ntmps21
    go_wp2_with fail
    go_ret3
    exact ⟨rfl, Below.refl _ _⟩
  by_cases h3 : u < 1
  · go_enter Tryd.func21, Tryd.ntmps21
    go_wp2_with fail
    go_ret3
    exact ⟨rfl, Below.refl _ _⟩
  have h4 : 1000000 < u := by omega
  go_enter Tryd.func21, Tryd.ntmps21
  go_wp2_with fail
  go_ret3
  exact ⟨rfl, Below.refl _ _⟩
theorem parts_ok (n u : Int) (w : World) (n0 : 0 ≤ n) (n1 : n ≤ 1000000000000000) (u0 : 1 ≤ u) (u1 : u ≤ 1000000) :
    Calls Tryd.prog 21 #[.int .i64 n, .int .i64 u] w fun e w' => e = .returned (.tuple #[.int .i64 (n / u), .int .i64 (n % u), .nilIface]) ∧ Below w.heap.size w w' := by
  have h1 : ¬ n < 0 := by omega
  have h2 : ¬ 1000000000000000 < n := by omega
  have h3 : ¬ u < 1 := by omega
  have h4 : ¬ 1000000 < u := by omega
  have e0 : (u == 0) = false := beq_no (by omega)
  have e1 : ¬ u = 0 := by omega
  have e2 : IntKind.i64.wrap (n.tdiv u) = n / u := IntWalk.i64_quo _ _ ⟨n0, by omega, by omega⟩
  have e3 : n.tmod u = n % u := IntWalk.rem_in _ _ n0
  go_enter Tryd.func21, Tryd.ntmps21
  go_wp2_with fail
  go_big_quiet (fail)
  go_wp2
  go_ret3
  exact ⟨rfl, blw_drewN (Below.refl _ _) _⟩

theorem sht_cells5 (w : World) (b : Nat) (k : Nat) (hk : k ≤ 4) (h : Boxed w b #[.string ⟨#[]⟩, .string ⟨#[75]⟩, .string ⟨#[77]⟩, .string ⟨#[66]⟩, .string ⟨#[84]⟩]) : w.cell? ⟨b, k, none⟩ = some (.string ⟨(Sht.letter k).toArray⟩) := by
  have : k = 0 ∨ k = 1 ∨ k = 2 ∨ k = 3 ∨ k = 4 := by omega
  rcases this with rfl | rfl | rfl | rfl | rfl
  · exact h.cell 0 _ rfl
  · exact h.cell 1 _ rfl
  · exact h.cell 2 _ rfl
  · exact h.cell 3 _ rfl
  · exact h.cell 4 _ rfl
set_option maxRecDepth 100000 in
set_option maxHeartbeats 1000000 in
theorem shortText_any (n : Int) (w : World) (n0 : 0 ≤ n) (n1 : n ≤ 1000000000000000) :
    Calls Tryd.prog 20 #[.int .i64 n] w fun e w' => e = .returned (.string ⟨(Sht.txt n).toArray⟩) ∧ Below w.heap.size w w' := by
  have HN := Lib.hid (Sht.lv_lt n)
  have HB := Lib.hid (Sht.hd_bd n)
  go_enter Tryd.func20, Tryd.ntmps20
  go_wp2_with fail
  go_loop [3, 4] (fun u i => ∃ k : Nat, k ≤ Sht.lv n ∧ u = .int .i64 (Sht.un k) ∧ i = .int .i64 k) (fun _ i => 4 - (RowKit.intOf i).toNat)
  case atStart => exact ⟨0, Nat.zero_le _, rfl, rfl⟩
  case round =>
    obtain ⟨k, hk, rfl, rfl⟩ := hrel
    have hl := Sht.lv_le n
    have b1 := HB.out k (by omega) n0 n1
    have b2 := Sht.nx_bd n k
    have b3 := Sht.un_bd k (by omega)
    have LK := Sht.letter_len k
    have e0 : (Sht.un k == 0) = false := beq_no (by omega)
    have e1 : ¬ Sht.un k = 0 := by omega
    have e2 : IntKind.i64.wrap (n.tdiv (Sht.un k)) = Sht.hd n k := IntWalk.i64_quo _ _ ⟨n0, by omega, b3.1⟩
    have US := Lib.hid (show Sht.un (k + 1) = Sht.un k * 1000 from rfl)
    have HL := Lib.hid (HN.out k n0)
    have EQ := Lib.hid (Sht.lv_eq n k n0 hk)
    by_cases hk4 : k < 4
    · by_cases hd : 1000 ≤ Sht.hd n k
      · go_wp2_with fail
        go_round
        case rel => exact ⟨k + 1, HL.out.2 ⟨hk4, hd⟩, by rw [US.out], by go_num⟩
        case measure => simp [RowKit.intOf]; omega
      · have EK := Lib.hid (EQ.out (fun g => hd g.2))
        have L1 := Sht.dd_len (Sht.hd n k) (by omega)
        have L2 := Sht.dd_len (Sht.nx n k) (by omega)
        have M := Lib.hid (show Sht.txt n = decDigits (Sht.hd n k).toNat ++ Sht.mid n k ++ Sht.letter k by rw [EK.out]; rfl)
        have M2 := Lib.hid (show Sht.mid n k = if Sht.hd n k < 10 ∧ 0 < Sht.nx n k then 46 :: decDigits (Sht.nx n k).toNat else [] from rfl)
        have C1 := Lib.hid (digits_none (Sht.hd n k) w (by omega) (by omega))
        have C2 := Lib.hid fun w => digits_none (Sht.nx n k) w (by omega) (by omega)
        have CL := Lib.hid fun (w : World) => sht_cells5 (w.alloc (.cells #[.string ⟨#[]⟩, .string ⟨#[75]⟩, .string ⟨#[77]⟩, .string ⟨#[66]⟩, .string ⟨#[84]⟩] 9)) w.heap.size k (by omega) (Boxed.made _ _ _)
        have X0 := Lib.hid (show k = 0 → Sht.nx n k = 0 from fun g => by rw [g]; rfl)
        have X1 := Lib.hid (show 0 < k → n / (Sht.un k / 10) % 10 = Sht.nx n k from fun g => Sht.nx_tenth n k g (by omega))
        generalize hgm : Sht.mid n k = MM at *
        clear hgm EK US HL EQ HN HB
        generalize Sht.hd n k = h at *
        generalize Sht.nx n k = x at *
        generalize Sht.letter k = LT at *
        generalize Sht.un k = U at *
        generalize decDigits h.toNat = D at *
        generalize decDigits x.toNat = X at *
        by_cases hx : h < 10 ∧ 0 < x
        · obtain ⟨hx1, hx2⟩ := hx
          have M3 := Lib.hid (show Sht.txt n = D ++ (46 :: X) ++ LT by rw [M.out, M2.out, if_pos ⟨hx1, hx2⟩])
          have k0 : 0 < k := by
            rcases Nat.eq_zero_or_pos k with g | g
            · have := X0.out g; omega
            · exact g
          have u0 := b3.2.2 k0
          have f0 : (U / 10 == 0) = false := beq_no (by omega)
          have f1 : ¬ U / 10 = 0 := by omega
          have f2 : IntKind.i64.wrap (n.tdiv (U / 10)) = n / (U / 10) := IntWalk.i64_quo _ _ ⟨n0, by omega, by omega⟩
          have q0 : 0 ≤ n / (U / 10) := Int.ediv_nonneg n0 (by omega)
          have q1 : n / (U / 10) ≤ n := Int.ediv_le_self _ n0
          have X2 := Lib.hid (X1.out k0)
          have f3 : n / (U / 10) % 10 = x := X2.out
          have A1 := fun w => add_str (P := Tryd.prog) D [46] (by simp; omega) w
          have A2 := fun w => add_str (P := Tryd.prog) (D ++ [46]) X (by simp; omega) w
          have A3 := fun w => add_str (P := Tryd.prog) (D ++ 46 :: X) LT (by simp; omega) w
          have A4 := fun w => add_str (P := Tryd.prog) (D ++ ([46] ++ X)) LT (by simp; omega) w
          go_wp2_with fail
          refine (C1.out).mono ?_
          rintro e w2 ⟨rfl, hb⟩
          have W2 := Lib.hid hb
          clear hb
          go_wp2_with fail
          refine (C2.out _).mono ?_
          rintro e w3 ⟨rfl, hb⟩
          have W3 := Lib.hid (blw_trans W2.out hb)
          clear hb W2
          have CK := CL.out w3
          have W4 := Lib.hid (blw_trans W3.out (blw_alloc w3 (.cells #[.string ⟨#[]⟩, .string ⟨#[75]⟩, .string ⟨#[77]⟩, .string ⟨#[66]⟩, .string ⟨#[84]⟩] 9)))
          clear CL
          go_wp2_with fail
          go_ret
          exact ⟨ret_str (by rw [M3.out]; simp), W4.out⟩
        · have M3 := Lib.hid (show Sht.txt n = D ++ LT by rw [M.out, M2.out, if_neg hx]; simp)
          have A3 := fun w => add_str (P := Tryd.prog) D LT (by omega) w
          clear M M2 C2
          by_cases k0 : 0 < k
          · by_cases hx1 : h < 10
            · have hx2 : ¬ 0 < x := fun g => hx ⟨hx1, g⟩
              clear hx
              have u0 := b3.2.2 k0
              have f0 : (U / 10 == 0) = false := beq_no (by omega)
              have f1 : ¬ U / 10 = 0 := by omega
              have f2 : IntKind.i64.wrap (n.tdiv (U / 10)) = n / (U / 10) := IntWalk.i64_quo _ _ ⟨n0, by omega, by omega⟩
              have q0 : 0 ≤ n / (U / 10) := Int.ediv_nonneg n0 (by omega)
              have q1 : n / (U / 10) ≤ n := Int.ediv_le_self _ n0
              have X2 := Lib.hid (X1.out k0)
              have f3 : n / (U / 10) % 10 = x := X2.out
              go_wp2_with fail
              refine (C1.out).mono ?_
              rintro e w2 ⟨rfl, hb⟩
              have W2 := Lib.hid hb
              clear hb
              have CK := CL.out w2
              have W4 := Lib.hid (blw_trans W2.out (blw_alloc w2 (.cells #[.string ⟨#[]⟩, .string ⟨#[75]⟩, .string ⟨#[77]⟩, .string ⟨#[66]⟩, .string ⟨#[84]⟩] 9)))
              clear CL
              go_wp2_with fail
              go_ret
              exact ⟨ret_str (by rw [M3.out]), W4.out⟩
            · clear hx
              go_wp2_with fail
              refine (C1.out).mono ?_
              rintro e w2 ⟨rfl, hb⟩
              have W2 := Lib.hid hb
              clear hb
              have CK := CL.out w2
              have W4 := Lib.hid (blw_trans W2.out (blw_alloc w2 (.cells #[.string ⟨#[]⟩, .string ⟨#[75]⟩, .string ⟨#[77]⟩, .string ⟨#[66]⟩, .string ⟨#[84]⟩] 9)))
              clear CL
              go_wp2_with fail
              go_ret
              exact ⟨ret_str (by rw [M3.out]), W4.out⟩
          · clear hx
            go_wp2_with fail
            refine (C1.out).mono ?_
            rintro e w2 ⟨rfl, hb⟩
            have W2 := Lib.hid hb
            clear hb
            have CK := CL.out w2
            have W4 := Lib.hid (blw_trans W2.out (blw_alloc w2 (.cells #[.string ⟨#[]⟩, .string ⟨#[75]⟩, .string ⟨#[77]⟩, .string ⟨#[66]⟩, .string ⟨#[84]⟩] 9)))
            clear CL
            go_wp2_with fail
            go_ret
            exact ⟨ret_str (by rw [M3.out]), W4.out⟩
    · have EK := Lib.hid (EQ.out (fun g => hk4 g.1))
      have L1 := Sht.dd_len (Sht.hd n k) (by omega)
      have L2 := Sht.dd_len (Sht.nx n k) (by omega)
      have M := Lib.hid (show Sht.txt n = decDigits (Sht.hd n k).toNat ++ Sht.mid n k ++ Sht.letter k by rw [EK.out]; rfl)
      have M2 := Lib.hid (show Sht.mid n k = if Sht.hd n k < 10 ∧ 0 < Sht.nx n k then 46 :: decDigits (Sht.nx n k).toNat else [] from rfl)
      have C1 := Lib.hid (digits_none (Sht.hd n k) w (by omega) (by omega))
      have C2 := Lib.hid fun w => digits_none (Sht.nx n k) w (by omega) (by omega)
      have CL := Lib.hid fun (w : World) => sht_cells5 (w.alloc (.cells #[.string ⟨#[]⟩, .string ⟨#[75]⟩, .string ⟨#[77]⟩, .string ⟨#[66]⟩, .string ⟨#[84]⟩] 9)) w.heap.size k (by omega) (Boxed.made _ _ _)
      have X0 := Lib.hid (show k = 0 → Sht.nx n k = 0 from fun g => by rw [g]; rfl)
      have X1 := Lib.hid (show 0 < k → n / (Sht.un k / 10) % 10 = Sht.nx n k from fun g => Sht.nx_tenth n k g (by omega))
      generalize hgm : Sht.mid n k = MM at *
      clear hgm EK US HL EQ HN HB
      generalize Sht.hd n k = h at *
      generalize Sht.nx n k = x at *
      generalize Sht.letter k = LT at *
      generalize Sht.un k = U at *
      generalize decDigits h.toNat = D at *
      generalize decDigits x.toNat = X at *
      by_cases hx : h < 10 ∧ 0 < x
      · obtain ⟨hx1, hx2⟩ := hx
        have M3 := Lib.hid (show Sht.txt n = D ++ (46 :: X) ++ LT by rw [M.out, M2.out, if_pos ⟨hx1, hx2⟩])
        have k0 : 0 < k := by
          rcases Nat.eq_zero_or_pos k with g | g
          · have := X0.out g; omega
          · exact g
        have u0 := b3.2.2 k0
        have f0 : (U / 10 == 0) = false := beq_no (by omega)
        have f1 : ¬ U / 10 = 0 := by omega
        have f2 : IntKind.i64.wrap (n.tdiv (U / 10)) = n / (U / 10) := IntWalk.i64_quo _ _ ⟨n0, by omega, by omega⟩
        have q0 : 0 ≤ n / (U / 10) := Int.ediv_nonneg n0 (by omega)
        have q1 : n / (U / 10) ≤ n := Int.ediv_le_self _ n0
        have X2 := Lib.hid (X1.out k0)
        have f3 : n / (U / 10) % 10 = x := X2.out
        have A1 := fun w => add_str (P := Tryd.prog) D [46] (by simp; omega) w
        have A2 := fun w => add_str (P := Tryd.prog) (D ++ [46]) X (by simp; omega) w
        have A3 := fun w => add_str (P := Tryd.prog) (D ++ 46 :: X) LT (by simp; omega) w
        have A4 := fun w => add_str (P := Tryd.prog) (D ++ ([46] ++ X)) LT (by simp; omega) w
        go_wp2_with fail
        refine (C1.out).mono ?_
        rintro e w2 ⟨rfl, hb⟩
        have W2 := Lib.hid hb
        clear hb
        go_wp2_with fail
        refine (C2.out _).mono ?_
        rintro e w3 ⟨rfl, hb⟩
        have W3 := Lib.hid (blw_trans W2.out hb)
        clear hb W2
        have CK := CL.out w3
        have W4 := Lib.hid (blw_trans W3.out (blw_alloc w3 (.cells #[.string ⟨#[]⟩, .string ⟨#[75]⟩, .string ⟨#[77]⟩, .string ⟨#[66]⟩, .string ⟨#[84]⟩] 9)))
        clear CL
        go_wp2_with fail
        go_ret
        exact ⟨ret_str (by rw [M3.out]; simp), W4.out⟩
      · have M3 := Lib.hid (show Sht.txt n = D ++ LT by rw [M.out, M2.out, if_neg hx]; simp)
        have A3 := fun w => add_str (P := Tryd.prog) D LT (by omega) w
        clear M M2 C2
        by_cases k0 : 0 < k
        · by_cases hx1 : h < 10
          · have hx2 : ¬ 0 < x := fun g => hx ⟨hx1, g⟩
            clear hx
            have u0 := b3.2.2 k0
            have f0 : (U / 10 == 0) = false := beq_no (by omega)
            have f1 : ¬ U / 10 = 0 := by omega
            have f2 : IntKind.i64.wrap (n.tdiv (U / 10)) = n / (U / 10) := IntWalk.i64_quo _ _ ⟨n0, by omega, by omega⟩
            have q0 : 0 ≤ n / (U / 10) := Int.ediv_nonneg n0 (by omega)
            have q1 : n / (U / 10) ≤ n := Int.ediv_le_self _ n0
            have X2 := Lib.hid (X1.out k0)
            have f3 : n / (U / 10) % 10 = x := X2.out
            go_wp2_with fail
            refine (C1.out).mono ?_
            rintro e w2 ⟨rfl, hb⟩
            have W2 := Lib.hid hb
            clear hb
            have CK := CL.out w2
            have W4 := Lib.hid (blw_trans W2.out (blw_alloc w2 (.cells #[.string ⟨#[]⟩, .string ⟨#[75]⟩, .string ⟨#[77]⟩, .string ⟨#[66]⟩, .string ⟨#[84]⟩] 9)))
            clear CL
            go_wp2_with fail
            go_ret
            exact ⟨ret_str (by rw [M3.out]), W4.out⟩
          · clear hx
            go_wp2_with fail
            refine (C1.out).mono ?_
            rintro e w2 ⟨rfl, hb⟩
            have W2 := Lib.hid hb
            clear hb
            have CK := CL.out w2
            have W4 := Lib.hid (blw_trans W2.out (blw_alloc w2 (.cells #[.string ⟨#[]⟩, .string ⟨#[75]⟩, .string ⟨#[77]⟩, .string ⟨#[66]⟩, .string ⟨#[84]⟩] 9)))
            clear CL
            go_wp2_with fail
            go_ret
            exact ⟨ret_str (by rw [M3.out]), W4.out⟩
        · clear hx
          omega
theorem txt_1250 : Sht.txt 1250 = [49, 46, 50, 75] := by decide +kernel
end Go.Proofs.YtdannkcacldhmaaDoor
