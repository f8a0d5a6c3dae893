/- The law CoverSays, proved where what it reads is of bulk at most 1048576: the call returns true of every input, and turns nothing that was there. Conditions: the row's own (the listed variables hold what the program's text lays; the card ties them). -/
import Derived.Test.YtldbfkccieipjaaGreatDoorEvVa
import Derived.Test.YtldbfkccieipjaaGreatDoorEf23
import Derived.Test.YtldbfkccieipjaaGreatDoorEf4
import Derived.Test.YtldbfkccieipjaaGreatDoorEf12
import Derived.Test.YtldbfkccieipjaaGreatDoorEf7
import Derived.Test.YtldbfkccieipjaaGreatDoorRows
import Derived.Test.YtldbfkccieipjaaGreatDoorEf8
import Derived.OpenShut
import Derived.Deep.Slices
import Derived.Deep.Fields
import Derived.ChangeSame
import Derived.Test.YtldbfkccieipjaaGreatDoorCards
import Derived.Test.YtldbfkccieipjaaGreatDoorTie
import Derived.Deep.DeepHandedRow
import Derived.Deep.DeepWitnessRowRef
import Derived.Stop.Joined
import Derived.Lay
import Derived.Test.YtldbfkccieipjaaGreatDoorEf16
namespace Rul
open Go Go.Lib Go.Proofs.YtldbfkccieipjaaGreatDoor
def few3Q : Rule := [[⟨110, 0, false, [(3, 3)]⟩]]
def few3T : List UInt8 := [110, 32, 61, 32, 51]
theorem few3T_ok : setOk [[], [], [], few3T, []] = true := by
  have h := parse_text (r := few3Q) (by decide)
  rw [show ruleT few3Q = few3T by decide +kernel] at h
  have h1 : textOk few3T = true := by unfold textOk; rw [h.1, Bool.or_true]
  have h0 : textOk [] = true := rfl
  simp [setOk, h1, h0]
end Rul
namespace Go.Proofs.YtldbfkccieipjaaGreatDoor
open Go.RowKit Ms
open Dcm (okD)
namespace Ms
theorem app_covV : covE 2 appM [[], [], [], Rul.few3T, []] = 0 := by
  have h1 : msgE 2 appM = 0 := by decide +kernel
  unfold covE
  rw [h1, Rul.few3T_ok]
  rfl
theorem app_missV : missL 2 appM [[], [], [], Rul.few3T, []] = [[110, 46, 102, 101, 119]] := by
  unfold missL
  rw [if_pos app_covV]
  decide +kernel
theorem less_zero {L : List (List UInt8)} {c d : Int} (hd : okD c d) : (evS L).less c d 0 = some (c, d) := by
  obtain ⟨h0, h1, h2, h3⟩ := hd
  have e1 : Dcm.addC c d (-0) 0 = c := by
    unfold Dcm.addC
    split
    · obtain rfl : d = 0 := by omega
      rw [show (0 : Int) - 0 = 0 from rfl, Dcm.P10_0]; omega
    · rw [Int.neg_zero, Int.zero_mul]; omega
  have e2 : Dcm.addS d 0 = d := by unfold Dcm.addS; split <;> omega
  have ok : addOk c d (-0) 0 := ⟨⟨h0, h1, h2, h3⟩, ⟨by omega, by omega, by omega, by omega⟩, by rw [e1]; exact h2, by rw [e1]; exact h3⟩
  show (if addOk c d (-0) 0 then some (Dcm.addC c d (-0) 0, Dcm.addS d 0) else none) = _
  rw [if_pos ok, e1, e2]
theorem cs_law (t0 t1 t2 t3 t4 : List UInt8) (hS : Rul.setOk [t0, t1, t2, t3, t4] = true) {c d : Int} {i : Nat} (ks : List Bool) (hd : okD c d) :
    covE 2 (caM 0 (selK i ks)) [t0, t1, t2, t3, t4] = 0 ∧ sayE [t0, t1, t2, t3, t4] 2 (caM 0 (selK i ks)) (caA c d) = 0 ∧
    (sayT [t0, t1, t2, t3, t4] 2 (caM 0 (selK i ks)) (caA c d) = Rul.kindS [t0, t1, t2, t3, t4] (Rul.opsD c d) 0 ∨ (sayT [t0, t1, t2, t3, t4] 2 (caM 0 (selK i ks)) (caA c d) = other ∧ missL 2 (caM 0 (selK i ks)) [t0, t1, t2, t3, t4] ≠ [])) ∧
    (idleL 2 (caM 0 (selK i ks)) [t0, t1, t2, t3, t4]).contains (110 :: 46 :: sayT [t0, t1, t2, t3, t4] 2 (caM 0 (selK i ks)) (caA c d)) = false := by
  have hks : ∀ k ∈ selK i ks, keyB (.mk 4 [110] 0 (wC (selK i ks))) k = true ∧ k ≠ other ∧ k ≠ [] := fun k hk => ⟨key_five (selK_mem hk), (five_fine (selK_mem hk)).1, (five_fine (selK_mem hk)).2.1⟩
  have hl : (selK i ks).length ≤ 50 := by have := selK_len i ks; omega
  have hc : covE 2 (caM 0 (selK i ks)) [t0, t1, t2, t3, t4] = 0 := by
    unfold covE
    rw [ca_msg ⟨by omega, by omega⟩ hks (selK_nodup i ks) hl, hS]
    rfl
  have hf : fitE 2 (caM 0 (selK i ks)) (caA c d) = 0 := ca_fit ⟨by omega, by omega⟩ hks (selK_nodup i ks) hl hd
  have hs : sayO [t0, t1, t2, t3, t4] 2 (caM 0 (selK i ks)) (caA c d) = _ := ca_said0 (evS [t0, t1, t2, t3, t4]) (off := 0) (c := c) (d := d) (sel := selK i ks) (fun k hk => ex_five.1 k (selK_mem hk)) ex_five.2 (fun h => (hks _ h).2.1 rfl)
  rw [less_zero hd] at hs
  have e2 : (evS [t0, t1, t2, t3, t4]).kind c d = Rul.kindS [t0, t1, t2, t3, t4] (Rul.opsD c d) 0 := rfl
  have hs' : sayO [t0, t1, t2, t3, t4] 2 (caM 0 (selK i ks)) (caA c d) = some (if (selK i ks).contains (Rul.kindS [t0, t1, t2, t3, t4] (Rul.opsD c d) 0) = true then Rul.kindS [t0, t1, t2, t3, t4] (Rul.opsD c d) 0 else other) := hs
  have law := cover_law t0 t1 t2 t3 t4 (Rul.opsD c d) (sel := selK i ks) (fun k hk => (hks k hk).2.2)
  have em : missL 2 (caM 0 (selK i ks)) [t0, t1, t2, t3, t4] = missN [t0, t1, t2, t3, t4] (.mk 4 [110] 0 (wC (selK i ks))) := by
    unfold missL
    rw [if_pos hc, each_one _ _ _ fun k hk => (hks k hk).2.2]
    simp
  have ei : idleL 2 (caM 0 (selK i ks)) [t0, t1, t2, t3, t4] = (wC (selK i ks)).flatMap fun y => idleN [t0, t1, t2, t3, t4] (.mk 4 [110] 0 (wC (selK i ks))) y.1 := by
    unfold idleL
    rw [if_pos hc, each_one _ _ _ fun k hk => (hks k hk).2.2]
    simp
  have et : sayT [t0, t1, t2, t3, t4] 2 (caM 0 (selK i ks)) (caA c d) = if (selK i ks).contains (Rul.kindS [t0, t1, t2, t3, t4] (Rul.opsD c d) 0) = true then Rul.kindS [t0, t1, t2, t3, t4] (Rul.opsD c d) 0 else other := by unfold sayT; rw [if_pos hf, hs']; rfl
  have ee : sayE [t0, t1, t2, t3, t4] 2 (caM 0 (selK i ks)) (caA c d) = 0 := by unfold sayE; rw [if_pos hf, hs']; rfl
  rw [em, ei, et, ee]
  refine ⟨hc, rfl, ?_, ?_⟩
  · cases hcn : (selK i ks).contains (Rul.kindS [t0, t1, t2, t3, t4] (Rul.opsD c d) 0) with
    | true => exact .inl rfl
    | false =>
      by_cases hm : missN [t0, t1, t2, t3, t4] (.mk 4 [110] 0 (wC (selK i ks))) = []
      · have := law.1 hm
        rw [hcn] at this
        exact .inl this
      · exact .inr ⟨rfl, hm⟩
  · have h2 := law.2
    rw [List.contains_eq_mem]
    exact decide_eq_false h2
end Ms
theorem SI.c3v {w0 : World} {q : Nat} {K : Int} {T : List UInt8} {O : Int} {v : Value} {l : List It} {w : World} (h : SI w0 q K T O v l w) : w.cell? ⟨q, 3, none⟩ = some v := by rw [Lib.cell_of_heap h.bx]; rfl
set_option maxRecDepth 100000 in
set_option maxHeartbeats 8000000 in
theorem csays_out (vk : Value) (c d : Int) (lang : List UInt8) (w : World) (hw : MW w) (hE : EvW w) (hd : ¬ okD c d) :
    Calls Tryz.prog 7 #[vk, .string ⟨lang.toArray⟩, .agg #[.int .i64 c, .int .i64 d]] w fun e w' => e = .returned (.bool true) ∧ Below w.heap.size w w' := by
  have W0 := Lib.hid (blw_alloc w (.cells #[.int .i64 c, .int .i64 d] 31))
  have B0 := Lib.hid (Boxed.made w #[.int .i64 c, .int .i64 d] 31)
  have CO1 := Lib.hid fun wx v1 (hb : Below w.heap.size w wx) (h1 : MsgAt 2 wx v1 appM) => miss_any [] [] [] Rul.few3T [] wx (hw.below hb) (hE.t.below hb) h1 (by decide) (by decide)
  clear hw hE
  go_enter Tryz.func7, Tryz.ntmps7
  go_wp2_with fail
  refine (apples_any _).mono ?_
  rintro e w1 ⟨v1, rfl, hm, hb⟩
  have W1 := Lib.hid (blw_trans W0.out hb)
  have B1 := Lib.hid (B0.out.below hb)
  have CO1h := Lib.hid (CO1.out w1 v1 W1.out hm)
  obtain ⟨a1, n1, c1, rfl⟩ := hm.isSlice
  rw [app_covV, app_missV] at CO1h
  unfold Rul.few3T at CO1h
  clear hb hm CO1 W0 B0
  go_wp2_with fail
  refine CO1h.out.mono ?_
  rintro e w2 ⟨u1, rfl, hr, hb⟩
  have W2 := Lib.hid (blw_trans W1.out hb)
  have B2 := Lib.hid (B1.out.below hb)
  rw [show errN 0 = .nilIface from rfl]
  obtain ⟨g, cap1, rfl⟩ := nrow_some hr (by decide)
  rw [show ([[110, 46, 102, 101, 119]] : List (List UInt8)).length = 1 from rfl]
  clear hr hb CO1h W1 B1
  have d0 : w2.cell? ⟨w.heap.size, 0, none⟩ = some (.int .i64 c) := B2.out.cell 0 _ rfl
  have d1 : w2.cell? ⟨w.heap.size, 1, none⟩ = some (.int .i64 d) := B2.out.cell 1 _ rfl
  have dl := B2.out.lt
  go_wp2_with fail
  refine (dflt_yes c d _ hd).mono ?_
  rintro e w3 ⟨rfl, hb⟩
  have W3 := Lib.hid (blw_trans W2.out hb)
  clear hb
  go_wp2_with fail
  go_ret
  exact ⟨rfl, W3.out⟩
set_option maxRecDepth 100000 in
set_option maxHeartbeats 40000000 in
theorem csays_in {vk : Value} (ks : List Bool) (c d : Int) (lang : List UInt8) (w : World) (hw : MW w) (hE : EvW w) (hk : SlAt 1 BoolC w vk ks) (hd : okD c d) :
    Calls Tryz.prog 7 #[vk, .string ⟨lang.toArray⟩, .agg #[.int .i64 c, .int .i64 d]] w fun e w' => e = .returned (.bool true) ∧ Below w.heap.size w w' := by
  obtain ⟨t0, t1, t2, t3, t4, b, hS, hb0, CL, _⟩ := lang_set lang
  obtain ⟨iC, hiC, hC0, hC1, hC2⟩ := info_parts infoCase
  have W0 := Lib.hid (blw_alloc w (.cells #[.int .i64 c, .int .i64 d] 31))
  have B0 := Lib.hid (Boxed.made w #[.int .i64 c, .int .i64 d] 31)
  have CO1 := Lib.hid fun wx v1 (hb : Below w.heap.size w wx) (h1 : MsgAt 2 wx v1 appM) => miss_any [] [] [] Rul.few3T [] wx (hw.below hb) (hE.t.below hb) h1 (by decide) (by decide)
  have CD := Lib.hid fun w => dflt_no c d w hd
  have CK := Lib.hid fun (wx : World) (hb : Below w.heap.size w wx) => kind_ok t0 t1 t2 t3 t4 c d wx (hE.t.below hb) (hE.k.below hb) hS.2 hS.1 hd
  have C5 := Lib.hid fun wx => five_any wx
  have CLh := Lib.hid CL
  unfold setV at CLh
  generalize (if b = true then Value.nilIface else errV 2) = EB at CLh
  have CM := Lib.hid fun (i : Nat) (v : Value) (wx : World) (hb : Below w.heap.size w wx) (hm : MsgAt 2 wx v (caM 0 (selK i ks))) => miss_any t0 t1 t2 t3 t4 wx (hw.below hb) (hE.t.below hb) hm (by show 1 ≤ 2000000; omega) hS.2
  have CJ := Lib.hid fun (i : Nat) (v : Value) (wx : World) (hb : Below w.heap.size w wx) (hm : MsgAt 2 wx v (caM 0 (selK i ks))) => idle_any t0 t1 t2 t3 t4 wx (hw.below hb) (hE.t.below hb) hm (by show 1 ≤ 2000000; omega) hS.2
  have CS := Lib.hid fun (i : Nat) (v va : Value) (wx : World) (hb : Below w.heap.size w wx) (hm : MsgAt 2 wx v (caM 0 (selK i ks))) (ha : ArgsAt wx va (caA c d)) => esay_any lang t0 t1 t2 t3 t4 b wx (hw.below hb) (hE.below hb) hm (by show 1 ≤ 2000000; omega) ha (by show 1 ≤ 2000000; omega) (fun a h => by
    obtain rfl : a = ⟨[110], true, c, d, []⟩ := by simpa [caA] using h
    show 1 ≤ 4000000000; omega) (fun a h => by
    obtain rfl : a = ⟨[110], true, c, d, []⟩ := by simpa [caA] using h
    show 0 ≤ 2000000; omega) hS hb0 CL
  have HS := Lib.hid fun (i : Nat) => cs_law t0 t1 t2 t3 t4 hS.1 (i := i) ks hd
  have HKI := Lib.hid (kind_in t0 t1 t2 t3 t4 (Rul.opsD c d))
  generalize Rul.kindS [t0, t1, t2, t3, t4] (Rul.opsD c d) 0 = KD at *
  obtain ⟨A, cap, rfl, hnk, HX⟩ : ∃ A cap, vk = .slice A ks.length cap ∧ ks.length ≤ 9223372036854775807 ∧ Hid (∀ (j : Nat) z, ks[j]? = some z → ∃ b off, A = some ⟨b, off, none⟩ ∧ w.cell? ⟨b, off + j, none⟩ = some (.bool z)) := by
    rcases hk with ⟨rfl, a, c, rfl⟩ | ⟨b, off, cap, rfl, hp, h3, h4, h5⟩
    · exact ⟨a, c, rfl, by simp, Lib.hid fun j x hx => by simp at hx⟩
    · refine ⟨_, cap, rfl, by unfold maxLen at h4; omega, Lib.hid fun j z hz => ⟨b, off, rfl, ?_⟩⟩
      have := h5 j z hz
      rw [Nat.mul_one] at this
      exact this
  clear hw hE hS hb0 CL hd
  generalize hN : ks.length = NK at *
  have HN := Lib.hid hN
  clear hN
  go_enter Tryz.func7, Tryz.ntmps7
  go_wp2_with fail
  refine (apples_any _).mono ?_
  rintro e w1 ⟨v1, rfl, hm, hb⟩
  have W1 := Lib.hid (blw_trans W0.out hb)
  have B1 := Lib.hid (B0.out.below hb)
  have CO1h := Lib.hid (CO1.out w1 v1 W1.out hm)
  obtain ⟨a1, n1, c1, rfl⟩ := hm.isSlice
  rw [app_covV, app_missV] at CO1h
  unfold Rul.few3T at CO1h
  clear hb hm CO1 W0 B0
  go_wp2_with fail
  refine CO1h.out.mono ?_
  rintro e w2 ⟨u1, rfl, hr, hb⟩
  have W2 := Lib.hid (blw_trans W1.out hb)
  have B2 := Lib.hid (B1.out.below hb)
  rw [show errN 0 = .nilIface from rfl]
  obtain ⟨g, cap1, rfl⟩ := nrow_some hr (by decide)
  rw [show ([[110, 46, 102, 101, 119]] : List (List UInt8)).length = 1 from rfl]
  clear hr hb CO1h W1 B1
  have d0 : w2.cell? ⟨w.heap.size, 0, none⟩ = some (.int .i64 c) := B2.out.cell 0 _ rfl
  have d1 : w2.cell? ⟨w.heap.size, 1, none⟩ = some (.int .i64 d) := B2.out.cell 1 _ rfl
  have dl := B2.out.lt
  go_wp2_with fail
  refine (CD.out _).mono ?_
  rintro e w3 ⟨rfl, hb⟩
  have W3 := Lib.hid (blw_trans W2.out hb)
  have B3 := Lib.hid (B2.out.below hb)
  clear hb d0 d1 dl B2 W2 CD
  have S0 := Lib.hid (show SI w3 w3.heap.size 4 [110] 0 (.slice none 0 0) [] (w3.alloc (.cells #[.int .i64 4, .string ⟨#[110]⟩, .int .i64 0, .slice none 0 0] 34)) from ⟨CI.nil _ _, obj_made w3 _ _, by simp, Nat.le_refl _, blw_alloc _ _⟩)
  have hqd : w.heap.size < w3.heap.size := B3.out.lt
  go_wp2_with fail
  obtain ⟨q, hq⟩ : ∃ q, q = w3.heap.size := ⟨_, rfl⟩
  have S1 : Hid (SI w3 q 4 [110] 0 (.slice none 0 0) [] (w3.alloc (.cells #[.int .i64 4, .string ⟨#[110]⟩, .int .i64 0, .slice none 0 0] 34))) := by rw [hq]; exact S0
  have hqe : ¬ w.heap.size = q := by omega
  have hqe' : ¬ q = w.heap.size := by omega
  rw [← hq]
  generalize w3.alloc (.cells #[.int .i64 4, .string ⟨#[110]⟩, .int .i64 0, .slice none 0 0] 34) = w4 at *
  clear S0 hq hqd
  go_loopw [10] (fun v10 wr => ∃ (i : Nat) (v : Value) (l : List It), v10 = .int .i64 (i : Int) ∧ i ≤ 5 ∧ i ≤ NK ∧ Hid (SI w3 q 4 [110] 0 v l wr) ∧ Hid (KeyW (selK i ks) l)) (fun v10 _ => 5 - (RowKit.intOf v10).toNat)
  case atStart => exact ⟨0, _, [], rfl, by omega, Nat.zero_le _, S1, Lib.hid (show KeyW (selK 0 ks) [] from rfl)⟩
  case round =>
    obtain ⟨i, v, l, rfl, hi5, hiN, HP, HK⟩ := hrel
    have hll := HK.out.len
    have hsl := selK_len i ks
    have HLL := Lib.hid (show l.length ≤ 6 from by rw [hll]; omega)
    clear hll hsl
    have wi : IntKind.i64.wrap ((i : Int) + 1) = (i : Int) + 1 := IntWalk.i64_in _ (by omega)
    have hi0 : (0 : Int) ≤ (i : Int) := by omega
    by_cases hlt : i < 5 ∧ i < NK
    · obtain ⟨hl5, hlN⟩ := hlt
      have j5 : decide ((i : Int) < 5) = true := decide_eq_true (by omega)
      have jN : decide ((i : Int) < (NK : Int)) = true := decide_eq_true (by omega)
      have jN' : (i : Int) < (NK : Int) := by omega
      obtain ⟨kb, hkb⟩ : ∃ kb, ks[i]? = some kb := ⟨ks[i]'(by have := HN.out; omega), List.getElem?_eq_getElem (by have := HN.out; omega)⟩
      obtain ⟨KN, hKN⟩ : ∃ KN, five[i]? = some KN := ⟨five[i]'(by show i < 5; omega), List.getElem?_eq_getElem (by show i < 5; omega)⟩
      obtain ⟨bk, off, rfl, hg⟩ := HX.out i kb hkb
      have g := cell_keep hg (blw_trans W3.out HP.out.bel)
      have gl := World.block_lt_of_cell? _ _ g
      have HKn := Lib.hid (selK_step hKN hkb)
      have HKl := Lib.hid (five_fine (List.mem_of_getElem? hKN)).2.2.1
      clear hg hkb CS HS CK CM CJ CLh HX HKI
      cases kb with
      | false =>
        go_wp2_with fail
        go_roundw
        case rel => exact ⟨i + 1, v, l, by go_num, by omega, by omega, HP, Lib.hid (by rw [HKn.out]; exact HK.out)⟩
        case measure => simp [RowKit.intOf]; omega
      | true =>
        go_wp2_with fail
        refine (C5.out _).mono ?_
        rintro e w5 ⟨V5, rfl, h5, hb⟩
        have S3 := Lib.hid (HP.out.below hb)
        have hf : ∃ b5 o5 c5, V5 = .slice (some ⟨b5, o5, none⟩) 5 c5 ∧ w5.cell? ⟨b5, o5 + i, none⟩ = some (.string ⟨KN.toArray⟩) := by
          rcases h5 with ⟨h5, _⟩ | ⟨b5, o5, c5, rfl, _, _, _, h5⟩
          · cases h5
          · exact ⟨b5, o5, c5, rfl, h5 i KN hKN⟩
        obtain ⟨b5, o5, c5, rfl, g5⟩ := hf
        have gl5 := World.block_lt_of_cell? _ _ g5
        have jF : (i : Int) < 5 := by omega
        clear hb h5 HP C5 g gl hKN
        have P21 := Lib.hid (S3.out.below (blw_alloc w5 (.cells #[.int .i64 1, .string ⟨KN.toArray⟩, .int .i64 0, .slice none 0 0] 34)))
        have P2 := Lib.hid (P21.out.below (blw_alloc (w5.alloc (.cells #[.int .i64 1, .string ⟨KN.toArray⟩, .int .i64 0, .slice none 0 0] 34)) (.cells #[.string ⟨KN.toArray⟩, .slice (some ⟨w5.heap.size, 0, none⟩) 1 1] 41)))
        have B2' := Lib.hid (blw_trans (blw_alloc w5 (.cells #[.int .i64 1, .string ⟨KN.toArray⟩, .int .i64 0, .slice none 0 0] 34)) (blw_alloc (w5.alloc (.cells #[.int .i64 1, .string ⟨KN.toArray⟩, .int .i64 0, .slice none 0 0] 34)) (.cells #[.string ⟨KN.toArray⟩, .slice (some ⟨w5.heap.size, 0, none⟩) 1 1] 41)))
        have HC2 := Lib.hid (Boxed.made (w5.alloc (.cells #[.int .i64 1, .string ⟨KN.toArray⟩, .int .i64 0, .slice none 0 0] 34)) #[.string ⟨KN.toArray⟩, .slice (some ⟨w5.heap.size, 0, none⟩) 1 1] 41)
        have HN2 := Lib.hid (((blw_alloc (w5.alloc (.cells #[.int .i64 1, .string ⟨KN.toArray⟩, .int .i64 0, .slice none 0 0] 34)) (.cells #[.string ⟨KN.toArray⟩, .slice (some ⟨w5.heap.size, 0, none⟩) 1 1] 41)).block w5.heap.size (by simp)).trans (obj_made w5 #[.int .i64 1, .string ⟨KN.toArray⟩, .int .i64 0, .slice none 0 0] 34))
        simp only [World.size_alloc] at HC2
        have c3 := S3.out.c3v
        have ql := S3.out.lt
        go_wp2_with (at_builtin; go_loud (refine wpList_append_own_at _ rfl _ _ 32 rfl w3.heap.size 41 iC _ 2 40 Tryz.underlying32 hiC hC0 hC1 hC2 rfl (by decide) v l.length (itF l) rfl P2.out.ci.row ⟨_, 0, none⟩ 1 1 [.string ⟨KN.toArray⟩, .slice (some ⟨w5.heap.size, 0, none⟩) 1 1] rfl rfl (boxed_add HC2.out) (fun u hu => by simp at hu; rcases hu with rfl | rfl <;> rfl) (by have := HLL.out; unfold maxLen; omega) (by have := HLL.out; omega) P2.out.bel.size ?_; intro v' w6 hown hgrow _ _; obtain ⟨av, nv, rfl⟩ := mrow_slice hown; have PZ := Lib.hid (S3.out.add (KN, KN, w5.heap.size) B2'.out (Nat.le_refl _) HN2.out hown hgrow); have PB := Lib.hid (show Below w3.heap.size w3 w6 from P2.out.bel.grown hgrow P2.out.bel.size (fun k hk => (P2.out.ci.own hk).1)); have qc := Lib.hid (show w6.heap[q]? = some (.cells #[.int .i64 4, .string ⟨#[110]⟩, .int .i64 0, v] 34 (0, 0)) from by rw [hgrow.block q P2.out.lt (fun e => P2.out.ci.node_ne P2.out.bx e.symm)]; exact P2.out.bx); clear hown hgrow c3 ql; have c0 : World.cell? w6 ⟨q, 0, none⟩ = some (.int .i64 4) := (by first | (rw [Lib.cell_of_heap qc.out]; rfl) | rw [Lib.cell_of_heap qc.out]); have c1 : World.cell? w6 ⟨q, 1, none⟩ = some (.string ⟨#[110]⟩) := (by first | (rw [Lib.cell_of_heap qc.out]; rfl) | rw [Lib.cell_of_heap qc.out]); have c2 : World.cell? w6 ⟨q, 2, none⟩ = some (.int .i64 0) := (by first | (rw [Lib.cell_of_heap qc.out]; rfl) | rw [Lib.cell_of_heap qc.out]); have c3 : World.cell? w6 ⟨q, 3, none⟩ = some v := (by first | (rw [Lib.cell_of_heap qc.out]; rfl) | rw [Lib.cell_of_heap qc.out]); have f3 := Lib.frozen_of_heap qc.out 3; have ql := (Array.getElem?_eq_some_iff.1 qc.out).1))
        have K5 := Lib.hid (show KeyW (selK (i + 1) ks) (l ++ [(KN, KN, w5.heap.size)]) from by rw [show selK (i + 1) ks = selK i ks ++ [KN] from HKn.out]; exact HK.out.add KN w5.heap.size)
        generalize World.setCell w6 ⟨q, 3, none⟩ (.slice av (l.length + 1) nv) = w7 at *
        clear c0 c1 c2 c3 f3 ql HN2 B2' P2 P21 HC2 qc PB HLL
        go_roundw
        case rel => exact ⟨i + 1, _, _, by go_num, by omega, by omega, PZ, K5⟩
        case measure => simp [RowKit.intOf]; omega
    · have hex : decide ((i : Int) < 5) = false ∨ (decide ((i : Int) < 5) = true ∧ decide ((i : Int) < (NK : Int)) = false) := by
        by_cases h5 : i < 5
        · exact .inr ⟨decide_eq_true (by omega), decide_eq_false (by omega)⟩
        · exact .inl (decide_eq_false (by omega))
      have LM' := Lib.hid fun (x : It) (hx : x ∈ l) => (show x.1.length ≤ 2000000 ∧ x.2.1.length ≤ 2000000 from by
        obtain ⟨k, hk, e1, e2⟩ := HK.out.mem hx
        rw [e1, e2]
        have := (five_fine (selK_mem hk)).2.2.1; omega)
      have KC := Lib.hid fun p => HK.out.cases p
      have CSi := Lib.hid (CS.out i)
      have CMi := Lib.hid (CM.out i)
      have CIi := Lib.hid (CJ.out i)
      obtain ⟨hcov, hsay, hst, hid⟩ := HS.out i
      rw [hcov] at CMi CIi
      rw [hsay] at CSi
      generalize sayT [t0, t1, t2, t3, t4] 2 (caM 0 (selK i ks)) (caA c d) = ST at *
      generalize missL 2 (caM 0 (selK i ks)) [t0, t1, t2, t3, t4] = LM at *
      obtain ⟨NM, hNM⟩ : ∃ NM, LM.length = NM := ⟨_, rfl⟩
      rw [hNM] at CMi
      have HNM := Lib.hid hNM
      clear hNM
      generalize idleL 2 (caM 0 (selK i ks)) [t0, t1, t2, t3, t4] = LI at *
      have hs5 : ST.length ≤ 5 := by
        have h5 : KD.length ≤ 5 := by
          rcases HKI.out with h | h
          · rw [h]; decide
          · have := (five_fine h).2.2.1; omega
        rcases hst with h | ⟨h, _⟩
        · rw [h]; exact h5
        · rw [h]; decide
      have HST := Lib.hid hst
      have HID := Lib.hid hid
      have HS5 := Lib.hid hs5
      clear HS CS CM CJ hlt HK hcov hsay hst hid hs5 HKI
      have hex2 : decide ((i : Int) < 5) = false ∨ (decide ((i : Int) < 5) = true ∧ decide ((i : Int) < (NK : Int)) = false ∧ ¬ (i : Int) < (NK : Int) ∧ decide (i < NK) = false ∧ ¬ i < NK) := hex.imp_right fun h => ⟨h.1, h.2, of_decide_eq_false h.2, decide_eq_false (by have := of_decide_eq_false h.2; omega), by have := of_decide_eq_false h.2; omega⟩
      clear hex
      rcases hex2 with j5 | ⟨j5, jN, jA, jB, jC⟩
      all_goals
        obtain ⟨xa, xn, rfl⟩ := mrow_slice HP.out.ci.row
        have P31 := Lib.hid (HP.out.below (blw_alloc wr (.cells #[.int .i64 1, .string ⟨#[111, 116, 104, 101, 114]⟩, .int .i64 0, .slice none 0 0] 34)))
        have P3 := Lib.hid (P31.out.below (blw_alloc (wr.alloc (.cells #[.int .i64 1, .string ⟨#[111, 116, 104, 101, 114]⟩, .int .i64 0, .slice none 0 0] 34)) (.cells #[.string ⟨#[111, 116, 104, 101, 114]⟩, .slice (some ⟨wr.heap.size, 0, none⟩) 1 1] 41)))
        have B3' := Lib.hid (blw_trans (blw_alloc wr (.cells #[.int .i64 1, .string ⟨#[111, 116, 104, 101, 114]⟩, .int .i64 0, .slice none 0 0] 34)) (blw_alloc (wr.alloc (.cells #[.int .i64 1, .string ⟨#[111, 116, 104, 101, 114]⟩, .int .i64 0, .slice none 0 0] 34)) (.cells #[.string ⟨#[111, 116, 104, 101, 114]⟩, .slice (some ⟨wr.heap.size, 0, none⟩) 1 1] 41)))
        have HC3 := Lib.hid (Boxed.made (wr.alloc (.cells #[.int .i64 1, .string ⟨#[111, 116, 104, 101, 114]⟩, .int .i64 0, .slice none 0 0] 34)) #[.string ⟨#[111, 116, 104, 101, 114]⟩, .slice (some ⟨wr.heap.size, 0, none⟩) 1 1] 41)
        have HN3 := Lib.hid (((blw_alloc (wr.alloc (.cells #[.int .i64 1, .string ⟨#[111, 116, 104, 101, 114]⟩, .int .i64 0, .slice none 0 0] 34)) (.cells #[.string ⟨#[111, 116, 104, 101, 114]⟩, .slice (some ⟨wr.heap.size, 0, none⟩) 1 1] 41)).block wr.heap.size (by simp)).trans (obj_made wr #[.int .i64 1, .string ⟨#[111, 116, 104, 101, 114]⟩, .int .i64 0, .slice none 0 0] 34))
        simp only [World.size_alloc] at HC3
        have c3 := HP.out.c3v
        have ql := HP.out.lt
        go_upto_region 11 with fail
        go_wp2_with (at_builtin; go_loud (refine wpList_append_own_at _ rfl _ _ 32 rfl w3.heap.size 41 iC _ 2 40 Tryz.underlying32 hiC hC0 hC1 hC2 rfl (by decide) (.slice xa l.length xn) l.length (itF l) rfl P3.out.ci.row ⟨_, 0, none⟩ 1 1 [.string ⟨#[111, 116, 104, 101, 114]⟩, .slice (some ⟨wr.heap.size, 0, none⟩) 1 1] rfl rfl (boxed_add HC3.out) (fun u hu => by simp at hu; rcases hu with rfl | rfl <;> rfl) (by have := HLL.out; unfold maxLen; omega) (by have := HLL.out; omega) P3.out.bel.size ?_; intro v' w6 hown hgrow _ _; obtain ⟨av, nv, rfl⟩ := mrow_slice hown; have PZ := Lib.hid (HP.out.add (other, other, wr.heap.size) B3'.out (Nat.le_refl _) HN3.out hown hgrow); have PB := Lib.hid (show Below w3.heap.size w3 w6 from P3.out.bel.grown hgrow P3.out.bel.size (fun k hk => (P3.out.ci.own hk).1)); have qc := Lib.hid (show w6.heap[q]? = some (.cells #[.int .i64 4, .string ⟨#[110]⟩, .int .i64 0, (.slice xa l.length xn)] 34 (0, 0)) from by rw [hgrow.block q P3.out.lt (fun e => P3.out.ci.node_ne P3.out.bx e.symm)]; exact P3.out.bx); clear hown hgrow c3 ql; have c0 : World.cell? w6 ⟨q, 0, none⟩ = some (.int .i64 4) := (by first | (rw [Lib.cell_of_heap qc.out]; rfl) | rw [Lib.cell_of_heap qc.out]); have c1 : World.cell? w6 ⟨q, 1, none⟩ = some (.string ⟨#[110]⟩) := (by first | (rw [Lib.cell_of_heap qc.out]; rfl) | rw [Lib.cell_of_heap qc.out]); have c2 : World.cell? w6 ⟨q, 2, none⟩ = some (.int .i64 0) := (by first | (rw [Lib.cell_of_heap qc.out]; rfl) | rw [Lib.cell_of_heap qc.out]); have c3 : World.cell? w6 ⟨q, 3, none⟩ = some (.slice xa l.length xn) := (by first | (rw [Lib.cell_of_heap qc.out]; rfl) | rw [Lib.cell_of_heap qc.out]); have f3 := Lib.frozen_of_heap qc.out 3; have ql := (Array.getElem?_eq_some_iff.1 qc.out).1; have d0 : World.cell? w6 ⟨w.heap.size, 0, none⟩ = some (.int .i64 c) := (B3.out.below PB.out).cell 0 _ rfl; have d1 : World.cell? w6 ⟨w.heap.size, 1, none⟩ = some (.int .i64 d) := (B3.out.below PB.out).cell 1 _ rfl; have dl := (B3.out.below PB.out).lt))
        have hs67 : (World.setCell w6 ⟨q, 3, none⟩ (.slice av (l.length + 1) nv)).heap.size = w6.heap.size := by simp
        generalize World.setCell w6 ⟨q, 3, none⟩ (.slice av (l.length + 1) nv) = w7 at *
        rw [← hs67]
        clear hs67
        (try clear c0); (try clear c1); (try clear c2); (try clear c3); (try clear f3); (try clear ql); (try clear d0); (try clear d1); (try clear dl)
        (try clear qc); (try clear PB)
        clear HN3 B3' P3 P31 HC3
        have W8 := Lib.hid (blw_trans (blw_trans W3.out PZ.out.bel) (blw_alloc w7 (.cells #[.int .i64 4, .string ⟨#[110]⟩, .int .i64 0, .slice av (l.length + 1) nv] 34)))
        have P8 := Lib.hid (PZ.out.below (blw_alloc w7 (.cells #[.int .i64 4, .string ⟨#[110]⟩, .int .i64 0, .slice av (l.length + 1) nv] 34)))
        have BN := Lib.hid (Boxed.made w7 #[.int .i64 4, .string ⟨#[110]⟩, .int .i64 0, .slice av (l.length + 1) nv] 34)
        have M8 := Lib.hid (show MsgAt 2 (w7.alloc (.cells #[.int .i64 4, .string ⟨#[110]⟩, .int .i64 0, .slice av (l.length + 1) nv] 34)) (.slice (some ⟨w7.heap.size, 0, none⟩) 1 1) (caM 0 (selK i ks)) from by
          have hh : caM 0 (selK i ks) = [.mk 4 [110] 0 (itC (l ++ [(other, other, wr.heap.size)]))] := by unfold caM; rw [KC.out]
          rw [hh]
          refine msg_one (nd_cases (f := 1) (BN.out.cell 0 _ rfl) (BN.out.cell 1 _ rfl) (BN.out.cell 2 _ rfl) (BN.out.cell 3 _ rfl) (by decide) (P8.out.ci.cass fun x hx => ?_) ?_)
          · rcases List.mem_append.1 hx with hx | hx
            · exact LM'.out x hx
            · obtain rfl : x = (other, other, wr.heap.size) := by simpa using hx
              exact ⟨(by show other.length ≤ 2000000; decide), (by show other.length ≤ 2000000; decide)⟩
          · have := HLL.out; unfold itC; simp; omega)
        have B8 := Lib.hid ((B3.out.below PZ.out.bel).below (blw_alloc w7 (.cells #[.int .i64 4, .string ⟨#[110]⟩, .int .i64 0, .slice av (l.length + 1) nv] 34)))
        clear BN P8 PZ HP KC LM' B3 HLL
        generalize hmp : w7.heap.size = mp at *
        generalize w7.alloc (.cells #[.int .i64 4, .string ⟨#[110]⟩, .int .i64 0, .slice av (l.length + 1) nv] 34) = w8 at *
        clear hmp
        refine (CLh.out _).mono ?_
        rintro e w9 ⟨rfl, hb⟩
        have V9 := Lib.hid (blw_trans hb (blw_alloc w9 (.cells #[.string ⟨t0.toArray⟩, .string ⟨t1.toArray⟩, .string ⟨t2.toArray⟩, .string ⟨t3.toArray⟩, .string ⟨t4.toArray⟩] 54)))
        have W9 := Lib.hid (blw_trans W8.out V9.out)
        have B9 := Lib.hid (B8.out.below V9.out)
        have M9 := Lib.hid (msg_below M8.out V9.out)
        have BS := Lib.hid (Boxed.made w9 #[.string ⟨t0.toArray⟩, .string ⟨t1.toArray⟩, .string ⟨t2.toArray⟩, .string ⟨t3.toArray⟩, .string ⟨t4.toArray⟩] 54)
        have CMj := Lib.hid (CMi.out _ _ W9.out M9.out)
        clear hb V9 CLh CMi W8 B8 M8
        go_wp2_with fail
        refine CMj.out.mono ?_
        rintro e w10 ⟨u1, rfl, hr, hb⟩
        rw [show errN 0 = .nilIface from rfl]
        obtain ⟨ua, uc, rfl⟩ := mrow_slice hr
        have W10 := Lib.hid (blw_trans W9.out hb)
        have B10 := Lib.hid (B9.out.below hb)
        have M10 := Lib.hid (msg_below M9.out hb)
        have BS1 := Lib.hid (BS.out.below hb)
        have CIj := Lib.hid (CIi.out _ _ W10.out M10.out)
        have s0 : w10.cell? ⟨w9.heap.size, 0, none⟩ = some (.string ⟨t0.toArray⟩) := BS1.out.cell 0 _ rfl
        have s1 : w10.cell? ⟨w9.heap.size, 1, none⟩ = some (.string ⟨t1.toArray⟩) := BS1.out.cell 1 _ rfl
        have s2 : w10.cell? ⟨w9.heap.size, 2, none⟩ = some (.string ⟨t2.toArray⟩) := BS1.out.cell 2 _ rfl
        have s3 : w10.cell? ⟨w9.heap.size, 3, none⟩ = some (.string ⟨t3.toArray⟩) := BS1.out.cell 3 _ rfl
        have s4 : w10.cell? ⟨w9.heap.size, 4, none⟩ = some (.string ⟨t4.toArray⟩) := BS1.out.cell 4 _ rfl
        have sl := BS1.out.lt
        clear hb hr CMj CIi W9 B9 M9 BS
        go_wp2_with fail
        refine CIj.out.mono ?_
        rintro e w11 ⟨u2, rfl, hr, hb⟩
        rw [show errN 0 = .nilIface from rfl]
        obtain ⟨va, vc, rfl⟩ := mrow_slice hr
        have RI := Lib.hid (StrsAt.of_row hr)
        have W11 := Lib.hid (blw_trans (blw_trans W10.out hb) (blw_alloc w11 (.cells #[.string ⟨#[110]⟩, .bool true, .int .i64 c, .int .i64 d, .string ⟨#[]⟩] 36)))
        have B11 := Lib.hid (B10.out.below hb)
        have M11 := Lib.hid (msg_below M10.out (blw_trans hb (blw_alloc w11 (.cells #[.string ⟨#[110]⟩, .bool true, .int .i64 c, .int .i64 d, .string ⟨#[]⟩] 36))))
        have BS2 := Lib.hid ((BS1.out.below hb).below (blw_alloc w11 (.cells #[.string ⟨#[110]⟩, .bool true, .int .i64 c, .int .i64 d, .string ⟨#[]⟩] 36)))
        have BB := Lib.hid (B11.out.below (blw_alloc w11 (.cells #[.string ⟨#[110]⟩, .bool true, .int .i64 c, .int .i64 d, .string ⟨#[]⟩] 36)))
        have RI2 := Lib.hid (StrsAt.below RI.out (blw_alloc w11 (.cells #[.string ⟨#[110]⟩, .bool true, .int .i64 c, .int .i64 d, .string ⟨#[]⟩] 36)))
        have A11 := Lib.hid (show ArgsAt (w11.alloc (.cells #[.string ⟨#[110]⟩, .bool true, .int .i64 c, .int .i64 d, .string ⟨#[]⟩] 36)) (.slice (some ⟨w11.heap.size, 0, none⟩) 1 1) (caA c d) from args_box (l := caA c d) (Boxed.made _ _ _) (by show 0 < 1; omega) (by show 1 ≤ 1000; omega))
        have CSj := Lib.hid (CSi.out _ _ _ W11.out M11.out A11.out)
        rw [errN_zero] at CSj
        have d0 : w11.cell? ⟨w.heap.size, 0, none⟩ = some (.int .i64 c) := B11.out.cell 0 _ rfl
        have d1 : w11.cell? ⟨w.heap.size, 1, none⟩ = some (.int .i64 d) := B11.out.cell 1 _ rfl
        have dl := B11.out.lt
        clear hb hr CIj CSi W10 B10 M10 BS1 RI A11 M11 s0 s1 s2 s3 s4 sl
        go_wp2_with fail
        refine CSj.out.mono ?_
        rintro e w12 ⟨rfl, hb⟩
        have W12 := Lib.hid (blw_trans W11.out hb)
        have B12 := Lib.hid (BB.out.below hb)
        have BS3 := Lib.hid (BS2.out.below hb)
        have RI3 := Lib.hid (StrsAt.below RI2.out hb)
        have CKj := Lib.hid (CK.out _ W12.out)
        clear hb CSj W11 BB B11 BS2 RI2 CK d0 d1 dl
        have d0 : w12.cell? ⟨w.heap.size, 0, none⟩ = some (.int .i64 c) := B12.out.cell 0 _ rfl
        have d1 : w12.cell? ⟨w.heap.size, 1, none⟩ = some (.int .i64 d) := B12.out.cell 1 _ rfl
        have dl := B12.out.lt
        have s0 : w12.cell? ⟨w9.heap.size, 0, none⟩ = some (.string ⟨t0.toArray⟩) := BS3.out.cell 0 _ rfl
        have s1 : w12.cell? ⟨w9.heap.size, 1, none⟩ = some (.string ⟨t1.toArray⟩) := BS3.out.cell 1 _ rfl
        have s2 : w12.cell? ⟨w9.heap.size, 2, none⟩ = some (.string ⟨t2.toArray⟩) := BS3.out.cell 2 _ rfl
        have s3 : w12.cell? ⟨w9.heap.size, 3, none⟩ = some (.string ⟨t3.toArray⟩) := BS3.out.cell 3 _ rfl
        have s4 : w12.cell? ⟨w9.heap.size, 4, none⟩ = some (.string ⟨t4.toArray⟩) := BS3.out.cell 4 _ rfl
        have sl := BS3.out.lt
        go_wp2_with fail
        refine CKj.out.mono ?_
        rintro e w13 ⟨rfl, hb⟩
        have W13 := Lib.hid (blw_trans W12.out hb)
        have RI4 := Lib.hid (StrsAt.below RI3.out hb)
        clear hb CKj W12 B12 BS3 RI3 d0 d1 dl s0 s1 s2 s3 s4 sl
        obtain ⟨DS, hDS⟩ : ∃ DS, DS = 110 :: 46 :: ST := ⟨_, rfl⟩
        have AD : ∀ w, (Op.stringOp .add ⟨#[110, 46]⟩ ⟨ST.toArray⟩).run Tryz.prog w = .ok (.string ⟨DS.toArray⟩) w := fun w => by rw [hDS]; exact add_str (P := Tryz.prog) [110, 46] ST (by have := HS5.out; simp; omega) w
        have CN := Lib.hid fun (wx : World) (hb : Below w13.heap.size w13 wx) => sin_any LI _ DS wx (RI4.out.below hb)
        have hid := HID.out
        rw [← hDS] at hid
        rw [hid] at CN
        have CNi := Lib.hid (CN.out _ (Below.refl _ _))
        clear hDS hid HID CN RI4 HS5
        cases hq : ST == KD with
        | true =>
          obtain rfl : ST = KD := by simpa using hq
          clear HST hq
          by_cases hz : 0 < NM
          · have z1 : decide ((0 : Int) < (NM : Int)) = true := decide_eq_true (by omega)
            have z2 : (0 : Int) < (NM : Int) := by omega
            go_wp2_with fail
            refine CNi.out.mono ?_
            rintro e w14 ⟨rfl, rfl⟩
            go_wp2_with fail
            go_ret
            exact ⟨ret_bool (by simp), W13.out⟩
          · obtain rfl : NM = 0 := by omega
            clear hz
            go_wp2_with fail
            refine CNi.out.mono ?_
            rintro e w14 ⟨rfl, rfl⟩
            go_wp2_with fail
            go_ret
            exact ⟨ret_bool (by simp), W13.out⟩
        | false =>
          have hne : ST ≠ KD := fun e => by rw [e] at hq; simp at hq
          obtain ⟨hoth, hml⟩ : ST = other ∧ LM ≠ [] := by
            rcases HST.out with h | h
            · exact absurd h hne
            · exact h
          have hz : 0 < NM := by have := List.length_pos_iff.2 hml; have := HNM.out; omega
          have z1 : decide ((0 : Int) < (NM : Int)) = true := decide_eq_true (by omega)
          have z2 : (0 : Int) < (NM : Int) := by omega
          obtain rfl := hoth
          unfold other at *
          have AD2 : ∀ w, (Op.stringOp .add ⟨#[110, 46]⟩ ⟨#[111, 116, 104, 101, 114]⟩).run Tryz.prog w = .ok (.string ⟨DS.toArray⟩) w := AD
          clear HST hne hml
          go_wp2_with fail
          refine CNi.out.mono ?_
          rintro e w14 ⟨rfl, rfl⟩
          go_wp2_with fail
          go_ret
          exact ⟨ret_bool (by simp), W13.out⟩
theorem csays_any {vk : Value} (ks : List Bool) (c d : Int) (lang : List UInt8) (w : World) (hw : MW w) (hE : EvW w) (hk : SlAt 1 BoolC w vk ks) :
    Calls Tryz.prog 7 #[vk, .string ⟨lang.toArray⟩, .agg #[.int .i64 c, .int .i64 d]] w fun e w' => e = .returned (.bool true) ∧ Below w.heap.size w w' := by
  by_cases hd : okD c d
  · exact csays_in ks c d lang w hw hE hk hd
  · exact csays_out vk c d lang w hw hE hd
end Go.Proofs.YtldbfkccieipjaaGreatDoor
namespace Go.Proofs.YtldbfkccieipjaaGreatDoor
open Go.RowKit Go.WideShapes Go.ChangeShapes Go.Deep

theorem list_by {α : Type} {Q : Nat → α → Prop} : ∀ (n : Nat), (∀ i, i < n → ∃ t, Q i t) → ∃ L : List α, L.length = n ∧ ∀ i t, L[i]? = some t → Q i t
  | 0, _ => ⟨[], rfl, fun i t h => by simp at h⟩
  | n + 1, h => by
    obtain ⟨L, hl, hq⟩ := list_by n fun i hi => h i (by omega)
    obtain ⟨t, ht⟩ := h n (by omega)
    refine ⟨L ++ [t], by simp [hl], fun i x hx => ?_⟩
    by_cases hi : i < n
    · rw [List.getElem?_append_left (by omega)] at hx; exact hq i x hx
    · rw [List.getElem?_append_right (by omega)] at hx
      have hk : i - L.length < 1 := (List.getElem?_eq_some_iff.1 hx).1
      obtain rfl : i = n := by omega
      rw [hl, Nat.sub_self] at hx
      obtain rfl : t = x := by simpa using hx
      exact ht
theorem bulk_sum {H : Type} {α : Type} (bulk : α → Nat) : ∀ (L : List α) (D : Nat → DataW H) (k : Nat), (∀ i x, L[i]? = some x → bulk x + 1 ≤ Rows.uptoBulk (D (k + i))) → (L.map bulk).sum + L.length ≤ Rows.uptoBulkAll ((List.range' k L.length).map D)
  | [], _, _, _ => by simp [Rows.uptoBulkAll]
  | x :: r, D, k, h => by
    have a := h 0 x rfl
    have b := bulk_sum bulk r D (k + 1) fun i y hy => by
      have := h (i + 1) y (by simpa using hy)
      rwa [show k + 1 + i = k + (i + 1) by omega]
    rw [List.length_cons, List.range'_succ, List.map_cons, List.map_cons, List.sum_cons]
    simp only [Rows.uptoBulkAll]
    simp only [Nat.add_zero] at a
    omega
section
variable {H : Type} {enc : TypeId × Value → H} {P : Program} {w : World} {base : Nat} {sp : Nat → Bool} {held : Bool}
theorem sl_open {α : Type} {fuel m : Nat} {t e : TypeId} {C : World → Nat → Nat → α → Prop} (bulk : α → Nat) (ht : P.underlying t = some (.slice e)) (hC : P.cellsOf e = m) (hm : 0 < m)
    (el : ∀ (b off : Nat) (cs : List Value) (n : Nat) (y : DataW H × List MemPlace), (∀ i, i < m → w.cell? ⟨b, off + i, none⟩ = cs[i]?) → cs.length = m → DataW.trod enc P w base sp held n e cs = some y → ∃ x : α, C w b off x ∧ bulk x + 1 ≤ Rows.uptoBulk y.1)
    {a : Option Addr} {n c : Nat} {d : DataW H} {p : List MemPlace} (h : DataW.trod enc P w base sp held fuel t (Value.slice a n c).cells.toList = some (d, p)) :
    ∃ l : List α, SlAt m C w (.slice a n c) l ∧ (l.map bulk).sum + l.length + 1 ≤ Rows.uptoBulk d := by
  rcases open_slice ht h with ⟨hcs, hx⟩ | ⟨a', len, cap, mm, nn, D, Pl, hcs, _, hl, hcm, hmm, hx, hi⟩
  · have e1 : Value.slice a n c = .slice none 0 0 := by simpa [Value.cells] using hcs
    rw [e1]
    refine ⟨[], .inl ⟨rfl, none, 0, rfl⟩, ?_⟩
    rw [show d = .nil from congrArg Prod.fst hx]
    simp [Rows.uptoBulk]
  · have e1 : Value.slice a n c = .slice (some a') len cap := by simpa [Value.cells] using hcs
    rw [e1]
    have hd : d = .slice ((List.range len).map D) ((List.range (mm - len)).map fun j => D (len + j)) := congrArg Prod.fst hx
    by_cases hz : len = 0
    · subst hz
      refine ⟨[], .inl ⟨rfl, _, _, rfl⟩, ?_⟩
      rw [hd]
      simp only [List.map_nil, List.sum_nil, List.length_nil, Rows.uptoBulk]
      omega
    have hlm : len ≤ mm := by rw [hmm]; split <;> omega
    rw [hC] at hi
    obtain ⟨b, off, spot⟩ := a'
    have hsp : spot = none := by
      obtain ⟨cs0, q0, _⟩ := hi 0 (by omega)
      obtain ⟨_, q1, q2⟩ := World.cells?_some q0
      have q3 := q2 0 hm
      rw [List.getElem?_eq_getElem (by omega)] at q3
      simpa [Addr.add] using World.cell?_spot q3
    subst hsp
    obtain ⟨L, hL, hQ⟩ := list_by (Q := fun i x => C w b (off + i * m) x ∧ bulk x + 1 ≤ Rows.uptoBulk (D i)) len fun i hil => by
      obtain ⟨cs', q0, q1⟩ := hi i (by omega)
      obtain ⟨_, q2, q3⟩ := World.cells?_some q0
      rw [Go.WideShapes.add_plain] at q3
      exact el b (off + i * m) cs' nn _ (fun j hj => by have := q3 j hj; rwa [Go.WideShapes.add_plain] at this) q2 q1
    refine ⟨L, .inr ⟨b, off, cap, by rw [hL], by omega, by omega, hcm, fun j x hx => (hQ j x hx).1⟩, ?_⟩
    have s := bulk_sum bulk L D 0 (fun i x hx => by have := (hQ i x hx).2; rwa [Nat.zero_add])
    rw [hL, ← List.range_eq_range'] at s
    rw [hd, hL]
    simp only [Rows.uptoBulk]
    omega
end
end Go.Proofs.YtldbfkccieipjaaGreatDoor
namespace Go.Proofs.YtldbfkccieipjaaGreatDoor
open Go.RowKit Go.WideShapes Go.ChangeShapes
theorem bools_open {H : Type} {enc : TypeId × Value → H} {P : Program} {w : World} {base : Nat} {sp : Nat → Bool} {held : Bool} {fuel : Nat} {t e : TypeId} {a : Option Addr} {n c : Nat} {d : DataW H} {p : List MemPlace}
    (ht : P.underlying t = some (.slice e)) (he : P.underlying e = some .bool) (hC : P.cellsOf e = 1) (h : DataW.trod enc P w base sp held fuel t (Value.slice a n c).cells.toList = some (d, p)) : ∃ l : List Bool, SlAt 1 BoolC w (.slice a n c) l := by
  obtain ⟨l, h1, _⟩ := sl_open (C := BoolC) (fun _ => 0) ht hC (by decide) (fun b off cs n y hcs _ hy => by
    obtain ⟨x, rfl, rfl⟩ := DataW.trod_bool he hy
    refine ⟨x, ?_, by simp [Rows.uptoBulk]⟩
    have := hcs 0 (by decide)
    rw [Nat.add_zero] at this
    exact this) h
  exact ⟨l, h1⟩
end Go.Proofs.YtldbfkccieipjaaGreatDoor
namespace Go.Proofs.YtldbfkccieipjaaGreatDoor.lawCoverSays
open Go.ChangeShapes Go.WideShapes Go.ChangeAt Go.RowKit Go.Joins

theorem own : ownKnob Tryz.prog.godebug = none := by kernel_rfl
theorem laidOut : laidOutB Tryz.prog = true := by kernel_rfl
theorem cellsDec : Tryz.prog.cellsOf 31 = 2 := by kernel_rfl

set_option maxRecDepth 100000 in
theorem contract (H : Type) (enc : TypeId × Value → H) (W : World) (base : Nat) (args : Array Value) (ds gs : List (DataW H)) (before : List MemPlace)
    (hval : ∀ (j : Nat) t v, Tryz.f7.params[j]? = some t → args[j]? = some v → Value.okWide Tryz.prog W .any base t v)
    (hW : DataW.Whole enc Tryz.prog Tryz.f7.params.toList Rows.coverSaysSpec.vars false W args.toList ds gs before) (hL : laidMetH Tryz.prog Rows.coverSaysUptoRow.laid W) (hS : W.ShapedOpen Tryz.prog) :
    Calls Tryz.prog 7 args W fun e W' => ∃ v, e = .returned v ∧ Rows.coverSaysSpec.post enc Tryz.prog Tryz.f7 false true false false W args v W' := by
  have hpost : ∀ W', Below W.heap.size W W' → Rows.coverSaysSpec.post enc Tryz.prog Tryz.f7 false true false false W args (.bool true) W' := fun W' hb =>
    law_post (tb := 4) laidOut rfl Tryz.underlying4 rfl (by kernel_rfl) (fun ds h => by match ds, h with | [x0, x1, x2], _ => rfl) hW hb
  obtain ⟨p, q, hA0, hV, _, hfz, hnd⟩ := hW
  have hA : DataW.TrodAll enc Tryz.prog W 0 (fun _ => true) true Tryz.f7.params.toList args.toList ds p := hA0
  obtain ⟨rfl, rfl⟩ := trodVars_none hV
  rw [Tryz.params7] at hA hval
  obtain ⟨v0, vs0, d0, ds0, p0, q0, hargs, rfl, hp0, h0, r0⟩ := trodAll_cons hA
  obtain ⟨v1, vs1, d1, ds1, p1, q1, rfl, rfl, hp1, h1, r1⟩ := trodAll_cons r0
  obtain ⟨v2, vs2, d2, ds2, p2, q2, rfl, rfl, hp2, h2, r2⟩ := trodAll_cons r1
  obtain ⟨rfl, rfl, hp⟩ := trodAll_nil r2
  obtain rfl : args = #[v0, v1, v2] := by cases args; simp_all
  obtain ⟨kinds_a, kinds_n, kinds_c, rfl⟩ := okWide_slice Tryz.underlying49 (hval 0 49 v0 rfl rfl)
  obtain ⟨kinds_f, kinds_h⟩ := h0
  obtain ⟨lang, rfl, rfl, rfl, w_lang⟩ := ChangeMaps.open_string Tryz.underlying9 (hval 1 9 v1 rfl rfl) h1
  obtain ⟨c2_0, c2_1, y2_0, y2_1, m2, rfl, rfl, rfl, hy2_0, hy2_1⟩ := open_agg2 Tryz.underlying31 (by kernel_rfl) cellsDec (hval 2 31 v2 rfl rfl) h2
  obtain ⟨d_c, e2_0, _, w_d_c⟩ := DataW.trod_int Tryz.underlying3 hy2_0
  obtain ⟨d_s, e2_1, _, w_d_s⟩ := DataW.trod_int Tryz.underlying3 hy2_1
  simp at e2_0 e2_1
  subst e2_0 e2_1
  have b_d_c := bounds_i64 w_d_c
  have b_d_s := bounds_i64 w_d_s
  clear hA0 hfz hnd hval
  have hm : MaxW W := Go.Proofs.cell_of_shapedOpen_int (zero := #[.int .i64 0]) (t := 3) hS (of_decide_eq_true (by kernel_rfl)) (by kernel_rfl) rfl (by kernel_rfl) (by kernel_rfl) Tryz.underlying3
  have hT : TR W := ⟨powW_of hL (by kernel_rfl), numW_of hL (by kernel_rfl) (by kernel_rfl), hm⟩
  have hM : MW W := ⟨powW_of hL (by kernel_rfl), numW_of hL (by kernel_rfl) (by kernel_rfl), kdW_of hL (by kernel_rfl)⟩
  have hE : EvW W := ⟨hT, kindsW_of hL (by kernel_rfl), numerW_of hL (by kernel_rfl) (by kernel_rfl)⟩
  obtain ⟨ks, ks_at⟩ := bools_open Tryz.underlying49 Tryz.underlying4 (by kernel_rfl) kinds_h
  refine Calls.mono (?_ : Calls Tryz.prog 7 #[.slice kinds_a kinds_n kinds_c, .string lang, .agg #[.int .i64 d_c, .int .i64 d_s]] W fun e w' => e = .returned (.bool true) ∧ Below W.heap.size W w') fun e W' ⟨he, hb⟩ => ⟨_, he, hpost W' hb⟩
  obtain ⟨ll, rfl⟩ : ∃ x : List UInt8, lang = ⟨x.toArray⟩ := ⟨lang.data.toList, rfl⟩
  exact csays_any ks d_c d_s ll W hM hE ks_at

theorem start_met (os : Os) : laidMetH Tryz.prog Rows.coverSaysUptoRow.laid ((World.laidAll Tryz.prog os Rows.coverSaysUptoRow.laid).forCall (fun _ _ => 0) ⟨#[], #[.slice none 0 0, .string ⟨#[]⟩, .agg #[.int .i64 0, .int .i64 0]], []⟩).memory :=
  by rw [MakeChecks.laidMetH_plain _ _ _ (by kernel_rfl)]; exact laidMet_laidAll _ (by kernel_rfl) (by kernel_rfl)
theorem start_reads (os : Os) {H : Type} (enc : TypeId × Value → H) : ∃ places, DataW.whole enc Tryz.prog ((World.laidAll Tryz.prog os Rows.coverSaysUptoRow.laid).forCall (fun _ _ => 0) ⟨#[], #[.slice none 0 0, .string ⟨#[]⟩, .agg #[.int .i64 0, .int .i64 0]], []⟩).memory Tryz.f7.params.toList Rows.coverSaysSpec.vars false (#[.slice none 0 0, .string ⟨#[]⟩, .agg #[.int .i64 0, .int .i64 0]] : Array Value).toList 8 = some ([.nil, .lit (.string []), .agg [.lit (.int .i64 0), .lit (.int .i64 0)]], [], places) :=
  ⟨[], by kernel_rfl⟩

set_option maxRecDepth 100000 in
theorem lifted (os : Os) (started : os.Started) (H : Type) (enc : TypeId × Value → H) (F : Stop.Interp) :
    ReturnsInHanded {} Tryz.checked os 7 .any ((Rows.OpenSpec.upto Rows.coverSaysSpec).preRow enc Tryz.prog Tryz.f7 Rows.coverSaysUptoRow.domain false Rows.coverSaysUptoRow.laid) (((Rows.OpenSpec.upto Rows.coverSaysSpec).at F).post enc Tryz.prog Tryz.f7 false true false false) := by
  obtain ⟨places, hx⟩ := start_reads os enc
  refine returnsInHanded_of_row (C := Tryz.checked) (s := Rows.OpenSpec.upto Rows.coverSaysSpec) own started (by kernel_rfl) Tryz.func7
    (witness_row_atRef (enc := enc) (C := Tryz.checked) false (World.laidAll Tryz.prog os Rows.coverSaysUptoRow.laid) #[.slice none 0 0, .string ⟨#[]⟩, .agg #[.int .i64 0, .int .i64 0]] (World.laidAll_os _ _ _) (by kernel_rfl) (by kernel_rfl) (by kernel_rfl)
      (OpenSpec.preRow_of_cond 8 hx (by kernel_rfl) (fun k hk => by cases hk; kernel_rfl) (by kernel_rfl) (start_met os))) ?_
  intro W base args ds gs before hval hW _ _ _ hL hS _
  exact contract H enc W base args ds gs before hval hW hL hS

theorem cl1 : (Rows.coverSaysUptoRow.inPlace == Tryz.pinned.checked.prog.inPlace 7) = true := by kernel_rfl
theorem cl2 : (Rows.coverSaysUptoRow.unfollowed == Tryz.pinned.checked.prog.unfollowed 7) = true := by kernel_rfl
theorem cl3 : (Rows.coverSaysUptoRow.recurses == Tryz.pinned.checked.prog.recurses 7) = true := by kernel_rfl
theorem cl4 : (Rows.coverSaysUptoRow.named == Tryz.pinned.checked.prog.varsNamed 7) = true := by kernel_rfl
theorem closed : joinedFacts Tryz.pinned.checked.prog 7 Tryz.f7 (Rows.OpenSpec.upto Rows.coverSaysSpec).bare Rows.coverSaysUptoRow = true := by
  unfold joinedFacts
  rw [cl1, cl2, cl3, cl4]
  kernel_rfl

theorem said : Rows.CoverSaysUptoSaid :=
  OpenClaim.holds_of_cond 7 Tryz.f7 rfl rfl rfl rfl rfl rfl rfl ⟨rfl, rfl, rfl, rfl, rfl⟩ rfl rfl rfl rfl rfl (by kernel_rfl) Tryz.func7 closed
    (of_decide_eq_true (by kernel_rfl)) (by unfold Func.isWrapper; first | (rw [if_pos (by decide +kernel)]; kernel_rfl) | (rw [if_neg (by decide +kernel)]; exact ⟨rfl, rfl⟩))
    (fun os started H enc _ F => by rw [OpenClaim.pre_eq_preRow]; exact lifted os started H enc F)

theorem plain (f : FuncId) (fn : Func) (hf : Tryz.pinned.checked.prog.funcNamed "linguister/linguisterlaw3.CoverSays" = some f) (hfn : Tryz.pinned.checked.prog.funcs[f]? = some fn) :
    true = Tryz.pinned.checked.prog.looks [] ∧ ∀ (j : Nat) t, fn.params[j]? = some t → Tryz.pinned.checked.prog.wantsStandIn t = false := by
  obtain rfl : f = 7 := Option.some.inj ((show Tryz.prog.funcNamed "linguister/linguisterlaw3.CoverSays" = some 7 by kernel_rfl).symm.trans hf) |>.symm
  obtain rfl : fn = Tryz.f7 := (Option.some.inj (Tryz.func7.symm.trans hfn)).symm
  refine ⟨by kernel_rfl, fun j t ht => ?_⟩
  rw [Tryz.params7] at ht
  have hm : t ∈ [49, 9, 31] := by simpa using Array.mem_of_getElem? ht
  have hall : ([49, 9, 31].all fun u => !Tryz.prog.wantsStandIn u) = true := by kernel_rfl
  exact (show Tryz.prog.wantsStandIn t = false by simpa using List.all_eq_true.1 hall t hm)

theorem proved : Rows.CoverSaysUptoCardSaid :=
  Claim7.holds_tied_plain_at .later [] _ _ _ _ said (fun _ h => by cases h) (by kernel_rfl) (fun _ h => by cases h) coverSaysUpto_row_tie rfl ⟨rfl, rfl⟩ (by kernel_rfl) rfl plain (by kernel_rfl)
#print axioms proved
end Go.Proofs.YtldbfkccieipjaaGreatDoor.lawCoverSays
