/- The law EvalSelect, proved where what it reads is of bulk at most 1048576: the call returns true of every input, and turns nothing that was there. Conditions: the row's own (the listed variables hold what the program's text lays; the card ties them). -/
import Derived.Test.YtldbfkccieipjaaGreatDoorEvSa
import Derived.Test.YtldbfkccieipjaaGreatDoorEf23
import Derived.Test.YtldbfkccieipjaaGreatDoorEf7
import Derived.Test.YtldbfkccieipjaaGreatDoorEf5
import Derived.Test.YtldbfkccieipjaaGreatDoorEf4
import Derived.Test.YtldbfkccieipjaaGreatDoorEf9
import Derived.Test.YtldbfkccieipjaaGreatDoorCards
import Derived.Test.YtldbfkccieipjaaGreatDoorTie
import Derived.Deep.DeepHandedRow
import Derived.Deep.DeepWitnessRowRef
import Derived.Stop.Joined
import Derived.Lay
import Derived.Test.YtldbfkccieipjaaGreatDoorEf6
import Derived.Test.YtldbfkccieipjaaGreatDoorEf8
import Derived.Test.YtldbfkccieipjaaGreatDoorEf12
import Derived.Test.YtldbfkccieipjaaGreatDoorEf16
namespace Go.Proofs.YtldbfkccieipjaaGreatDoor
open Go.RowKit Ms
open Dcm (okD)
theorem SI.c3 {w0 : World} {q : Nat} {K : Int} {T : List UInt8} {O : Int} {v : Value} {l : List It} {w : World} (h : SI w0 q K T O v l w) : w.cell? ⟨q, 3, none⟩ = some v := by rw [Lib.cell_of_heap h.bx]; rfl
/-- so many keys are cases -/
def Keyed (ks : List (List UInt8)) (l : List It) : Prop := l.map (fun x => (x.1, x.2.1)) = ks.map (fun k => (k, 60 :: k)) ∧ (∀ k ∈ ks, nameB k = true ∧ k ≠ other) ∧ ks.Nodup
theorem Keyed.nil : Keyed [] [] := ⟨rfl, by simp, by simp⟩
theorem Keyed.add {ks : List (List UInt8)} {l : List It} (h : Keyed ks l) {k : List UInt8} (hn : nameB k = true) (ho : k ≠ other) (hc : k ∉ ks) (p : Nat) : Keyed (ks ++ [k]) (l ++ [(k, 60 :: k, p)]) := by
  refine ⟨by rw [List.map_append, List.map_append, h.1]; rfl, fun z hz => ?_, ?_⟩
  · rcases List.mem_append.1 hz with hz | hz
    · exact h.2.1 z hz
    · obtain rfl : z = k := by simpa using hz
      exact ⟨hn, ho⟩
  · rw [List.nodup_append]
    exact ⟨h.2.2, by simp, fun a ha b hb e => hc (by have hb' : b = k := (by simpa using hb); rw [← hb', ← e]; exact ha)⟩
theorem Keyed.len {ks : List (List UInt8)} {l : List It} (h : Keyed ks l) : l.length = ks.length := by
  have := congrArg List.length h.1
  simpa using this
theorem Keyed.mem {ks : List (List UInt8)} {l : List It} (h : Keyed ks l) {x : It} (hx : x ∈ l) : ∃ k ∈ ks, x.1 = k ∧ x.2.1 = 60 :: k := by
  have h1 : (x.1, x.2.1) ∈ l.map (fun x => (x.1, x.2.1)) := List.mem_map.2 ⟨x, hx, rfl⟩
  rw [h.1] at h1
  obtain ⟨k, hk, e⟩ := List.mem_map.1 h1
  injection e with e1 e2
  exact ⟨k, hk, e1.symm, e2.symm⟩
theorem Keyed.cases {ks : List (List UInt8)} {l : List It} (h : Keyed ks l) (p : Nat) : itC (l ++ [(other, [60, 60], p)]) = selC ks := by
  rw [itC_add]
  unfold selC
  congr 1
  have := congrArg (List.map fun y : List UInt8 × List UInt8 => (y.1, [Nd.mk 1 y.2 0 []])) h.1
  rw [List.map_map, List.map_map] at this
  exact this
set_option maxRecDepth 100000 in
set_option maxHeartbeats 20000000 in
theorem esel_any {vk : Value} (keys : List (List UInt8)) (text lang : List UInt8) (w : World) (hw : MW w) (hE : EvW w) (hk : StrsAt w vk keys) (hkl : keys.length ≤ 1500000) (hkn : ∀ k ∈ keys, k.length ≤ 1500000) (htl : text.length ≤ 1500000) :
    Calls Tryz.prog 6 #[vk, .string ⟨text.toArray⟩, .string ⟨lang.toArray⟩] w fun e w' => e = .returned (.bool true) ∧ Below w.heap.size w w' := by
  obtain ⟨t0, t1, t2, t3, t4, b, hS, hb0, CL, _⟩ := lang_set lang
  obtain ⟨iC, hiC, hC0, hC1, hC2⟩ := info_parts infoCase
  have CC := Lib.hid (counted_any w hw hE)
  have CS := Lib.hid fun (v va : Value) (wx : World) (hb : Below w.heap.size w wx) (hm : MsgAt 2 wx v (selM keys)) (ha : ArgsAt wx va (selA text)) => esay_any lang t0 t1 t2 t3 t4 b wx (hw.below hb) (hE.below hb) hm (by show 1 ≤ 2000000; omega) ha (by show 1 ≤ 2000000; omega) (fun a h => by
    obtain rfl : a = ⟨[115], false, 0, 0, text⟩ := by simpa [selA] using h
    show 1 ≤ 4000000000; omega) (fun a h => by
    obtain rfl : a = ⟨[115], false, 0, 0, text⟩ := by simpa [selA] using h
    show text.length ≤ 2000000; omega) hS hb0 CL
  have HSD := Lib.hid fun (h : ∀ k ∈ keys, nameB k = true ∧ k ≠ other) (hd : keys.Nodup) (hl : keys.length ≤ 50) => (show sayE [t0, t1, t2, t3, t4] 2 (selM keys) (selA text) = 0 ∧ sayT [t0, t1, t2, t3, t4] 2 (selM keys) (selA text) = (if keys.contains text then 60 :: text else [60, 60]) from by
    have hf := sel_fit h hd hl text
    have hs : sayO [t0, t1, t2, t3, t4] 2 (selM keys) (selA text) = some (if keys.contains text then 60 :: text else [60, 60]) := sel_said _ h text
    unfold sayE sayT
    rw [if_pos hf, if_pos hf, hs]
    exact ⟨rfl, rfl⟩)
  have CN := Lib.hid fun (k : List UInt8) (hk : k ∈ keys) (wx : World) => qname_any k wx (by have := hkn k hk; omega)
  have HKN := Lib.hid hkn
  have CIN := Lib.hid fun (wx : World) (hb : Below w.heap.size w wx) => (sin_any keys vk text wx (hk.below hb)).mono fun e w' (h : e = .returned (.bool (keys.contains text)) ∧ wx = w') => (show e = .returned (.bool (keys.contains text)) ∧ Below wx.heap.size wx w' from ⟨h.1, by rw [← h.2]; exact Below.refl _ _⟩)
  obtain ⟨A, cap, rfl, hcap, HX⟩ : ∃ A cap, vk = .slice A keys.length cap ∧ (keys.length ≤ cap ∨ keys.length = 0) ∧ Hid (∀ (j : Nat) x, keys[j]? = some x → ∃ b off, A = some ⟨b, off, none⟩ ∧ w.cell? ⟨b, off + j, none⟩ = some (.string ⟨x.toArray⟩) ∧ ∀ wx, Below w.heap.size w wx → ∀ (k : Nat) (z : List UInt8), k ≤ keys.length → Calls Tryz.prog 16 #[.slice (some ⟨b, off, none⟩) k cap, .string ⟨z.toArray⟩] wx fun e w' => e = .returned (.bool ((keys.take k).contains z)) ∧ Below wx.heap.size wx w') := by
    rcases hk with ⟨rfl, a, c, rfl⟩ | ⟨b, off, cap, rfl, hp, h3, h4, h5⟩
    · exact ⟨a, c, rfl, .inr rfl, Lib.hid fun j x hx => by simp at hx⟩
    · refine ⟨_, cap, rfl, .inl h3, Lib.hid fun j x hx => ⟨b, off, rfl, h5 j x hx, fun wx hb k z hkk => (lin_any keys b off k cap z wx hkk (by omega) h4 (fun j x hx => cell_keep (h5 j x hx) hb)).mono fun e w' h => ⟨h.1, by rw [← h.2]; exact Below.refl _ _⟩⟩⟩
  clear hw hE hk hkn hS hb0 CL
  generalize hN : keys.length = NK at *
  go_enter Tryz.func6, Tryz.ntmps6
  go_wp2_with fail
  refine CC.out.mono ?_
  rintro e w1 ⟨rfl, hb⟩
  have W1 := Lib.hid hb
  clear hb CC
  have S0 := Lib.hid (show SI w1 w1.heap.size 5 [115] 0 (.slice none 0 0) [] (w1.alloc (.cells #[.int .i64 5, .string ⟨#[115]⟩, .int .i64 0, .slice none 0 0] 34)) from ⟨CI.nil _ _, obj_made w1 _ _, by simp, Nat.le_refl _, blw_alloc _ _⟩)
  go_wp2_with fail
  obtain ⟨q, hq⟩ : ∃ q, q = w1.heap.size := ⟨_, rfl⟩
  have S1 : Hid (SI w1 q 5 [115] 0 (.slice none 0 0) [] (w1.alloc (.cells #[.int .i64 5, .string ⟨#[115]⟩, .int .i64 0, .slice none 0 0] 34))) := by rw [hq]; exact S0
  rw [← hq]
  generalize w1.alloc (.cells #[.int .i64 5, .string ⟨#[115]⟩, .int .i64 0, .slice none 0 0] 34) = w2 at *
  clear S0 hq
  go_loopw [9] (fun v9 wr => ∃ (i : Nat) (v : Value) (l : List It), v9 = .int .i64 (i : Int) ∧ i ≤ NK ∧ Hid (SI w1 q 5 [115] 0 v l wr) ∧ Hid (Keyed (keys.take i) l)) (fun v9 _ => NK - (RowKit.intOf v9).toNat)
  case atStart => exact ⟨0, _, [], rfl, Nat.zero_le _, S1, Lib.hid Keyed.nil⟩
  case round =>
    obtain ⟨i, v, l, rfl, hi, HP, HK⟩ := hrel
    by_cases hlt : i < NK
    · have hi' : (i : Int) < (NK : Int) := by omega
      have hcc : NK ≤ cap := by omega
      have hic : i ≤ cap := by omega
      have hc0 : ¬ cap = 0 := by omega
      obtain ⟨key, hy⟩ : ∃ key, keys[i]? = some key := ⟨keys[i]'(by omega), List.getElem?_eq_getElem (by omega)⟩
      have hym := List.mem_of_getElem? hy
      obtain ⟨b, off, rfl, hg, hin⟩ := HX.out i key hy
      have G := Lib.hid (show w1.cell? ⟨b, off + i, none⟩ = some (.string ⟨key.toArray⟩) from cell_keep hg W1.out)
      have g := cell_keep G.out HP.out.bel
      have lb := World.block_lt_of_cell? _ _ g
      have CNi := Lib.hid (CN.out key hym)
      have CIi := Lib.hid fun (wx : World) (hb : Below w1.heap.size w1 wx) => hin wx (blw_trans W1.out hb) i key (by omega)
      have hkk := HKN.out key hym
      have HTK := Lib.hid (show keys.take (i + 1) = keys.take i ++ [key] from by rw [List.take_add_one, hy]; rfl)
      have hll := HK.out.len
      rw [List.length_take, hN, Nat.min_eq_left hi] at hll
      have HLL := Lib.hid hll
      clear hll
      have wi : IntKind.i64.wrap ((i : Int) + 1) = (i : Int) + 1 := IntWalk.i64_in _ (by omega)
      have hi0 : (0 : Int) ≤ (i : Int) := by omega
      clear hg hin hy HX CN CIN CS HSD
      go_upto_region 6 with fail
      cases hn : nameB key with
      | false =>
        rw [hn] at CNi
        refine wp_region_held_drew (S := fun w' => w'.cell? ⟨b, off + i, none⟩ = some (.string ⟨key.toArray⟩) ∧ Hid (SI w1 q 5 [115] 0 v l w')) (by kernel_rfl) (⟨g, Lib.hid (HP.out.below (Below.drew (Below.refl _ _)))⟩) (fun hHeld => ?_)
        refine take_run (d := (some 20)) (v := ?v1) 0 rfl rfl (by kernel_rfl) (by kernel_rfl) (by kernel_rfl) (fun _ _ _ h => h) (by rfl) hHeld ?hy1 ?rs1
        case hy1 => (intro w hSw; (try dsimp only at hSw); go_simp) <;> (try with_reducible rfl)
        (try simp only [Act.put, List.setIfInBounds_toArray, List.set_cons_zero, List.set_cons_succ])
        refine take_run (d := (some 21)) (v := ?v2) 1 rfl rfl (by kernel_rfl) (by kernel_rfl) (by kernel_rfl) (fun _ _ _ h => h) (by rfl) hHeld ?hy2 ?rs2
        case hy2 => (intro w hSw; (try dsimp only at hSw); go_simp) <;> (try with_reducible rfl)
        (try simp only [Act.put, List.setIfInBounds_toArray, List.set_cons_zero, List.set_cons_succ])
        refine take_run (d := (some 22)) (v := ?v3) 2 rfl rfl (by kernel_rfl) (by kernel_rfl) (by kernel_rfl) (fun _ _ _ h => h) (by rfl) hHeld ?hy3 ?rs3
        case hy3 => (intro w hSw; (try dsimp only at hSw); go_simp) <;> (try with_reducible rfl)
        (try simp only [Act.put, List.setIfInBounds_toArray, List.set_cons_zero, List.set_cons_succ])
        refine take_run (d := (some 23)) (v := ?v4) 3 rfl rfl (by kernel_rfl) (by kernel_rfl) (by kernel_rfl) (fun _ _ _ h => h) (by rfl) hHeld ?hy4 ?rs4
        case hy4 => (intro w hSw; (try dsimp only at hSw); go_simp) <;> (try with_reducible rfl)
        (try simp only [Act.put, List.setIfInBounds_toArray, List.set_cons_zero, List.set_cons_succ])
        refine take_call 4 rfl (by kernel_rfl) (by rfl) (fun K hK => ?_)
        go_simp
        refine (CNi.out _).mono ?_
        rintro e w' ⟨rfl, hb⟩
        refine hK.out _ _ (by obtain ⟨h0, hw⟩ := hHeld; exact ⟨cell_keep h0 hb, Lib.hid (hw.out.below hb)⟩) (fun hHeld => ?_)
        clear hK K
        (try simp only [Act.put, List.setIfInBounds_toArray, List.set_cons_zero, List.set_cons_succ])
        refine take_run (d := (some 25)) (v := ?v6) 5 rfl rfl (by kernel_rfl) (by kernel_rfl) (by kernel_rfl) (fun _ _ _ h => h) (by rfl) hHeld ?hy6 ?rs6
        case hy6 => (intro w hSw; (try dsimp only at hSw); go_simp) <;> (try with_reducible rfl)
        (try simp only [Act.put, List.setIfInBounds_toArray, List.set_cons_zero, List.set_cons_succ])
        refine take_run (d := (some 26)) (v := ?v7) 6 rfl rfl (by kernel_rfl) (by kernel_rfl) (by kernel_rfl) (fun _ _ _ h => h) (by rfl) hHeld ?hy7 ?rs7
        case hy7 => (intro w hSw; (try dsimp only at hSw); go_simp) <;> (try with_reducible rfl)
        (try simp only [Act.put, List.setIfInBounds_toArray, List.set_cons_zero, List.set_cons_succ])
        refine take_skip (d := (some 27)) 7 rfl rfl (by kernel_rfl) (by kernel_rfl) (by kernel_rfl) (fun _ _ _ h => h) (by rfl) hHeld ?_
        (try simp only [Act.put, List.setIfInBounds_toArray, List.set_cons_zero, List.set_cons_succ])
        refine take_skip (d := (some 28)) 8 rfl rfl (by kernel_rfl) (by kernel_rfl) (by kernel_rfl) (fun _ _ _ h => h) (by rfl) hHeld ?_
        (try simp only [Act.put, List.setIfInBounds_toArray, List.set_cons_zero, List.set_cons_succ])
        refine take_skip (d := (some 29)) 9 rfl rfl (by kernel_rfl) (by kernel_rfl) (by kernel_rfl) (fun _ _ _ h => h) (by rfl) hHeld ?_
        (try simp only [Act.put, List.setIfInBounds_toArray, List.set_cons_zero, List.set_cons_succ])
        refine take_skip (d := (some 30)) 10 rfl rfl (by kernel_rfl) (by kernel_rfl) (by kernel_rfl) (fun _ _ _ h => h) (by rfl) hHeld ?_
        (try simp only [Act.put, List.setIfInBounds_toArray, List.set_cons_zero, List.set_cons_succ])
        refine take_skip (d := (some 31)) 11 rfl rfl (by kernel_rfl) (by kernel_rfl) (by kernel_rfl) (fun _ _ _ h => h) (by rfl) hHeld ?_
        (try simp only [Act.put, List.setIfInBounds_toArray, List.set_cons_zero, List.set_cons_succ])
        refine take_run (d := (some 32)) (v := ?v13) 12 rfl rfl (by kernel_rfl) (by kernel_rfl) (by kernel_rfl) (fun _ _ _ h => h) (by rfl) hHeld ?hy13 ?rs13
        case hy13 => (intro w hSw; (try dsimp only at hSw); go_simp) <;> (try with_reducible rfl)
        (try simp only [Act.put, List.setIfInBounds_toArray, List.set_cons_zero, List.set_cons_succ])
        refine take_run (d := (some 33)) (v := ?v14) 13 rfl rfl (by kernel_rfl) (by kernel_rfl) (by kernel_rfl) (fun _ _ _ h => h) (by rfl) hHeld ?hy14 ?rs14
        case hy14 => (intro w hSw; (try dsimp only at hSw); go_simp) <;> (try with_reducible rfl)
        (try simp only [Act.put, List.setIfInBounds_toArray, List.set_cons_zero, List.set_cons_succ])
        refine take_skip (d := (some 34)) 14 rfl rfl (by kernel_rfl) (by kernel_rfl) (by kernel_rfl) (fun _ _ _ h => h) (by rfl) hHeld ?_
        (try simp only [Act.put, List.setIfInBounds_toArray, List.set_cons_zero, List.set_cons_succ])
        refine take_skip (d := (some 35)) 15 rfl rfl (by kernel_rfl) (by kernel_rfl) (by kernel_rfl) (fun _ _ _ h => h) (by rfl) hHeld ?_
        (try simp only [Act.put, List.setIfInBounds_toArray, List.set_cons_zero, List.set_cons_succ])
        refine take_skip (d := (some 36)) 16 rfl rfl (by kernel_rfl) (by kernel_rfl) (by kernel_rfl) (fun _ _ _ h => h) (by rfl) hHeld ?_
        (try simp only [Act.put, List.setIfInBounds_toArray, List.set_cons_zero, List.set_cons_succ])
        refine take_skip (d := (some 37)) 17 rfl rfl (by kernel_rfl) (by kernel_rfl) (by kernel_rfl) (fun _ _ _ h => h) (by rfl) hHeld ?_
        (try simp only [Act.put, List.setIfInBounds_toArray, List.set_cons_zero, List.set_cons_succ])
        refine take_skip (d := (some 38)) 18 rfl rfl (by kernel_rfl) (by kernel_rfl) (by kernel_rfl) (fun _ _ _ h => h) (by rfl) hHeld ?_
        (try simp only [Act.put, List.setIfInBounds_toArray, List.set_cons_zero, List.set_cons_succ])
        refine take_skip (d := (some 39)) 19 rfl rfl (by kernel_rfl) (by kernel_rfl) (by kernel_rfl) (fun _ _ _ h => h) (by rfl) hHeld ?_
        (try simp only [Act.put, List.setIfInBounds_toArray, List.set_cons_zero, List.set_cons_succ])
        refine take_skip (d := (some 40)) 20 rfl rfl (by kernel_rfl) (by kernel_rfl) (by kernel_rfl) (fun _ _ _ h => h) (by rfl) hHeld ?_
        (try simp only [Act.put, List.setIfInBounds_toArray, List.set_cons_zero, List.set_cons_succ])
        refine take_skip (d := (some 41)) 21 rfl rfl (by kernel_rfl) (by kernel_rfl) (by kernel_rfl) (fun _ _ _ h => h) (by rfl) hHeld ?_
        (try simp only [Act.put, List.setIfInBounds_toArray, List.set_cons_zero, List.set_cons_succ])
        refine take_run (d := (some 42)) (v := ?v23) 22 rfl rfl (by kernel_rfl) (by kernel_rfl) (by kernel_rfl) (fun _ _ _ h => h) (by rfl) hHeld ?hy23 ?rs23
        case hy23 => (intro w hSw; (try dsimp only at hSw); go_simp) <;> (try with_reducible rfl)
        (try simp only [Act.put, List.setIfInBounds_toArray, List.set_cons_zero, List.set_cons_succ])
        refine wpAnyH_done (by kernel_rfl) ?_ _
        obtain ⟨z0, zW⟩ := hHeld
        go_wp2_with fail
        go_ret
        exact ⟨rfl, blw_trans W1.out zW.out.bel⟩
      | true =>
      rw [hn] at CNi
      cases ho : key == other with
      | true =>
        obtain rfl : key = other := by simpa using ho
        unfold other at *
        refine wp_region_held_drew (S := fun w' => w'.cell? ⟨b, off + i, none⟩ = some (.string ⟨#[111, 116, 104, 101, 114]⟩) ∧ Hid (SI w1 q 5 [115] 0 v l w')) (by kernel_rfl) (⟨g, Lib.hid (HP.out.below (Below.drew (Below.refl _ _)))⟩) (fun hHeld => ?_)
        refine take_run (d := (some 20)) (v := ?v24) 0 rfl rfl (by kernel_rfl) (by kernel_rfl) (by kernel_rfl) (fun _ _ _ h => h) (by rfl) hHeld ?hy24 ?rs24
        case hy24 => (intro w hSw; (try dsimp only at hSw); go_simp) <;> (try with_reducible rfl)
        (try simp only [Act.put, List.setIfInBounds_toArray, List.set_cons_zero, List.set_cons_succ])
        refine take_run (d := (some 21)) (v := ?v25) 1 rfl rfl (by kernel_rfl) (by kernel_rfl) (by kernel_rfl) (fun _ _ _ h => h) (by rfl) hHeld ?hy25 ?rs25
        case hy25 => (intro w hSw; (try dsimp only at hSw); go_simp) <;> (try with_reducible rfl)
        (try simp only [Act.put, List.setIfInBounds_toArray, List.set_cons_zero, List.set_cons_succ])
        refine take_run (d := (some 22)) (v := ?v26) 2 rfl rfl (by kernel_rfl) (by kernel_rfl) (by kernel_rfl) (fun _ _ _ h => h) (by rfl) hHeld ?hy26 ?rs26
        case hy26 => (intro w hSw; (try dsimp only at hSw); go_simp) <;> (try with_reducible rfl)
        (try simp only [Act.put, List.setIfInBounds_toArray, List.set_cons_zero, List.set_cons_succ])
        refine take_run (d := (some 23)) (v := ?v27) 3 rfl rfl (by kernel_rfl) (by kernel_rfl) (by kernel_rfl) (fun _ _ _ h => h) (by rfl) hHeld ?hy27 ?rs27
        case hy27 => (intro w hSw; (try dsimp only at hSw); go_simp) <;> (try with_reducible rfl)
        (try simp only [Act.put, List.setIfInBounds_toArray, List.set_cons_zero, List.set_cons_succ])
        refine take_call 4 rfl (by kernel_rfl) (by rfl) (fun K hK => ?_)
        go_simp
        refine (CNi.out _).mono ?_
        rintro e w' ⟨rfl, hb⟩
        refine hK.out _ _ (by obtain ⟨h0, hw⟩ := hHeld; exact ⟨cell_keep h0 hb, Lib.hid (hw.out.below hb)⟩) (fun hHeld => ?_)
        clear hK K
        (try simp only [Act.put, List.setIfInBounds_toArray, List.set_cons_zero, List.set_cons_succ])
        refine take_run (d := (some 25)) (v := ?v29) 5 rfl rfl (by kernel_rfl) (by kernel_rfl) (by kernel_rfl) (fun _ _ _ h => h) (by rfl) hHeld ?hy29 ?rs29
        case hy29 => (intro w hSw; (try dsimp only at hSw); go_simp) <;> (try with_reducible rfl)
        (try simp only [Act.put, List.setIfInBounds_toArray, List.set_cons_zero, List.set_cons_succ])
        refine take_run (d := (some 26)) (v := ?v30) 6 rfl rfl (by kernel_rfl) (by kernel_rfl) (by kernel_rfl) (fun _ _ _ h => h) (by rfl) hHeld ?hy30 ?rs30
        case hy30 => (intro w hSw; (try dsimp only at hSw); go_simp) <;> (try with_reducible rfl)
        (try simp only [Act.put, List.setIfInBounds_toArray, List.set_cons_zero, List.set_cons_succ])
        refine take_run (d := (some 27)) (v := ?v31) 7 rfl rfl (by kernel_rfl) (by kernel_rfl) (by kernel_rfl) (fun _ _ _ h => h) (by rfl) hHeld ?hy31 ?rs31
        case hy31 => (intro w hSw; (try dsimp only at hSw); go_simp) <;> (try with_reducible rfl)
        (try simp only [Act.put, List.setIfInBounds_toArray, List.set_cons_zero, List.set_cons_succ])
        refine take_run (d := (some 28)) (v := ?v32) 8 rfl rfl (by kernel_rfl) (by kernel_rfl) (by kernel_rfl) (fun _ _ _ h => h) (by rfl) hHeld ?hy32 ?rs32
        case hy32 => (intro w hSw; (try dsimp only at hSw); go_simp) <;> (try with_reducible rfl)
        (try simp only [Act.put, List.setIfInBounds_toArray, List.set_cons_zero, List.set_cons_succ])
        refine take_run (d := (some 29)) (v := ?v33) 9 rfl rfl (by kernel_rfl) (by kernel_rfl) (by kernel_rfl) (fun _ _ _ h => h) (by rfl) hHeld ?hy33 ?rs33
        case hy33 => (intro w hSw; (try dsimp only at hSw); go_simp) <;> (try with_reducible rfl)
        (try simp only [Act.put, List.setIfInBounds_toArray, List.set_cons_zero, List.set_cons_succ])
        refine take_run (d := (some 30)) (v := ?v34) 10 rfl rfl (by kernel_rfl) (by kernel_rfl) (by kernel_rfl) (fun _ _ _ h => h) (by rfl) hHeld ?hy34 ?rs34
        case hy34 => (intro w hSw; (try dsimp only at hSw); go_simp) <;> (try with_reducible rfl)
        (try simp only [Act.put, List.setIfInBounds_toArray, List.set_cons_zero, List.set_cons_succ])
        refine take_run (d := (some 31)) (v := ?v35) 11 rfl rfl (by kernel_rfl) (by kernel_rfl) (by kernel_rfl) (fun _ _ _ h => h) (by rfl) hHeld ?hy35 ?rs35
        case hy35 => (intro w hSw; (try dsimp only at hSw); go_simp) <;> (try with_reducible rfl)
        (try simp only [Act.put, List.setIfInBounds_toArray, List.set_cons_zero, List.set_cons_succ])
        refine take_run (d := (some 32)) (v := ?v36) 12 rfl rfl (by kernel_rfl) (by kernel_rfl) (by kernel_rfl) (fun _ _ _ h => h) (by rfl) hHeld ?hy36 ?rs36
        case hy36 => (intro w hSw; (try dsimp only at hSw); go_simp) <;> (try with_reducible rfl)
        (try simp only [Act.put, List.setIfInBounds_toArray, List.set_cons_zero, List.set_cons_succ])
        refine take_run (d := (some 33)) (v := ?v37) 13 rfl rfl (by kernel_rfl) (by kernel_rfl) (by kernel_rfl) (fun _ _ _ h => h) (by rfl) hHeld ?hy37 ?rs37
        case hy37 => (intro w hSw; (try dsimp only at hSw); go_simp) <;> (try with_reducible rfl)
        (try simp only [Act.put, List.setIfInBounds_toArray, List.set_cons_zero, List.set_cons_succ])
        refine take_skip (d := (some 34)) 14 rfl rfl (by kernel_rfl) (by kernel_rfl) (by kernel_rfl) (fun _ _ _ h => h) (by rfl) hHeld ?_
        (try simp only [Act.put, List.setIfInBounds_toArray, List.set_cons_zero, List.set_cons_succ])
        refine take_skip (d := (some 35)) 15 rfl rfl (by kernel_rfl) (by kernel_rfl) (by kernel_rfl) (fun _ _ _ h => h) (by rfl) hHeld ?_
        (try simp only [Act.put, List.setIfInBounds_toArray, List.set_cons_zero, List.set_cons_succ])
        refine take_skip (d := (some 36)) 16 rfl rfl (by kernel_rfl) (by kernel_rfl) (by kernel_rfl) (fun _ _ _ h => h) (by rfl) hHeld ?_
        (try simp only [Act.put, List.setIfInBounds_toArray, List.set_cons_zero, List.set_cons_succ])
        refine take_skip (d := (some 37)) 17 rfl rfl (by kernel_rfl) (by kernel_rfl) (by kernel_rfl) (fun _ _ _ h => h) (by rfl) hHeld ?_
        (try simp only [Act.put, List.setIfInBounds_toArray, List.set_cons_zero, List.set_cons_succ])
        refine take_skip (d := (some 38)) 18 rfl rfl (by kernel_rfl) (by kernel_rfl) (by kernel_rfl) (fun _ _ _ h => h) (by rfl) hHeld ?_
        (try simp only [Act.put, List.setIfInBounds_toArray, List.set_cons_zero, List.set_cons_succ])
        refine take_skip (d := (some 39)) 19 rfl rfl (by kernel_rfl) (by kernel_rfl) (by kernel_rfl) (fun _ _ _ h => h) (by rfl) hHeld ?_
        (try simp only [Act.put, List.setIfInBounds_toArray, List.set_cons_zero, List.set_cons_succ])
        refine take_skip (d := (some 40)) 20 rfl rfl (by kernel_rfl) (by kernel_rfl) (by kernel_rfl) (fun _ _ _ h => h) (by rfl) hHeld ?_
        (try simp only [Act.put, List.setIfInBounds_toArray, List.set_cons_zero, List.set_cons_succ])
        refine take_skip (d := (some 41)) 21 rfl rfl (by kernel_rfl) (by kernel_rfl) (by kernel_rfl) (fun _ _ _ h => h) (by rfl) hHeld ?_
        (try simp only [Act.put, List.setIfInBounds_toArray, List.set_cons_zero, List.set_cons_succ])
        refine take_run (d := (some 42)) (v := ?v46) 22 rfl rfl (by kernel_rfl) (by kernel_rfl) (by kernel_rfl) (fun _ _ _ h => h) (by rfl) hHeld ?hy46 ?rs46
        case hy46 => (intro w hSw; (try dsimp only at hSw); go_simp) <;> (try with_reducible rfl)
        (try simp only [Act.put, List.setIfInBounds_toArray, List.set_cons_zero, List.set_cons_succ])
        refine wpAnyH_done (by kernel_rfl) ?_ _
        obtain ⟨z0, zW⟩ := hHeld
        go_wp2_with fail
        go_ret
        exact ⟨rfl, blw_trans W1.out zW.out.bel⟩
      | false =>
      have hnn : nameB key = true := hn
      have hoe : key ≠ other := by simpa using ho
      unfold other at ho
      cases hc : (keys.take i).contains key with
      | true =>
        rw [hc] at CIi
        refine wp_region_held_drew (S := fun w' => w'.cell? ⟨b, off + i, none⟩ = some (.string ⟨key.toArray⟩) ∧ Hid (SI w1 q 5 [115] 0 v l w')) (by kernel_rfl) (⟨g, Lib.hid (HP.out.below (Below.drew (Below.refl _ _)))⟩) (fun hHeld => ?_)
        refine take_run (d := (some 20)) (v := ?v47) 0 rfl rfl (by kernel_rfl) (by kernel_rfl) (by kernel_rfl) (fun _ _ _ h => h) (by rfl) hHeld ?hy47 ?rs47
        case hy47 => (intro w hSw; (try dsimp only at hSw); go_simp) <;> (try with_reducible rfl)
        (try simp only [Act.put, List.setIfInBounds_toArray, List.set_cons_zero, List.set_cons_succ])
        refine take_run (d := (some 21)) (v := ?v48) 1 rfl rfl (by kernel_rfl) (by kernel_rfl) (by kernel_rfl) (fun _ _ _ h => h) (by rfl) hHeld ?hy48 ?rs48
        case hy48 => (intro w hSw; (try dsimp only at hSw); go_simp) <;> (try with_reducible rfl)
        (try simp only [Act.put, List.setIfInBounds_toArray, List.set_cons_zero, List.set_cons_succ])
        refine take_run (d := (some 22)) (v := ?v49) 2 rfl rfl (by kernel_rfl) (by kernel_rfl) (by kernel_rfl) (fun _ _ _ h => h) (by rfl) hHeld ?hy49 ?rs49
        case hy49 => (intro w hSw; (try dsimp only at hSw); go_simp) <;> (try with_reducible rfl)
        (try simp only [Act.put, List.setIfInBounds_toArray, List.set_cons_zero, List.set_cons_succ])
        refine take_run (d := (some 23)) (v := ?v50) 3 rfl rfl (by kernel_rfl) (by kernel_rfl) (by kernel_rfl) (fun _ _ _ h => h) (by rfl) hHeld ?hy50 ?rs50
        case hy50 => (intro w hSw; (try dsimp only at hSw); go_simp) <;> (try with_reducible rfl)
        (try simp only [Act.put, List.setIfInBounds_toArray, List.set_cons_zero, List.set_cons_succ])
        refine take_call 4 rfl (by kernel_rfl) (by rfl) (fun K hK => ?_)
        go_simp
        refine (CNi.out _).mono ?_
        rintro e w' ⟨rfl, hb⟩
        refine hK.out _ _ (by obtain ⟨h0, hw⟩ := hHeld; exact ⟨cell_keep h0 hb, Lib.hid (hw.out.below hb)⟩) (fun hHeld => ?_)
        clear hK K
        (try simp only [Act.put, List.setIfInBounds_toArray, List.set_cons_zero, List.set_cons_succ])
        refine take_run (d := (some 25)) (v := ?v52) 5 rfl rfl (by kernel_rfl) (by kernel_rfl) (by kernel_rfl) (fun _ _ _ h => h) (by rfl) hHeld ?hy52 ?rs52
        case hy52 => (intro w hSw; (try dsimp only at hSw); go_simp) <;> (try with_reducible rfl)
        (try simp only [Act.put, List.setIfInBounds_toArray, List.set_cons_zero, List.set_cons_succ])
        refine take_run (d := (some 26)) (v := ?v53) 6 rfl rfl (by kernel_rfl) (by kernel_rfl) (by kernel_rfl) (fun _ _ _ h => h) (by rfl) hHeld ?hy53 ?rs53
        case hy53 => (intro w hSw; (try dsimp only at hSw); go_simp) <;> (try with_reducible rfl)
        (try simp only [Act.put, List.setIfInBounds_toArray, List.set_cons_zero, List.set_cons_succ])
        refine take_run (d := (some 27)) (v := ?v54) 7 rfl rfl (by kernel_rfl) (by kernel_rfl) (by kernel_rfl) (fun _ _ _ h => h) (by rfl) hHeld ?hy54 ?rs54
        case hy54 => (intro w hSw; (try dsimp only at hSw); go_simp) <;> (try with_reducible rfl)
        (try simp only [Act.put, List.setIfInBounds_toArray, List.set_cons_zero, List.set_cons_succ])
        refine take_run (d := (some 28)) (v := ?v55) 8 rfl rfl (by kernel_rfl) (by kernel_rfl) (by kernel_rfl) (fun _ _ _ h => h) (by rfl) hHeld ?hy55 ?rs55
        case hy55 => (intro w hSw; (try dsimp only at hSw); go_simp) <;> (try with_reducible rfl)
        (try simp only [Act.put, List.setIfInBounds_toArray, List.set_cons_zero, List.set_cons_succ])
        refine take_run (d := (some 29)) (v := ?v56) 9 rfl rfl (by kernel_rfl) (by kernel_rfl) (by kernel_rfl) (fun _ _ _ h => h) (by rfl) hHeld ?hy56 ?rs56
        case hy56 => (intro w hSw; (try dsimp only at hSw); go_simp) <;> (try with_reducible rfl)
        (try simp only [Act.put, List.setIfInBounds_toArray, List.set_cons_zero, List.set_cons_succ])
        refine take_run (d := (some 30)) (v := ?v57) 10 rfl rfl (by kernel_rfl) (by kernel_rfl) (by kernel_rfl) (fun _ _ _ h => h) (by rfl) hHeld ?hy57 ?rs57
        case hy57 => (intro w hSw; (try dsimp only at hSw); go_simp) <;> (try with_reducible rfl)
        (try simp only [Act.put, List.setIfInBounds_toArray, List.set_cons_zero, List.set_cons_succ])
        refine take_run (d := (some 31)) (v := ?v58) 11 rfl rfl (by kernel_rfl) (by kernel_rfl) (by kernel_rfl) (fun _ _ _ h => h) (by rfl) hHeld ?hy58 ?rs58
        case hy58 => (intro w hSw; (try dsimp only at hSw); go_simp) <;> (try with_reducible rfl)
        (try simp only [Act.put, List.setIfInBounds_toArray, List.set_cons_zero, List.set_cons_succ])
        refine take_run (d := (some 32)) (v := ?v59) 12 rfl rfl (by kernel_rfl) (by kernel_rfl) (by kernel_rfl) (fun _ _ _ h => h) (by rfl) hHeld ?hy59 ?rs59
        case hy59 => (intro w hSw; (try dsimp only at hSw); go_simp) <;> (try with_reducible rfl)
        (try simp only [Act.put, List.setIfInBounds_toArray, List.set_cons_zero, List.set_cons_succ])
        refine take_run (d := (some 33)) (v := ?v60) 13 rfl rfl (by kernel_rfl) (by kernel_rfl) (by kernel_rfl) (fun _ _ _ h => h) (by rfl) hHeld ?hy60 ?rs60
        case hy60 => (intro w hSw; (try dsimp only at hSw); go_simp) <;> (try with_reducible rfl)
        (try simp only [Act.put, List.setIfInBounds_toArray, List.set_cons_zero, List.set_cons_succ])
        refine take_run (d := (some 34)) (v := ?v61) 14 rfl rfl (by kernel_rfl) (by kernel_rfl) (by kernel_rfl) (fun _ _ _ h => h) (by rfl) hHeld ?hy61 ?rs61
        case hy61 => (intro w hSw; (try dsimp only at hSw); go_simp) <;> (try with_reducible rfl)
        (try simp only [Act.put, List.setIfInBounds_toArray, List.set_cons_zero, List.set_cons_succ])
        refine take_run (d := (some 35)) (v := ?v62) 15 rfl rfl (by kernel_rfl) (by kernel_rfl) (by kernel_rfl) (fun _ _ _ h => h) (by rfl) hHeld ?hy62 ?rs62
        case hy62 => (intro w hSw; (try dsimp only at hSw); go_simp) <;> (try with_reducible rfl)
        (try simp only [Act.put, List.setIfInBounds_toArray, List.set_cons_zero, List.set_cons_succ])
        refine take_run (d := (some 36)) (v := ?v63) 16 rfl rfl (by kernel_rfl) (by kernel_rfl) (by kernel_rfl) (fun _ _ _ h => h) (by rfl) hHeld ?hy63 ?rs63
        case hy63 => (intro w hSw; (try dsimp only at hSw); go_simp) <;> (try with_reducible rfl)
        (try simp only [Act.put, List.setIfInBounds_toArray, List.set_cons_zero, List.set_cons_succ])
        refine take_run (d := (some 37)) (v := ?v64) 17 rfl rfl (by kernel_rfl) (by kernel_rfl) (by kernel_rfl) (fun _ _ _ h => h) (by rfl) hHeld ?hy64 ?rs64
        case hy64 => (intro w hSw; (try dsimp only at hSw); go_simp) <;> (try with_reducible rfl)
        (try simp only [Act.put, List.setIfInBounds_toArray, List.set_cons_zero, List.set_cons_succ])
        refine take_run (d := (some 38)) (v := ?v65) 18 rfl rfl (by kernel_rfl) (by kernel_rfl) (by kernel_rfl) (fun _ _ _ h => h) (by rfl) hHeld ?hy65 ?rs65
        case hy65 => (intro w hSw; (try dsimp only at hSw); go_simp) <;> (try with_reducible rfl)
        (try simp only [Act.put, List.setIfInBounds_toArray, List.set_cons_zero, List.set_cons_succ])
        refine take_run (d := (some 39)) (v := ?v66) 19 rfl rfl (by kernel_rfl) (by kernel_rfl) (by kernel_rfl) (fun _ _ _ h => h) (by rfl) hHeld ?hy66 ?rs66
        case hy66 => (intro w hSw; (try dsimp only at hSw); go_simp) <;> (try with_reducible rfl)
        (try simp only [Act.put, List.setIfInBounds_toArray, List.set_cons_zero, List.set_cons_succ])
        refine take_run (d := (some 40)) (v := ?v67) 20 rfl rfl (by kernel_rfl) (by kernel_rfl) (by kernel_rfl) (fun _ _ _ h => h) (by rfl) hHeld ?hy67 ?rs67
        case hy67 => (intro w hSw; (try dsimp only at hSw); go_simp) <;> (try with_reducible rfl)
        (try simp only [Act.put, List.setIfInBounds_toArray, List.set_cons_zero, List.set_cons_succ])
        refine take_call 21 rfl (by kernel_rfl) (by rfl) (fun K hK => ?_)
        go_simp
        refine (CIi.out _ (by obtain ⟨_, h7⟩ := hHeld; exact h7.out.bel)).mono ?_
        rintro e w' ⟨rfl, hb⟩
        refine hK.out _ _ (by obtain ⟨h0, hw⟩ := hHeld; exact ⟨cell_keep h0 hb, Lib.hid (hw.out.below hb)⟩) (fun hHeld => ?_)
        clear hK K
        (try simp only [Act.put, List.setIfInBounds_toArray, List.set_cons_zero, List.set_cons_succ])
        refine take_run (d := (some 42)) (v := ?v69) 22 rfl rfl (by kernel_rfl) (by kernel_rfl) (by kernel_rfl) (fun _ _ _ h => h) (by rfl) hHeld ?hy69 ?rs69
        case hy69 => (intro w hSw; (try dsimp only at hSw); go_simp) <;> (try with_reducible rfl)
        (try simp only [Act.put, List.setIfInBounds_toArray, List.set_cons_zero, List.set_cons_succ])
        refine wpAnyH_done (by kernel_rfl) ?_ _
        obtain ⟨z0, zW⟩ := hHeld
        go_wp2_with fail
        go_ret
        exact ⟨rfl, blw_trans W1.out zW.out.bel⟩
      | false =>
      have hcm : key ∉ keys.take i := by simpa using hc
      rw [hc] at CIi
      refine wp_region_held_drew (S := fun w' => w'.cell? ⟨b, off + i, none⟩ = some (.string ⟨key.toArray⟩) ∧ Hid (SI w1 q 5 [115] 0 v l w')) (by kernel_rfl) (⟨g, Lib.hid (HP.out.below (Below.drew (Below.refl _ _)))⟩) (fun hHeld => ?_)
      refine take_run (d := (some 20)) (v := ?v70) 0 rfl rfl (by kernel_rfl) (by kernel_rfl) (by kernel_rfl) (fun _ _ _ h => h) (by rfl) hHeld ?hy70 ?rs70
      case hy70 => (intro w hSw; (try dsimp only at hSw); go_simp) <;> (try with_reducible rfl)
      (try simp only [Act.put, List.setIfInBounds_toArray, List.set_cons_zero, List.set_cons_succ])
      refine take_run (d := (some 21)) (v := ?v71) 1 rfl rfl (by kernel_rfl) (by kernel_rfl) (by kernel_rfl) (fun _ _ _ h => h) (by rfl) hHeld ?hy71 ?rs71
      case hy71 => (intro w hSw; (try dsimp only at hSw); go_simp) <;> (try with_reducible rfl)
      (try simp only [Act.put, List.setIfInBounds_toArray, List.set_cons_zero, List.set_cons_succ])
      refine take_run (d := (some 22)) (v := ?v72) 2 rfl rfl (by kernel_rfl) (by kernel_rfl) (by kernel_rfl) (fun _ _ _ h => h) (by rfl) hHeld ?hy72 ?rs72
      case hy72 => (intro w hSw; (try dsimp only at hSw); go_simp) <;> (try with_reducible rfl)
      (try simp only [Act.put, List.setIfInBounds_toArray, List.set_cons_zero, List.set_cons_succ])
      refine take_run (d := (some 23)) (v := ?v73) 3 rfl rfl (by kernel_rfl) (by kernel_rfl) (by kernel_rfl) (fun _ _ _ h => h) (by rfl) hHeld ?hy73 ?rs73
      case hy73 => (intro w hSw; (try dsimp only at hSw); go_simp) <;> (try with_reducible rfl)
      (try simp only [Act.put, List.setIfInBounds_toArray, List.set_cons_zero, List.set_cons_succ])
      refine take_call 4 rfl (by kernel_rfl) (by rfl) (fun K hK => ?_)
      go_simp
      refine (CNi.out _).mono ?_
      rintro e w' ⟨rfl, hb⟩
      refine hK.out _ _ (by obtain ⟨h0, hw⟩ := hHeld; exact ⟨cell_keep h0 hb, Lib.hid (hw.out.below hb)⟩) (fun hHeld => ?_)
      clear hK K
      (try simp only [Act.put, List.setIfInBounds_toArray, List.set_cons_zero, List.set_cons_succ])
      refine take_run (d := (some 25)) (v := ?v75) 5 rfl rfl (by kernel_rfl) (by kernel_rfl) (by kernel_rfl) (fun _ _ _ h => h) (by rfl) hHeld ?hy75 ?rs75
      case hy75 => (intro w hSw; (try dsimp only at hSw); go_simp) <;> (try with_reducible rfl)
      (try simp only [Act.put, List.setIfInBounds_toArray, List.set_cons_zero, List.set_cons_succ])
      refine take_run (d := (some 26)) (v := ?v76) 6 rfl rfl (by kernel_rfl) (by kernel_rfl) (by kernel_rfl) (fun _ _ _ h => h) (by rfl) hHeld ?hy76 ?rs76
      case hy76 => (intro w hSw; (try dsimp only at hSw); go_simp) <;> (try with_reducible rfl)
      (try simp only [Act.put, List.setIfInBounds_toArray, List.set_cons_zero, List.set_cons_succ])
      refine take_run (d := (some 27)) (v := ?v77) 7 rfl rfl (by kernel_rfl) (by kernel_rfl) (by kernel_rfl) (fun _ _ _ h => h) (by rfl) hHeld ?hy77 ?rs77
      case hy77 => (intro w hSw; (try dsimp only at hSw); go_simp) <;> (try with_reducible rfl)
      (try simp only [Act.put, List.setIfInBounds_toArray, List.set_cons_zero, List.set_cons_succ])
      refine take_run (d := (some 28)) (v := ?v78) 8 rfl rfl (by kernel_rfl) (by kernel_rfl) (by kernel_rfl) (fun _ _ _ h => h) (by rfl) hHeld ?hy78 ?rs78
      case hy78 => (intro w hSw; (try dsimp only at hSw); go_simp) <;> (try with_reducible rfl)
      (try simp only [Act.put, List.setIfInBounds_toArray, List.set_cons_zero, List.set_cons_succ])
      refine take_run (d := (some 29)) (v := ?v79) 9 rfl rfl (by kernel_rfl) (by kernel_rfl) (by kernel_rfl) (fun _ _ _ h => h) (by rfl) hHeld ?hy79 ?rs79
      case hy79 => (intro w hSw; (try dsimp only at hSw); go_simp) <;> (try with_reducible rfl)
      (try simp only [Act.put, List.setIfInBounds_toArray, List.set_cons_zero, List.set_cons_succ])
      refine take_run (d := (some 30)) (v := ?v80) 10 rfl rfl (by kernel_rfl) (by kernel_rfl) (by kernel_rfl) (fun _ _ _ h => h) (by rfl) hHeld ?hy80 ?rs80
      case hy80 => (intro w hSw; (try dsimp only at hSw); go_simp) <;> (try with_reducible rfl)
      (try simp only [Act.put, List.setIfInBounds_toArray, List.set_cons_zero, List.set_cons_succ])
      refine take_run (d := (some 31)) (v := ?v81) 11 rfl rfl (by kernel_rfl) (by kernel_rfl) (by kernel_rfl) (fun _ _ _ h => h) (by rfl) hHeld ?hy81 ?rs81
      case hy81 => (intro w hSw; (try dsimp only at hSw); go_simp) <;> (try with_reducible rfl)
      (try simp only [Act.put, List.setIfInBounds_toArray, List.set_cons_zero, List.set_cons_succ])
      refine take_run (d := (some 32)) (v := ?v82) 12 rfl rfl (by kernel_rfl) (by kernel_rfl) (by kernel_rfl) (fun _ _ _ h => h) (by rfl) hHeld ?hy82 ?rs82
      case hy82 => (intro w hSw; (try dsimp only at hSw); go_simp) <;> (try with_reducible rfl)
      (try simp only [Act.put, List.setIfInBounds_toArray, List.set_cons_zero, List.set_cons_succ])
      refine take_run (d := (some 33)) (v := ?v83) 13 rfl rfl (by kernel_rfl) (by kernel_rfl) (by kernel_rfl) (fun _ _ _ h => h) (by rfl) hHeld ?hy83 ?rs83
      case hy83 => (intro w hSw; (try dsimp only at hSw); go_simp) <;> (try with_reducible rfl)
      (try simp only [Act.put, List.setIfInBounds_toArray, List.set_cons_zero, List.set_cons_succ])
      refine take_run (d := (some 34)) (v := ?v84) 14 rfl rfl (by kernel_rfl) (by kernel_rfl) (by kernel_rfl) (fun _ _ _ h => h) (by rfl) hHeld ?hy84 ?rs84
      case hy84 => (intro w hSw; (try dsimp only at hSw); go_simp) <;> (try with_reducible rfl)
      (try simp only [Act.put, List.setIfInBounds_toArray, List.set_cons_zero, List.set_cons_succ])
      refine take_run (d := (some 35)) (v := ?v85) 15 rfl rfl (by kernel_rfl) (by kernel_rfl) (by kernel_rfl) (fun _ _ _ h => h) (by rfl) hHeld ?hy85 ?rs85
      case hy85 => (intro w hSw; (try dsimp only at hSw); go_simp) <;> (try with_reducible rfl)
      (try simp only [Act.put, List.setIfInBounds_toArray, List.set_cons_zero, List.set_cons_succ])
      refine take_run (d := (some 36)) (v := ?v86) 16 rfl rfl (by kernel_rfl) (by kernel_rfl) (by kernel_rfl) (fun _ _ _ h => h) (by rfl) hHeld ?hy86 ?rs86
      case hy86 => (intro w hSw; (try dsimp only at hSw); go_simp) <;> (try with_reducible rfl)
      (try simp only [Act.put, List.setIfInBounds_toArray, List.set_cons_zero, List.set_cons_succ])
      refine take_run (d := (some 37)) (v := ?v87) 17 rfl rfl (by kernel_rfl) (by kernel_rfl) (by kernel_rfl) (fun _ _ _ h => h) (by rfl) hHeld ?hy87 ?rs87
      case hy87 => (intro w hSw; (try dsimp only at hSw); go_simp) <;> (try with_reducible rfl)
      (try simp only [Act.put, List.setIfInBounds_toArray, List.set_cons_zero, List.set_cons_succ])
      refine take_run (d := (some 38)) (v := ?v88) 18 rfl rfl (by kernel_rfl) (by kernel_rfl) (by kernel_rfl) (fun _ _ _ h => h) (by rfl) hHeld ?hy88 ?rs88
      case hy88 => (intro w hSw; (try dsimp only at hSw); go_simp) <;> (try with_reducible rfl)
      (try simp only [Act.put, List.setIfInBounds_toArray, List.set_cons_zero, List.set_cons_succ])
      refine take_run (d := (some 39)) (v := ?v89) 19 rfl rfl (by kernel_rfl) (by kernel_rfl) (by kernel_rfl) (fun _ _ _ h => h) (by rfl) hHeld ?hy89 ?rs89
      case hy89 => (intro w hSw; (try dsimp only at hSw); go_simp) <;> (try with_reducible rfl)
      (try simp only [Act.put, List.setIfInBounds_toArray, List.set_cons_zero, List.set_cons_succ])
      refine take_run (d := (some 40)) (v := ?v90) 20 rfl rfl (by kernel_rfl) (by kernel_rfl) (by kernel_rfl) (fun _ _ _ h => h) (by rfl) hHeld ?hy90 ?rs90
      case hy90 => (intro w hSw; (try dsimp only at hSw); go_simp) <;> (try with_reducible rfl)
      (try simp only [Act.put, List.setIfInBounds_toArray, List.set_cons_zero, List.set_cons_succ])
      refine take_call 21 rfl (by kernel_rfl) (by rfl) (fun K hK => ?_)
      go_simp
      refine (CIi.out _ (by obtain ⟨_, h7⟩ := hHeld; exact h7.out.bel)).mono ?_
      rintro e w' ⟨rfl, hb⟩
      refine hK.out _ _ (by obtain ⟨h0, hw⟩ := hHeld; exact ⟨cell_keep h0 hb, Lib.hid (hw.out.below hb)⟩) (fun hHeld => ?_)
      clear hK K
      (try simp only [Act.put, List.setIfInBounds_toArray, List.set_cons_zero, List.set_cons_succ])
      refine take_run (d := (some 42)) (v := ?v92) 22 rfl rfl (by kernel_rfl) (by kernel_rfl) (by kernel_rfl) (fun _ _ _ h => h) (by rfl) hHeld ?hy92 ?rs92
      case hy92 => (intro w hSw; (try dsimp only at hSw); go_simp) <;> (try with_reducible rfl)
      (try simp only [Act.put, List.setIfInBounds_toArray, List.set_cons_zero, List.set_cons_succ])
      refine wpAnyH_done (by kernel_rfl) ?_ _
      obtain ⟨z0, zW⟩ := hHeld
      clear CNi CIi hn ho hc g lb z0
      rename World => wd
      go_upto_region 8 with fail
      obtain ⟨Y, hY⟩ : ∃ Y, Y = 60 :: key := ⟨_, rfl⟩
      have AD : ∀ w, (Op.stringOp .add ⟨#[60]⟩ ⟨key.toArray⟩).run Tryz.prog w = .ok (.string ⟨Y.toArray⟩) w := fun w => by rw [hY]; exact add_str (P := Tryz.prog) [60] key (by simp; omega) w
      have LZ := fun p => Lib.hid (show Keyed (keys.take (i + 1)) (l ++ [(key, Y, p)]) from by rw [HTK.out, hY]; exact HK.out.add hnn hoe hcm p)
      clear hY HTK HK hcm hoe hnn
      have P0 := Lib.hid (zW.out.below (Below.drew (Below.refl _ _)))
      refine wp_region_held_drew (S := fun w' => w'.cell? ⟨b, off + i, none⟩ = some (.string ⟨key.toArray⟩)) (by kernel_rfl) (cell_keep G.out P0.out.bel) (fun hHeld => ?_)
      generalize wd.drew = wz at *
      have P := P0
      refine take_run (d := some 44) (v := ?v1001) 0 rfl rfl (by kernel_rfl) (by kernel_rfl) (by kernel_rfl) (fun _ _ _ h => h) (by rfl) hHeld ?hy1001 ?rs1001
      case hy1001 => (intro w hSw; (try dsimp only at hSw); go_simp) <;> (try with_reducible rfl)
      (try simp only [Act.put, List.setIfInBounds_toArray, List.set_cons_zero, List.set_cons_succ])
      refine take_run (d := some 46) (v := ?v1002) 2 rfl rfl (by kernel_rfl) (by kernel_rfl) (by kernel_rfl) (fun _ _ _ h => h) (by rfl) hHeld ?hy1002 ?rs1002
      case hy1002 => (intro w hSw; (try dsimp only at hSw); go_simp) <;> (try with_reducible rfl)
      (try simp only [Act.put, List.setIfInBounds_toArray, List.set_cons_zero, List.set_cons_succ])
      refine take_run (d := some 47) (v := ?v1003) 3 rfl rfl (by kernel_rfl) (by kernel_rfl) (by kernel_rfl) (fun _ _ _ h => h) (by rfl) hHeld ?hy1003 ?rs1003
      case hy1003 => (intro w hSw; (try dsimp only at hSw); go_simp) <;> (try with_reducible rfl)
      (try simp only [Act.put, List.setIfInBounds_toArray, List.set_cons_zero, List.set_cons_succ])
      refine take_run (d := some 48) (v := ?v1004) 4 rfl rfl (by kernel_rfl) (by kernel_rfl) (by kernel_rfl) (fun _ _ _ h => h) (by rfl) hHeld ?hy1004 ?rs1004
      case hy1004 => (intro w hSw; (try dsimp only at hSw); go_simp) <;> (try with_reducible rfl)
      (try simp only [Act.put, List.setIfInBounds_toArray, List.set_cons_zero, List.set_cons_succ])
      refine take_run (d := some 49) (v := ?v1005) 5 rfl rfl (by kernel_rfl) (by kernel_rfl) (by kernel_rfl) (fun _ _ _ h => h) (by rfl) hHeld ?hy1005 ?rs1005
      case hy1005 => (intro w hSw; (try dsimp only at hSw); go_simp) <;> (try with_reducible rfl)
      (try simp only [Act.put, List.setIfInBounds_toArray, List.set_cons_zero, List.set_cons_succ])
      refine take_run (d := some 50) (v := ?v1006) 6 rfl rfl (by kernel_rfl) (by kernel_rfl) (by kernel_rfl) (fun _ _ _ h => h) (by rfl) hHeld ?hy1006 ?rs1006
      case hy1006 => (intro w hSw; (try dsimp only at hSw); go_simp) <;> (try with_reducible rfl)
      (try simp only [Act.put, List.setIfInBounds_toArray, List.set_cons_zero, List.set_cons_succ])
      refine take_run (d := some 51) (v := ?v1007) 7 rfl rfl (by kernel_rfl) (by kernel_rfl) (by kernel_rfl) (fun _ _ _ h => h) (by rfl) hHeld ?hy1007 ?rs1007
      case hy1007 => (intro w hSw; (try dsimp only at hSw); go_simp) <;> (try with_reducible rfl)
      (try simp only [Act.put, List.setIfInBounds_toArray, List.set_cons_zero, List.set_cons_succ])
      refine take_run (d := some 52) (v := ?v1008) 8 rfl rfl (by kernel_rfl) (by kernel_rfl) (by kernel_rfl) (fun _ _ _ h => h) (by rfl) hHeld ?hy1008 ?rs1008
      case hy1008 => (intro w hSw; (try dsimp only at hSw); go_simp) <;> (try with_reducible rfl)
      (try simp only [Act.put, List.setIfInBounds_toArray, List.set_cons_zero, List.set_cons_succ])
      refine take_run (d := some 53) (v := ?v1009) 9 rfl rfl (by kernel_rfl) (by kernel_rfl) (by kernel_rfl) (fun _ _ _ h => h) (by rfl) hHeld ?hy1009 ?rs1009
      case hy1009 => (intro w hSw; (try dsimp only at hSw); go_simp) <;> (try with_reducible rfl)
      (try simp only [Act.put, List.setIfInBounds_toArray, List.set_cons_zero, List.set_cons_succ])
      refine take_run (d := some 54) (v := ?v1010) 10 rfl rfl (by kernel_rfl) (by kernel_rfl) (by kernel_rfl) (fun _ _ _ h => h) (by rfl) hHeld ?hy1010 ?rs1010
      case hy1010 => (intro w hSw; (try dsimp only at hSw); go_simp) <;> (try with_reducible rfl)
      (try simp only [Act.put, List.setIfInBounds_toArray, List.set_cons_zero, List.set_cons_succ])
      refine take_run (d := some 55) (v := ?v1011) 11 rfl rfl (by kernel_rfl) (by kernel_rfl) (by kernel_rfl) (fun _ _ _ h => h) (by rfl) hHeld ?hy1011 ?rs1011
      case hy1011 => (intro w hSw; (try dsimp only at hSw); go_simp) <;> (try with_reducible rfl)
      (try simp only [Act.put, List.setIfInBounds_toArray, List.set_cons_zero, List.set_cons_succ])
      refine take_two 1 12 rfl rfl (by kernel_rfl) (by rfl) (by rfl) (fun K hK => ?_) (fun K hK => ?_)
      · have c3 := P.out.c3
        have ql := P.out.lt
        go_simp
        clear c3 ql
        refine hK.out _ _ (cell_keep G.out P.out.bel) (fun hHeld => ?_)
        clear hK K
        (try simp only [Act.put, List.setIfInBounds_toArray, List.set_cons_zero, List.set_cons_succ])
        refine take_call 12 rfl (by kernel_rfl) (by rfl) (fun K hK => ?_)
        go_simp
        have HN := Lib.hid (obj_made wz #[.int .i64 1, .string ⟨Y.toArray⟩, .int .i64 0, .slice none 0 0] 34)
        replace P := Lib.hid (P.out.below (blw_alloc wz (.cells #[.int .i64 1, .string ⟨Y.toArray⟩, .int .i64 0, .slice none 0 0] 34)))
        have B2 := Lib.hid (blw_alloc wz (.cells #[.int .i64 1, .string ⟨Y.toArray⟩, .int .i64 0, .slice none 0 0] 34))
        refine hK.out _ _ (cell_keep G.out P.out.bel) (fun hHeld => ?_)
        clear hK K
        (try simp only [Act.put, List.setIfInBounds_toArray, List.set_cons_zero, List.set_cons_succ])
        refine take_run (d := some 57) (v := ?v1012) 13 rfl rfl (by kernel_rfl) (by kernel_rfl) (by kernel_rfl) (fun _ _ _ h => h) (by rfl) hHeld ?hy1012 ?rs1012
        case hy1012 => (intro w hSw; (try dsimp only at hSw); go_simp) <;> (try with_reducible rfl)
        (try simp only [Act.put, List.setIfInBounds_toArray, List.set_cons_zero, List.set_cons_succ])
        refine take_call 14 rfl (by kernel_rfl) (by rfl) (fun K hK => ?_)
        go_simp
        have HC := Lib.hid (Boxed.made (World.alloc wz (.cells #[.int .i64 1, .string ⟨Y.toArray⟩, .int .i64 0, .slice none 0 0] 34)) #[.string ⟨key.toArray⟩, .slice (some ⟨wz.heap.size, 0, none⟩) 1 1] 41)
        replace P := Lib.hid (P.out.below (blw_alloc _ (.cells #[.string ⟨key.toArray⟩, .slice (some ⟨wz.heap.size, 0, none⟩) 1 1] 41)))
        replace B2 := Lib.hid (blw_trans B2.out (blw_alloc _ (.cells #[.string ⟨key.toArray⟩, .slice (some ⟨wz.heap.size, 0, none⟩) 1 1] 41)))
        replace HN := Lib.hid (((blw_alloc (World.alloc wz (.cells #[.int .i64 1, .string ⟨Y.toArray⟩, .int .i64 0, .slice none 0 0] 34)) (.cells #[.string ⟨key.toArray⟩, .slice (some ⟨wz.heap.size, 0, none⟩) 1 1] 41)).block wz.heap.size (by simp)).trans HN.out)
        refine hK.out _ _ (cell_keep G.out P.out.bel) (fun hHeld => ?_)
        clear hK K
        (try simp only [Act.put, List.setIfInBounds_toArray, List.set_cons_zero, List.set_cons_succ])
        refine take_call 15 rfl (by kernel_rfl) (by rfl) (fun K hK => ?_)
        refine wp_append_own _ _ _ 32 rfl w1.heap.size 41 iC _ 2 40 Tryz.underlying32 hiC hC0 hC1 hC2 rfl (by decide) v l.length (itF l) (by simp [go_sem]) P.out.ci.row ⟨_, 0, none⟩ 1 1 [.string ⟨key.toArray⟩, .slice (some ⟨wz.heap.size, 0, none⟩) 1 1] (by simp [go_sem]) rfl (boxed_add HC.out) (fun u hu => by simp at hu; rcases hu with rfl | rfl <;> rfl) (by have := HLL.out; unfold maxLen; omega) (by have := HLL.out; omega) P.out.bel.size ?_
        intro v' w6 hown hgrow _
        obtain ⟨av, nv, rfl⟩ := mrow_slice hown
        have PZ := Lib.hid (P0.out.add (key, Y, wz.heap.size) B2.out (Nat.le_refl _) HN.out hown hgrow)
        have PB := Lib.hid (show Below w1.heap.size w1 w6 from P.out.bel.grown hgrow P.out.bel.size (fun k hk => (P.out.ci.own hk).1))
        have qc := Lib.hid (show w6.heap[q]? = some (.cells #[.int .i64 5, .string ⟨#[115]⟩, .int .i64 0, v] 34 (0, 0)) from by rw [hgrow.block q P.out.lt (fun e => P.out.ci.node_ne P.out.bx e.symm)]; exact P.out.bx)
        clear hown hgrow
        refine hK.out _ _ (cell_keep G.out PB.out) (fun hHeld => ?_)
        clear hK K
        (try simp only [Act.put, List.setIfInBounds_toArray, List.set_cons_zero, List.set_cons_succ])
        refine take_run (d := some 60) (v := ?v1013) 16 rfl rfl (by kernel_rfl) (by kernel_rfl) (by kernel_rfl) (fun _ _ _ h => h) (by rfl) hHeld ?hy1013 ?rs1013
        case hy1013 => (intro w hSw; (try dsimp only at hSw); go_simp) <;> (try with_reducible rfl)
        (try simp only [Act.put, List.setIfInBounds_toArray, List.set_cons_zero, List.set_cons_succ])
        refine take_call 17 rfl (by kernel_rfl) (by rfl) (fun K hK => ?_)
        have c3 : World.cell? w6 ⟨q, 3, none⟩ = some v := by rw [Lib.cell_of_heap qc.out]; rfl
        have f3 := Lib.frozen_of_heap qc.out 3
        have ql := (Array.getElem?_eq_some_iff.1 qc.out).1
        go_simp
        clear c3 f3 ql
        refine hK.out _ _ (cell_keep G.out PZ.out.bel) (fun hHeld => ?_)
        clear hK K
        (try simp only [Act.put, List.setIfInBounds_toArray, List.set_cons_zero, List.set_cons_succ])
        refine wpAnyH_done (by kernel_rfl) ?_ _
        go_wp2_with fail
        go_roundw
        case rel => exact ⟨i + 1, _, l ++ [(key, Y, wz.heap.size)], by go_num, by omega, PZ, LZ _⟩
        case measure => simp [RowKit.intOf]; omega
      · go_simp
        have HN := Lib.hid (obj_made wz #[.int .i64 1, .string ⟨Y.toArray⟩, .int .i64 0, .slice none 0 0] 34)
        replace P := Lib.hid (P.out.below (blw_alloc wz (.cells #[.int .i64 1, .string ⟨Y.toArray⟩, .int .i64 0, .slice none 0 0] 34)))
        have B2 := Lib.hid (blw_alloc wz (.cells #[.int .i64 1, .string ⟨Y.toArray⟩, .int .i64 0, .slice none 0 0] 34))
        refine hK.out _ _ (cell_keep G.out P.out.bel) (fun hHeld => ?_)
        clear hK K
        (try simp only [Act.put, List.setIfInBounds_toArray, List.set_cons_zero, List.set_cons_succ])
        refine take_run (d := some 57) (v := ?v1014) 13 rfl rfl (by kernel_rfl) (by kernel_rfl) (by kernel_rfl) (fun _ _ _ h => h) (by rfl) hHeld ?hy1014 ?rs1014
        case hy1014 => (intro w hSw; (try dsimp only at hSw); go_simp) <;> (try with_reducible rfl)
        (try simp only [Act.put, List.setIfInBounds_toArray, List.set_cons_zero, List.set_cons_succ])
        refine take_two 1 14 rfl rfl (by kernel_rfl) (by rfl) (by rfl) (fun K hK => ?_) (fun K hK => ?_)
        · have c3 := P.out.c3
          have ql := P.out.lt
          go_simp
          clear c3 ql
          refine hK.out _ _ (cell_keep G.out P.out.bel) (fun hHeld => ?_)
          clear hK K
          (try simp only [Act.put, List.setIfInBounds_toArray, List.set_cons_zero, List.set_cons_succ])
          refine take_call 14 rfl (by kernel_rfl) (by rfl) (fun K hK => ?_)
          go_simp
          have HC := Lib.hid (Boxed.made (World.alloc wz (.cells #[.int .i64 1, .string ⟨Y.toArray⟩, .int .i64 0, .slice none 0 0] 34)) #[.string ⟨key.toArray⟩, .slice (some ⟨wz.heap.size, 0, none⟩) 1 1] 41)
          replace P := Lib.hid (P.out.below (blw_alloc _ (.cells #[.string ⟨key.toArray⟩, .slice (some ⟨wz.heap.size, 0, none⟩) 1 1] 41)))
          replace B2 := Lib.hid (blw_trans B2.out (blw_alloc _ (.cells #[.string ⟨key.toArray⟩, .slice (some ⟨wz.heap.size, 0, none⟩) 1 1] 41)))
          replace HN := Lib.hid (((blw_alloc (World.alloc wz (.cells #[.int .i64 1, .string ⟨Y.toArray⟩, .int .i64 0, .slice none 0 0] 34)) (.cells #[.string ⟨key.toArray⟩, .slice (some ⟨wz.heap.size, 0, none⟩) 1 1] 41)).block wz.heap.size (by simp)).trans HN.out)
          refine hK.out _ _ (cell_keep G.out P.out.bel) (fun hHeld => ?_)
          clear hK K
          (try simp only [Act.put, List.setIfInBounds_toArray, List.set_cons_zero, List.set_cons_succ])
          refine take_call 15 rfl (by kernel_rfl) (by rfl) (fun K hK => ?_)
          refine wp_append_own _ _ _ 32 rfl w1.heap.size 41 iC _ 2 40 Tryz.underlying32 hiC hC0 hC1 hC2 rfl (by decide) v l.length (itF l) (by simp [go_sem]) P.out.ci.row ⟨_, 0, none⟩ 1 1 [.string ⟨key.toArray⟩, .slice (some ⟨wz.heap.size, 0, none⟩) 1 1] (by simp [go_sem]) rfl (boxed_add HC.out) (fun u hu => by simp at hu; rcases hu with rfl | rfl <;> rfl) (by have := HLL.out; unfold maxLen; omega) (by have := HLL.out; omega) P.out.bel.size ?_
          intro v' w6 hown hgrow _
          obtain ⟨av, nv, rfl⟩ := mrow_slice hown
          have PZ := Lib.hid (P0.out.add (key, Y, wz.heap.size) B2.out (Nat.le_refl _) HN.out hown hgrow)
          have PB := Lib.hid (show Below w1.heap.size w1 w6 from P.out.bel.grown hgrow P.out.bel.size (fun k hk => (P.out.ci.own hk).1))
          have qc := Lib.hid (show w6.heap[q]? = some (.cells #[.int .i64 5, .string ⟨#[115]⟩, .int .i64 0, v] 34 (0, 0)) from by rw [hgrow.block q P.out.lt (fun e => P.out.ci.node_ne P.out.bx e.symm)]; exact P.out.bx)
          clear hown hgrow
          refine hK.out _ _ (cell_keep G.out PB.out) (fun hHeld => ?_)
          clear hK K
          (try simp only [Act.put, List.setIfInBounds_toArray, List.set_cons_zero, List.set_cons_succ])
          refine take_run (d := some 60) (v := ?v1015) 16 rfl rfl (by kernel_rfl) (by kernel_rfl) (by kernel_rfl) (fun _ _ _ h => h) (by rfl) hHeld ?hy1015 ?rs1015
          case hy1015 => (intro w hSw; (try dsimp only at hSw); go_simp) <;> (try with_reducible rfl)
          (try simp only [Act.put, List.setIfInBounds_toArray, List.set_cons_zero, List.set_cons_succ])
          refine take_call 17 rfl (by kernel_rfl) (by rfl) (fun K hK => ?_)
          have c3 : World.cell? w6 ⟨q, 3, none⟩ = some v := by rw [Lib.cell_of_heap qc.out]; rfl
          have f3 := Lib.frozen_of_heap qc.out 3
          have ql := (Array.getElem?_eq_some_iff.1 qc.out).1
          go_simp
          clear c3 f3 ql
          refine hK.out _ _ (cell_keep G.out PZ.out.bel) (fun hHeld => ?_)
          clear hK K
          (try simp only [Act.put, List.setIfInBounds_toArray, List.set_cons_zero, List.set_cons_succ])
          refine wpAnyH_done (by kernel_rfl) ?_ _
          go_wp2_with fail
          go_roundw
          case rel => exact ⟨i + 1, _, l ++ [(key, Y, wz.heap.size)], by go_num, by omega, PZ, LZ _⟩
          case measure => simp [RowKit.intOf]; omega
        · go_simp
          have HC := Lib.hid (Boxed.made (World.alloc wz (.cells #[.int .i64 1, .string ⟨Y.toArray⟩, .int .i64 0, .slice none 0 0] 34)) #[.string ⟨key.toArray⟩, .slice (some ⟨wz.heap.size, 0, none⟩) 1 1] 41)
          replace P := Lib.hid (P.out.below (blw_alloc _ (.cells #[.string ⟨key.toArray⟩, .slice (some ⟨wz.heap.size, 0, none⟩) 1 1] 41)))
          replace B2 := Lib.hid (blw_trans B2.out (blw_alloc _ (.cells #[.string ⟨key.toArray⟩, .slice (some ⟨wz.heap.size, 0, none⟩) 1 1] 41)))
          replace HN := Lib.hid (((blw_alloc (World.alloc wz (.cells #[.int .i64 1, .string ⟨Y.toArray⟩, .int .i64 0, .slice none 0 0] 34)) (.cells #[.string ⟨key.toArray⟩, .slice (some ⟨wz.heap.size, 0, none⟩) 1 1] 41)).block wz.heap.size (by simp)).trans HN.out)
          refine hK.out _ _ (cell_keep G.out P.out.bel) (fun hHeld => ?_)
          clear hK K
          (try simp only [Act.put, List.setIfInBounds_toArray, List.set_cons_zero, List.set_cons_succ])
          refine take_call 1 rfl (by kernel_rfl) (by rfl) (fun K hK => ?_)
          have c3 := P.out.c3
          have ql := P.out.lt
          go_simp
          clear c3 ql
          refine hK.out _ _ (cell_keep G.out P.out.bel) (fun hHeld => ?_)
          clear hK K
          (try simp only [Act.put, List.setIfInBounds_toArray, List.set_cons_zero, List.set_cons_succ])
          refine take_call 15 rfl (by kernel_rfl) (by rfl) (fun K hK => ?_)
          refine wp_append_own _ _ _ 32 rfl w1.heap.size 41 iC _ 2 40 Tryz.underlying32 hiC hC0 hC1 hC2 rfl (by decide) v l.length (itF l) (by simp [go_sem]) P.out.ci.row ⟨_, 0, none⟩ 1 1 [.string ⟨key.toArray⟩, .slice (some ⟨wz.heap.size, 0, none⟩) 1 1] (by simp [go_sem]) rfl (boxed_add HC.out) (fun u hu => by simp at hu; rcases hu with rfl | rfl <;> rfl) (by have := HLL.out; unfold maxLen; omega) (by have := HLL.out; omega) P.out.bel.size ?_
          intro v' w6 hown hgrow _
          obtain ⟨av, nv, rfl⟩ := mrow_slice hown
          have PZ := Lib.hid (P0.out.add (key, Y, wz.heap.size) B2.out (Nat.le_refl _) HN.out hown hgrow)
          have PB := Lib.hid (show Below w1.heap.size w1 w6 from P.out.bel.grown hgrow P.out.bel.size (fun k hk => (P.out.ci.own hk).1))
          have qc := Lib.hid (show w6.heap[q]? = some (.cells #[.int .i64 5, .string ⟨#[115]⟩, .int .i64 0, v] 34 (0, 0)) from by rw [hgrow.block q P.out.lt (fun e => P.out.ci.node_ne P.out.bx e.symm)]; exact P.out.bx)
          clear hown hgrow
          refine hK.out _ _ (cell_keep G.out PB.out) (fun hHeld => ?_)
          clear hK K
          (try simp only [Act.put, List.setIfInBounds_toArray, List.set_cons_zero, List.set_cons_succ])
          refine take_run (d := some 60) (v := ?v1016) 16 rfl rfl (by kernel_rfl) (by kernel_rfl) (by kernel_rfl) (fun _ _ _ h => h) (by rfl) hHeld ?hy1016 ?rs1016
          case hy1016 => (intro w hSw; (try dsimp only at hSw); go_simp) <;> (try with_reducible rfl)
          (try simp only [Act.put, List.setIfInBounds_toArray, List.set_cons_zero, List.set_cons_succ])
          refine take_call 17 rfl (by kernel_rfl) (by rfl) (fun K hK => ?_)
          have c3 : World.cell? w6 ⟨q, 3, none⟩ = some v := by rw [Lib.cell_of_heap qc.out]; rfl
          have f3 := Lib.frozen_of_heap qc.out 3
          have ql := (Array.getElem?_eq_some_iff.1 qc.out).1
          go_simp
          clear c3 f3 ql
          refine hK.out _ _ (cell_keep G.out PZ.out.bel) (fun hHeld => ?_)
          clear hK K
          (try simp only [Act.put, List.setIfInBounds_toArray, List.set_cons_zero, List.set_cons_succ])
          refine wpAnyH_done (by kernel_rfl) ?_ _
          go_wp2_with fail
          go_roundw
          case rel => exact ⟨i + 1, _, l ++ [(key, Y, wz.heap.size)], by go_num, by omega, PZ, LZ _⟩
          case measure => simp [RowKit.intOf]; omega
    · have ei : i = NK := by omega
      subst ei
      have hi' : ¬ (i : Int) < (i : Int) := by omega
      have HTK : keys.take i = keys := List.take_of_length_le (by omega)
      rw [HTK] at HK
      have hll := HK.out.len
      rw [hN] at hll
      have HLL := Lib.hid hll
      clear hll
      have LM := Lib.hid fun (x : It) (hx : x ∈ l) => (show x.1.length ≤ 2000000 ∧ x.2.1.length ≤ 2000000 from by
        obtain ⟨k, hk, e1, e2⟩ := HK.out.mem hx
        have := HKN.out k hk
        rw [e1, e2]; simp; omega)
      have KC := Lib.hid fun p => HK.out.cases p
      have HSX := Lib.hid fun (h : i ≤ 50) => HSD.out HK.out.2.1 HK.out.2.2 h
      clear HKN HSD HX CN hcap HTK HK
      go_upto_region 9 with fail
      have P1 := Lib.hid (HP.out.below (blw_alloc wr (.cells #[.int .i64 1, .string ⟨#[60, 60]⟩, .int .i64 0, .slice none 0 0] 34)))
      have P := Lib.hid (P1.out.below (blw_alloc (wr.alloc (.cells #[.int .i64 1, .string ⟨#[60, 60]⟩, .int .i64 0, .slice none 0 0] 34)) (.cells #[.string ⟨#[111, 116, 104, 101, 114]⟩, .slice (some ⟨wr.heap.size, 0, none⟩) 1 1] 41)))
      have B2 := Lib.hid (blw_trans (blw_alloc wr (.cells #[.int .i64 1, .string ⟨#[60, 60]⟩, .int .i64 0, .slice none 0 0] 34)) (blw_alloc (wr.alloc (.cells #[.int .i64 1, .string ⟨#[60, 60]⟩, .int .i64 0, .slice none 0 0] 34)) (.cells #[.string ⟨#[111, 116, 104, 101, 114]⟩, .slice (some ⟨wr.heap.size, 0, none⟩) 1 1] 41)))
      have HC := Lib.hid (Boxed.made (wr.alloc (.cells #[.int .i64 1, .string ⟨#[60, 60]⟩, .int .i64 0, .slice none 0 0] 34)) #[.string ⟨#[111, 116, 104, 101, 114]⟩, .slice (some ⟨wr.heap.size, 0, none⟩) 1 1] 41)
      have HN := Lib.hid (((blw_alloc (wr.alloc (.cells #[.int .i64 1, .string ⟨#[60, 60]⟩, .int .i64 0, .slice none 0 0] 34)) (.cells #[.string ⟨#[111, 116, 104, 101, 114]⟩, .slice (some ⟨wr.heap.size, 0, none⟩) 1 1] 41)).block wr.heap.size (by simp)).trans (obj_made wr #[.int .i64 1, .string ⟨#[60, 60]⟩, .int .i64 0, .slice none 0 0] 34))
      simp only [World.size_alloc] at HC
      have c3 := HP.out.c3
      have ql := HP.out.lt
      go_wp2_with (at_builtin; go_loud (refine wpList_append_own_at _ rfl _ _ 32 rfl w1.heap.size 41 iC _ 2 40 Tryz.underlying32 hiC hC0 hC1 hC2 rfl (by decide) v l.length (itF l) rfl P.out.ci.row ⟨_, 0, none⟩ 1 1 [.string ⟨#[111, 116, 104, 101, 114]⟩, .slice (some ⟨wr.heap.size, 0, none⟩) 1 1] rfl rfl (boxed_add HC.out) (fun u hu => by simp at hu; rcases hu with rfl | rfl <;> rfl) (by have := HLL.out; unfold maxLen; omega) (by have := HLL.out; omega) P.out.bel.size ?_; intro v' w6 hown hgrow _ _; obtain ⟨av, nv, rfl⟩ := mrow_slice hown; have PZ := Lib.hid (HP.out.add (other, [60, 60], wr.heap.size) B2.out (Nat.le_refl _) HN.out hown hgrow); have qc := Lib.hid (show w6.heap[q]? = some (.cells #[.int .i64 5, .string ⟨#[115]⟩, .int .i64 0, v] 34 (0, 0)) from by rw [hgrow.block q P.out.lt (fun e => P.out.ci.node_ne P.out.bx e.symm)]; exact P.out.bx); clear hown hgrow c3 ql; have c0 : World.cell? w6 ⟨q, 0, none⟩ = some (.int .i64 5) := (by first | (rw [Lib.cell_of_heap qc.out]; rfl) | rw [Lib.cell_of_heap qc.out]); have c1 : World.cell? w6 ⟨q, 1, none⟩ = some (.string ⟨#[115]⟩) := (by first | (rw [Lib.cell_of_heap qc.out]; rfl) | rw [Lib.cell_of_heap qc.out]); have c2 : World.cell? w6 ⟨q, 2, none⟩ = some (.int .i64 0) := (by first | (rw [Lib.cell_of_heap qc.out]; rfl) | rw [Lib.cell_of_heap qc.out]); have c3 : World.cell? w6 ⟨q, 3, none⟩ = some v := (by first | (rw [Lib.cell_of_heap qc.out]; rfl) | rw [Lib.cell_of_heap qc.out]); have f3 := Lib.frozen_of_heap qc.out 3; have ql := (Array.getElem?_eq_some_iff.1 qc.out).1))
      (try clear c0); (try clear c1); (try clear c2); (try clear c3); (try clear f3); (try clear ql)
      clear HN B2 P P1 HC qc
      have hs67 : (World.setCell w6 ⟨q, 3, none⟩ (.slice av (l.length + 1) nv)).heap.size = w6.heap.size := by simp
      generalize World.setCell w6 ⟨q, 3, none⟩ (.slice av (l.length + 1) nv) = w7 at *
      rw [← hs67]
      clear hs67
      have B8 := Lib.hid (blw_trans (blw_alloc w7 (.cells #[.int .i64 5, .string ⟨#[115]⟩, .int .i64 0, .slice av (l.length + 1) nv] 34)) (blw_alloc (w7.alloc (.cells #[.int .i64 5, .string ⟨#[115]⟩, .int .i64 0, .slice av (l.length + 1) nv] 34)) (.cells #[.string ⟨#[115]⟩, .bool false, .int .i64 0, .int .i64 0, .string ⟨text.toArray⟩] 36)))
      have W8 := Lib.hid (blw_trans (blw_trans W1.out PZ.out.bel) B8.out)
      have P8 := Lib.hid (PZ.out.below B8.out)
      have BN := Lib.hid ((Boxed.made w7 #[.int .i64 5, .string ⟨#[115]⟩, .int .i64 0, .slice av (l.length + 1) nv] 34).alloc (.cells #[.string ⟨#[115]⟩, .bool false, .int .i64 0, .int .i64 0, .string ⟨text.toArray⟩] 36))
      have M8 := Lib.hid (show MsgAt 2 ((w7.alloc (.cells #[.int .i64 5, .string ⟨#[115]⟩, .int .i64 0, .slice av (l.length + 1) nv] 34)).alloc (.cells #[.string ⟨#[115]⟩, .bool false, .int .i64 0, .int .i64 0, .string ⟨text.toArray⟩] 36)) (.slice (some ⟨w7.heap.size, 0, none⟩) 1 1) (selM keys) from by
        have hh : selM keys = [.mk 5 [115] 0 (itC (l ++ [(other, [60, 60], wr.heap.size)]))] := by unfold selM; rw [KC.out]
        rw [hh]
        refine msg_one (nd_cases (f := 1) (BN.out.cell 0 _ rfl) (BN.out.cell 1 _ rfl) (BN.out.cell 2 _ rfl) (BN.out.cell 3 _ rfl) (by decide) (P8.out.ci.cass fun x hx => ?_) ?_)
        · rcases List.mem_append.1 hx with hx | hx
          · exact LM.out x hx
          · obtain rfl : x = (other, [60, 60], wr.heap.size) := by simpa using hx
            exact ⟨(by show other.length ≤ 2000000; decide), (by show ([60, 60] : List UInt8).length ≤ 2000000; decide)⟩
        · have := HLL.out; unfold itC; simp; omega)
      have A8 := Lib.hid (show ArgsAt ((w7.alloc (.cells #[.int .i64 5, .string ⟨#[115]⟩, .int .i64 0, .slice av (l.length + 1) nv] 34)).alloc (.cells #[.string ⟨#[115]⟩, .bool false, .int .i64 0, .int .i64 0, .string ⟨text.toArray⟩] 36)) (.slice (some ⟨(w7.alloc (.cells #[.int .i64 5, .string ⟨#[115]⟩, .int .i64 0, .slice av (l.length + 1) nv] 34)).heap.size, 0, none⟩) 1 1) (selA text) from args_box (l := selA text) (Boxed.made _ _ _) (by show 0 < 1; omega) (by show 1 ≤ 1000; omega))
      simp only [World.size_alloc] at A8
      have CSi := Lib.hid (CS.out _ _ _ W8.out M8.out A8.out)
      clear CS M8 A8 BN P8 PZ HP KC LM
      by_cases h50 : i ≤ 50
      · have h50' : ¬ (50 : Int) < (i : Int) := by omega
        obtain ⟨e1, e2⟩ := HSX.out h50
        obtain ⟨Y, hY⟩ : ∃ Y, Y = 60 :: text := ⟨_, rfl⟩
        have AD : ∀ w, (Op.stringOp .add ⟨#[60]⟩ ⟨text.toArray⟩).run Tryz.prog w = .ok (.string ⟨Y.toArray⟩) w := fun w => by rw [hY]; exact add_str (P := Tryz.prog) [60] text (by simp; omega) w
        rw [← hY] at e2
        clear hY HSX
        cases hT : keys.contains text with
        | true =>
          rw [hT] at e2 CIN
          rw [if_pos rfl] at e2
          rw [e1, e2, errN_zero] at CSi
          clear e1 e2
          refine CSi.out.mono ?_
          rintro e w9 ⟨rfl, hb⟩
          have W9 := Lib.hid (blw_trans W8.out hb)
          clear hb CSi W8
          go_wp2_with fail
          refine (CIN.out _ W9.out).mono ?_
          rintro e w10 ⟨rfl, hb⟩
          have W10 := Lib.hid (blw_trans W9.out hb)
          clear hb CIN W9
          go_wp2_with fail
          go_ret
          exact ⟨ret_bool (by simp), W10.out⟩
        | false =>
          rw [hT] at e2 CIN
          rw [if_neg (by decide)] at e2
          rw [e1, e2, errN_zero] at CSi
          clear e1 e2 AD
          refine CSi.out.mono ?_
          rintro e w9 ⟨rfl, hb⟩
          have W9 := Lib.hid (blw_trans W8.out hb)
          clear hb CSi W8
          go_wp2_with fail
          refine (CIN.out _ W9.out).mono ?_
          rintro e w10 ⟨rfl, hb⟩
          have W10 := Lib.hid (blw_trans W9.out hb)
          clear hb CIN W9
          go_wp2_with fail
          go_ret
          exact ⟨ret_bool (by simp), W10.out⟩
      · have h50' : (50 : Int) < (i : Int) := by omega
        clear HSX CIN
        refine CSi.out.mono ?_
        rintro e w9 ⟨rfl, hb⟩
        have W9 := Lib.hid (blw_trans W8.out hb)
        clear hb CSi W8
        go_wp2_with fail
        go_ret
        exact ⟨ret_bool (by simp), W9.out⟩
end Go.Proofs.YtldbfkccieipjaaGreatDoor
namespace Go.Proofs.YtldbfkccieipjaaGreatDoor.lawEvalSelect
open Go.ChangeShapes Go.WideShapes Go.ChangeAt Go.RowKit Go.Joins

theorem own : ownKnob Tryz.prog.godebug = none := by kernel_rfl
theorem laidOut : laidOutB Tryz.prog = true := by kernel_rfl

set_option maxRecDepth 100000 in
theorem contract (H : Type) (enc : TypeId × Value → H) (W : World) (base : Nat) (args : Array Value) (ds gs : List (DataW H)) (before : List MemPlace)
    (hval : ∀ (j : Nat) t v, Tryz.f6.params[j]? = some t → args[j]? = some v → Value.okWide Tryz.prog W .any base t v)
    (hW : DataW.Whole enc Tryz.prog Tryz.f6.params.toList Rows.evalSelectSpec.vars false W args.toList ds gs before) (hk : Rows.uptoSmall H (ds ++ gs) = true) (hL : laidMetH Tryz.prog Rows.evalSelectUptoRow.laid W) (hS : W.ShapedOpen Tryz.prog) :
    Calls Tryz.prog 6 args W fun e W' => ∃ v, e = .returned v ∧ Rows.evalSelectSpec.post enc Tryz.prog Tryz.f6 false true false false W args v W' := by
  have hpost : ∀ W', Below W.heap.size W W' → Rows.evalSelectSpec.post enc Tryz.prog Tryz.f6 false true false false W args (.bool true) W' := fun W' hb =>
    law_post (tb := 4) laidOut rfl Tryz.underlying4 rfl (by kernel_rfl) (fun ds h => by match ds, h with | [x0, x1, x2], _ => rfl) hW hb
  obtain ⟨p, q, hA0, hV, _, hfz, hnd⟩ := hW
  have hA : DataW.TrodAll enc Tryz.prog W 0 (fun _ => true) true Tryz.f6.params.toList args.toList ds p := hA0
  obtain ⟨rfl, rfl⟩ := trodVars_none hV
  rw [Tryz.params6] at hA hval
  obtain ⟨v0, vs0, d0, ds0, p0, q0, hargs, rfl, hp0, h0, r0⟩ := trodAll_cons hA
  obtain ⟨v1, vs1, d1, ds1, p1, q1, rfl, rfl, hp1, h1, r1⟩ := trodAll_cons r0
  obtain ⟨v2, vs2, d2, ds2, p2, q2, rfl, rfl, hp2, h2, r2⟩ := trodAll_cons r1
  obtain ⟨rfl, rfl, hp⟩ := trodAll_nil r2
  obtain rfl : args = #[v0, v1, v2] := by cases args; simp_all
  obtain ⟨keys_a, keys_n, keys_c, rfl⟩ := okWide_slice Tryz.underlying45 (hval 0 45 v0 rfl rfl)
  obtain ⟨keys_f, keys_h⟩ := h0
  obtain ⟨keys, keys_at, keys_d⟩ := strs_open Tryz.underlying45 Tryz.underlying9 (by kernel_rfl) keys_h
  obtain ⟨text, rfl, rfl, rfl, w_text⟩ := ChangeMaps.open_string Tryz.underlying9 (hval 1 9 v1 rfl rfl) h1
  obtain ⟨lang, rfl, rfl, rfl, w_lang⟩ := ChangeMaps.open_string Tryz.underlying9 (hval 2 9 v2 rfl rfl) h2
  clear hA0 hfz hnd hval
  have hm : MaxW W := Go.Proofs.cell_of_shapedOpen_int (zero := #[.int .i64 0]) (t := 3) hS (of_decide_eq_true (by kernel_rfl)) (by kernel_rfl) rfl (by kernel_rfl) (by kernel_rfl) Tryz.underlying3
  have hT : TR W := ⟨powW_of hL (by kernel_rfl), numW_of hL (by kernel_rfl) (by kernel_rfl), hm⟩
  have hM : MW W := ⟨powW_of hL (by kernel_rfl), numW_of hL (by kernel_rfl) (by kernel_rfl), kdW_of hL (by kernel_rfl)⟩
  have hE : EvW W := ⟨hT, kindsW_of hL (by kernel_rfl), numerW_of hL (by kernel_rfl) (by kernel_rfl)⟩
  have hq : Rows.uptoBulkAll _ ≤ 1048576 := of_decide_eq_true hk
  simp only [List.append_nil, Rows.uptoBulkAll, Rows.uptoBulk, Array.length_toList] at hq
  have hz : ∀ x : ByteArray, x.data.size = x.size := fun _ => rfl
  simp only [hz] at hq
  have hb0 := bulk_strs keys_d
  have hkl : keys.length ≤ 1500000 := by omega
  have hkn : ∀ k ∈ keys, k.length ≤ 1500000 := fun k h => by
    have := sum_mem _ _ (List.mem_map.2 ⟨k, h, rfl⟩ : k.length ∈ keys.map (·.length))
    omega
  have hsz2 : text.size ≤ 1048576 := by omega
  refine Calls.mono (?_ : Calls Tryz.prog 6 #[.slice keys_a keys_n keys_c, .string text, .string lang] W fun e w' => e = .returned (.bool true) ∧ Below W.heap.size W w') fun e W' ⟨he, hb⟩ => ⟨_, he, hpost W' hb⟩
  obtain ⟨lt, rfl⟩ : ∃ l : List UInt8, text = ⟨l.toArray⟩ := ⟨text.data.toList, rfl⟩
  obtain ⟨ll, rfl⟩ : ∃ x : List UInt8, lang = ⟨x.toArray⟩ := ⟨lang.data.toList, rfl⟩
  simp only [size_mkl] at hsz2
  exact esel_any keys lt ll W hM hE keys_at hkl hkn (by omega)

theorem start_met (os : Os) : laidMetH Tryz.prog Rows.evalSelectUptoRow.laid ((World.laidAll Tryz.prog os Rows.evalSelectUptoRow.laid).forCall (fun _ _ => 0) ⟨#[], #[.slice none 0 0, .string ⟨#[]⟩, .string ⟨#[]⟩], []⟩).memory :=
  by rw [MakeChecks.laidMetH_plain _ _ _ (by kernel_rfl)]; exact laidMet_laidAll _ (by kernel_rfl) (by kernel_rfl)
theorem start_reads (os : Os) {H : Type} (enc : TypeId × Value → H) : ∃ places, DataW.whole enc Tryz.prog ((World.laidAll Tryz.prog os Rows.evalSelectUptoRow.laid).forCall (fun _ _ => 0) ⟨#[], #[.slice none 0 0, .string ⟨#[]⟩, .string ⟨#[]⟩], []⟩).memory Tryz.f6.params.toList Rows.evalSelectSpec.vars false (#[.slice none 0 0, .string ⟨#[]⟩, .string ⟨#[]⟩] : Array Value).toList 8 = some ([.nil, .lit (.string []), .lit (.string [])], [], places) :=
  ⟨[], by kernel_rfl⟩

set_option maxRecDepth 100000 in
theorem lifted (os : Os) (started : os.Started) (H : Type) (enc : TypeId × Value → H) (F : Stop.Interp) :
    ReturnsInHanded {} Tryz.checked os 6 .any ((Rows.OpenSpec.upto Rows.evalSelectSpec).preRow enc Tryz.prog Tryz.f6 Rows.evalSelectUptoRow.domain false Rows.evalSelectUptoRow.laid) (((Rows.OpenSpec.upto Rows.evalSelectSpec).at F).post enc Tryz.prog Tryz.f6 false true false false) := by
  obtain ⟨places, hx⟩ := start_reads os enc
  refine returnsInHanded_of_row (C := Tryz.checked) (s := Rows.OpenSpec.upto Rows.evalSelectSpec) own started (by kernel_rfl) Tryz.func6
    (witness_row_atRef (enc := enc) (C := Tryz.checked) false (World.laidAll Tryz.prog os Rows.evalSelectUptoRow.laid) #[.slice none 0 0, .string ⟨#[]⟩, .string ⟨#[]⟩] (World.laidAll_os _ _ _) (by kernel_rfl) (by kernel_rfl) (by kernel_rfl)
      (OpenSpec.preRow_of_cond 8 hx (by kernel_rfl) (fun k hk => by cases hk; kernel_rfl) (by kernel_rfl) (start_met os))) ?_
  intro W base args ds gs before hval hW _ hcond _ hL hS _
  exact contract H enc W base args ds gs before hval hW (hcond _ rfl) hL hS

theorem cl1 : (Rows.evalSelectUptoRow.inPlace == Tryz.pinned.checked.prog.inPlace 6) = true := by kernel_rfl
theorem cl2 : (Rows.evalSelectUptoRow.unfollowed == Tryz.pinned.checked.prog.unfollowed 6) = true := by kernel_rfl
theorem cl3 : (Rows.evalSelectUptoRow.recurses == Tryz.pinned.checked.prog.recurses 6) = true := by kernel_rfl
theorem cl4 : (Rows.evalSelectUptoRow.named == Tryz.pinned.checked.prog.varsNamed 6) = true := by kernel_rfl
theorem closed : joinedFacts Tryz.pinned.checked.prog 6 Tryz.f6 (Rows.OpenSpec.upto Rows.evalSelectSpec).bare Rows.evalSelectUptoRow = true := by
  unfold joinedFacts
  rw [cl1, cl2, cl3, cl4]
  kernel_rfl

theorem said : Rows.EvalSelectUptoSaid :=
  OpenClaim.holds_of_cond 6 Tryz.f6 rfl rfl rfl rfl rfl rfl rfl ⟨rfl, rfl, rfl, rfl, rfl⟩ rfl rfl rfl rfl rfl (by kernel_rfl) Tryz.func6 closed
    (of_decide_eq_true (by kernel_rfl)) (by unfold Func.isWrapper; first | (rw [if_pos (by decide +kernel)]; kernel_rfl) | (rw [if_neg (by decide +kernel)]; exact ⟨rfl, rfl⟩))
    (fun os started H enc _ F => by rw [OpenClaim.pre_eq_preRow]; exact lifted os started H enc F)

theorem plain (f : FuncId) (fn : Func) (hf : Tryz.pinned.checked.prog.funcNamed "linguister/linguisterlaw3.EvalSelect" = some f) (hfn : Tryz.pinned.checked.prog.funcs[f]? = some fn) :
    true = Tryz.pinned.checked.prog.looks [] ∧ ∀ (j : Nat) t, fn.params[j]? = some t → Tryz.pinned.checked.prog.wantsStandIn t = false := by
  obtain rfl : f = 6 := Option.some.inj ((show Tryz.prog.funcNamed "linguister/linguisterlaw3.EvalSelect" = some 6 by kernel_rfl).symm.trans hf) |>.symm
  obtain rfl : fn = Tryz.f6 := (Option.some.inj (Tryz.func6.symm.trans hfn)).symm
  refine ⟨by kernel_rfl, fun j t ht => ?_⟩
  rw [Tryz.params6] at ht
  have hm : t ∈ [45, 9, 9] := by simpa using Array.mem_of_getElem? ht
  have hall : ([45, 9, 9].all fun u => !Tryz.prog.wantsStandIn u) = true := by kernel_rfl
  exact (show Tryz.prog.wantsStandIn t = false by simpa using List.all_eq_true.1 hall t hm)

theorem proved : Rows.EvalSelectUptoCardSaid :=
  Claim7.holds_tied_plain_at .later [] _ _ _ _ said (fun _ h => by cases h) (by kernel_rfl) (fun _ h => by cases h) evalSelectUpto_row_tie rfl ⟨rfl, rfl⟩ (by kernel_rfl) rfl plain (by kernel_rfl)
#print axioms proved
end Go.Proofs.YtldbfkccieipjaaGreatDoor.lawEvalSelect
