/- The walk of (*Server).Load at the one bundle, on a new server. -/
import Derived.Test.YtghohnbajbikjaaGreatDoorUnBa
import Derived.Test.YtghohnbajbikjaaGreatDoorUnV
import Derived.Test.YtghohnbajbikjaaGreatDoorUnX
import Derived.Test.YtghohnbajbikjaaGreatDoorUnU
import Derived.Test.YtghohnbajbikjaaGreatDoorUnBc
namespace Go.Proofs.YtghohnbajbikjaaGreatDoor
open Go.RowKit Go.MapKept
namespace Tn
theorem infoEnX : (Tryz.prog.info? 41).map (fun i => (i.zero, i.size, i.bytes)) = some (some (.agg #[.string ByteArray.empty, .string ByteArray.empty]), 2, 32) := by kernel_rfl
theorem infoBdX : (Tryz.prog.info? 38).map (fun i => (i.zero, i.size, i.bytes)) = some (some (.agg #[.string ByteArray.empty, .slice none 0 0]), 2, 40) := by kernel_rfl
theorem hi_slat {w : World} {b g c cp : Nat} (hB : Boxed w b #[.string ⟨#[101, 110]⟩, .slice (some ⟨g, 0, none⟩) 1 cp]) (hG : Boxed w g #[.string ⟨#[104, 105]⟩, .string ⟨#[104, 101, 108, 108, 111]⟩]) (h1 : 1 ≤ c) (h2 : c ≤ maxLen) (h3 : 1 ≤ cp) (h4 : cp ≤ maxLen) : SlAt 2 BdC w (.slice (some ⟨b, 0, none⟩) 1 c) [hiB] := by
  refine .inr ⟨b, 0, c, rfl, by decide, h1, h2, fun j x hj => ?_⟩
  cases j with
  | succ j => simp at hj
  | zero =>
    have e : hiB = x := by simpa using hj
    subst e
    refine ⟨some ⟨g, 0, none⟩, 1, cp, hB.cell 0 _ rfl, hB.cell 1 _ rfl, .inr ⟨g, 0, cp, rfl, by decide, h3, h4, fun j x hj => ?_⟩⟩
    cases j with
    | succ j => simp [hiB] at hj
    | zero =>
      have e : (⟨[104, 105], [104, 101, 108, 108, 111]⟩ : En) = x := by simpa [hiB] using hj
      subst e
      exact ⟨hG.cell 0 _ rfl, hG.cell 1 _ rfl⟩
theorem grown_kptS {w w' : World} {S : Nat → Prop} {q : Nat} (h : w.grownBy w' (some q)) (hq : S q) : Kpt S w w' := ⟨h.os, h.tape, h.output, h.size, fun k hk hn => h.block k hk (by intro e; injection e with e; exact hn (e ▸ hq))⟩
theorem row_cells2 {w : World} {B : Nat} {e : TypeId} {v : Value} {xs : List Value} (h : w.ownsRow B e 2 v 1 xs) : ∃ g cap, v = .slice (some ⟨g, 0, none⟩) 1 cap ∧ B ≤ g ∧ 1 ≤ cap ∧ cap ≤ maxLen ∧ Boxed w g xs.toArray := row_cells h
theorem cell_same {w w' : World} {q j : Nat} {v : Value} (h : w.cell? ⟨q, j, none⟩ = some v) (e : w'.heap[q]? = w.heap[q]?) : w'.cell? ⟨q, j, none⟩ = some v := by
  simp only [World.cell?] at h ⊢
  rw [e]; exact h
set_option maxRecDepth 100000 in
set_option maxHeartbeats 4000000 in
theorem load_any (W : World) (p st ca cb al cm b0 e0 : Nat) (w : World) (hM : MaxW W) (hW : Below W.heap.size W w) (hS : Srv W.heap.size w p st ca cb al cm (.slice none 0 0) 0 0) (hal : w.heap[al]? = some (.map #[] 0)) (hp : p < b0 ∧ p < e0)
    (hB : Boxed w b0 #[.string ⟨#[101, 110]⟩, .slice (some ⟨e0, 0, none⟩) 1 1]) (hE : Boxed w e0 #[.string ⟨#[104, 105]⟩, .string ⟨#[104, 101, 108, 108, 111]⟩]) :
    Calls Tryz.prog 22 #[.pointer (some ⟨p, 0, none⟩), .slice (some ⟨b0, 0, none⟩) 1 1] w fun e w' => e = .returned (.tuple #[.int .i64 1, .nilIface]) ∧ ∃ cb' b c, Srv W.heap.size w' p st ca cb' al cm (.slice (some ⟨b, 0, none⟩) 1 c) 1 1 ∧ SlAt 2 BdC w' (.slice (some ⟨b, 0, none⟩) 1 c) [hiB] ∧ w'.cell? ⟨b, 0, none⟩ = some (.string ⟨#[101, 110]⟩) ∧ Below W.heap.size W w' := by
  have CL := Lib.hid (sload_any st al (some ⟨b0, 0, none⟩) 1 1 w (hM.below hW) (hi_slat hB hE (by decide) (by decide) (by decide) (by decide)) hS.sto hal)
  have CC := Lib.hid fun wx (h : Boxed wx ca #[.slice (some ⟨cb, 0, none⟩) 1 1, .int .i64 0]) => cclear_any ca cb wx h
  obtain ⟨iE, hiE, hE0, hE1, hE2⟩ := info_parts infoEnX
  obtain ⟨iB, hiB', hB0, hB1, hB2⟩ := info_parts infoBdX
  have o1 := hS.o1
  have o2 := hS.o2
  have HS := Lib.hid hS
  have HW := Lib.hid hW
  have HB := Lib.hid hB
  have HE := Lib.hid hE
  have v0 := hS.srv.cell 0 _ rfl
  have vl := hS.srv.lt
  have wl := hW.size
  have hp1 := hp.1
  have hp2 := hp.2
  clear hS hW hB hE hp hal
  go_enter Tryz.func22, Tryz.ntmps22
  go_wp2_with fail
  refine CL.out.mono ?_
  rintro e w1 ⟨rfl, hst, hk⟩
  have ST1 := Lib.hid hst
  have VP1 := Lib.hid (hk.box HS.out.srv (by omega))
  have VA1 := Lib.hid (hk.box HS.out.cac (by omega))
  have VC1 : Hid (∃ c, w1.heap[cm]? = some (.map #[] c)) := Lib.hid (by obtain ⟨c, hc⟩ := HS.out.cod; exact ⟨c, (hk.block cm (Array.getElem?_eq_some_iff.1 hc).1 (by omega)).trans hc⟩)
  have BB1 := Lib.hid (hk.box HB.out (by omega))
  have BE1 := Lib.hid (hk.box HE.out (by omega))
  have W1 := Lib.hid (hk.toBelow HW.out (fun k hk e => by omega))
  clear hst hk HS HB HE HW v0 vl CL
  have v0 := VP1.out.cell 0 _ rfl
  have v3 := VP1.out.cell 3 _ rfl
  have v4 := VP1.out.cell 4 _ rfl
  have f3 := VP1.out.free 3 (by simp)
  have f4 := VP1.out.free 4 (by simp)
  have vl := VP1.out.lt
  go_upto_region 5 with fail
  have VP2 : Hid (Boxed ((w1.setCell ⟨p, 4, none⟩ (.int .i64 1)).setCell ⟨p, 3, none⟩ (.slice none 0 0)) p #[.pointer (some ⟨st, 0, none⟩), .pointer (some ⟨ca, 0, none⟩), .map (some cm), .slice none 0 0, .int .i64 1]) := Lib.hid ((VP1.out.set 4 (.int .i64 1) (by simp)).set 3 (.slice none 0 0) (by simp))
  have K2 := Lib.hid (((Kpt.refl (fun k => k = p) w1).setCell ⟨p, 4, none⟩ (.int .i64 1) (fun _ => rfl)).setCell ⟨p, 3, none⟩ (.slice none 0 0) (fun _ => rfl))
  have ST2 := Lib.hid (K2.out.box ST1.out (by omega))
  have VA2 := Lib.hid (K2.out.box VA1.out (by omega))
  have VC2 : Hid (∃ c, ((w1.setCell ⟨p, 4, none⟩ (.int .i64 1)).setCell ⟨p, 3, none⟩ (.slice none 0 0)).heap[cm]? = some (.map #[] c)) := Lib.hid (by obtain ⟨c, hc⟩ := VC1.out; exact ⟨c, (K2.out.block cm (Array.getElem?_eq_some_iff.1 hc).1 (by omega)).trans hc⟩)
  have BB2 := Lib.hid (K2.out.box BB1.out (by omega))
  have BE2 := Lib.hid (K2.out.box BE1.out (by omega))
  have W2 := Lib.hid (K2.out.toBelow W1.out (fun k hk e => by omega))
  clear v0 v3 v4 f3 f4 vl VP1 ST1 VA1 VC1 BB1 BE1 W1 K2
  generalize (w1.setCell ⟨p, 4, none⟩ (.int .i64 1)).setCell ⟨p, 3, none⟩ (.slice none 0 0) = w2 at *
  have b0' := BB2.out.cell 0 _ rfl
  have b1' := BB2.out.cell 1 _ rfl
  have bl := BB2.out.lt
  go_wp2_with fail
  refine wp_loop_rounds 2 ?_
  rw [rounds_succ]
  go_upto_region 8 with fail
  have KB := Lib.hid (Boxed.made w2 #[.string ⟨#[101, 110]⟩, .slice (some ⟨e0, 0, none⟩) 1 1] 38)
  have A2 := Lib.hid (blw_alloc w2 (.cells #[.string ⟨#[101, 110]⟩, .slice (some ⟨e0, 0, none⟩) 1 1] 38))
  have hz3 : w2.heap.size < (w2.alloc (.cells #[.string ⟨#[101, 110]⟩, .slice (some ⟨e0, 0, none⟩) 1 1] 38)).heap.size := by simp
  have VP3 := Lib.hid (VP2.out.below A2.out)
  have BE3 := Lib.hid (BE2.out.below A2.out)
  have ST3 := Lib.hid (ST2.out.below A2.out)
  have VA3 := Lib.hid (VA2.out.below A2.out)
  have VC3 : Hid (∃ c, (w2.alloc (.cells #[.string ⟨#[101, 110]⟩, .slice (some ⟨e0, 0, none⟩) 1 1] 38)).heap[cm]? = some (.map #[] c)) := Lib.hid (by obtain ⟨c, hc⟩ := VC2.out; exact ⟨c, (A2.out.block cm (Array.getElem?_eq_some_iff.1 hc).1).trans hc⟩)
  have W3 := Lib.hid (blw_trans W2.out A2.out)
  have hpl := VP2.out.lt
  have hel := BE2.out.lt
  clear VP2 BE2 ST2 VA2 VC2 W2 A2 BB2 b0' b1' bl
  have hkb : w2.heap.size < (w2.alloc (.cells #[.string ⟨#[101, 110]⟩, .slice (some ⟨e0, 0, none⟩) 1 1] 38)).heap.size := by simp
  generalize w2.alloc (.cells #[.string ⟨#[101, 110]⟩, .slice (some ⟨e0, 0, none⟩) 1 1] 38) = w3 at *
  generalize w2.heap.size = kb at *
  have q0 := VP3.out.cell 3 _ rfl
  have q1 := KB.out.cell 0 _ rfl
  have q2 := KB.out.cell 1 _ rfl
  refine te_region (S := fun w' => w'.cell? ⟨p, 3, none⟩ = some (.slice none 0 0) ∧ w'.cell? ⟨kb, 0, none⟩ = some (.string ⟨#[101, 110]⟩) ∧ w'.cell? ⟨kb, 1, none⟩ = some (.slice (some ⟨e0, 0, none⟩) 1 1) ∧ Hid (Boxed w' p #[.pointer (some ⟨st, 0, none⟩), .pointer (some ⟨ca, 0, none⟩), .map (some cm), .slice none 0 0, .int .i64 1]) ∧ Hid (Boxed w' e0 #[.string ⟨#[104, 105]⟩, .string ⟨#[104, 101, 108, 108, 111]⟩]) ∧ Hid (Kpt (fun k => k = p ∨ w3.heap.size ≤ k) w3 w')) 16 (by kernel_rfl) ⟨q0, q1, q2, Lib.hid VP3.out.drew, Lib.hid BE3.out.drew, Lib.hid (Kpt.of_below (Below.drew (Below.refl _ _)))⟩ (fun hHeld => ?_)
  have hz3' : w3.drew.heap.size = w3.heap.size := rfl
  generalize w3.drew = wz at *
  clear q0 q1 q2
  refine te_run (d := (some 35)) (v := ?v1) 0 rfl rfl rfl (by kernel_rfl) (by kernel_rfl) (by kernel_rfl) (by kernel_rfl) (fun _ _ _ h => h) (by rfl) hHeld ?hy1 ?rs1
  case hy1 => (intro w hSw; (try dsimp only at hSw); go_simp) <;> (try with_reducible rfl)
  (try simp only [Act.put, List.setIfInBounds_toArray, List.set_cons_zero, List.set_cons_succ])
  refine te_run (d := (some 36)) (v := ?v2) 1 rfl rfl rfl (by kernel_rfl) (by kernel_rfl) (by kernel_rfl) (by kernel_rfl) (fun _ _ _ h => h) (by rfl) hHeld ?hy2 ?rs2
  case hy2 => (intro w hSw; (try dsimp only at hSw); go_simp) <;> (try with_reducible rfl)
  (try simp only [Act.put, List.setIfInBounds_toArray, List.set_cons_zero, List.set_cons_succ])
  refine te_run (d := (some 37)) (v := ?v3) 2 rfl rfl rfl (by kernel_rfl) (by kernel_rfl) (by kernel_rfl) (by kernel_rfl) (fun _ _ _ h => h) (by rfl) hHeld ?hy3 ?rs3
  case hy3 => (intro w hSw; (try dsimp only at hSw); go_simp) <;> (try with_reducible rfl)
  (try simp only [Act.put, List.setIfInBounds_toArray, List.set_cons_zero, List.set_cons_succ])
  refine te_run (d := (some 38)) (v := ?v4) 3 rfl rfl rfl (by kernel_rfl) (by kernel_rfl) (by kernel_rfl) (by kernel_rfl) (fun _ _ _ h => h) (by rfl) hHeld ?hy4 ?rs4
  case hy4 => (intro w hSw; (try dsimp only at hSw); go_simp) <;> (try with_reducible rfl)
  (try simp only [Act.put, List.setIfInBounds_toArray, List.set_cons_zero, List.set_cons_succ])
  refine te_run (d := (some 39)) (v := ?v5) 4 rfl rfl rfl (by kernel_rfl) (by kernel_rfl) (by kernel_rfl) (by kernel_rfl) (fun _ _ _ h => h) (by rfl) hHeld ?hy5 ?rs5
  case hy5 => (intro w hSw; (try dsimp only at hSw); go_simp) <;> (try with_reducible rfl)
  (try simp only [Act.put, List.setIfInBounds_toArray, List.set_cons_zero, List.set_cons_succ])
  refine te_run (d := (some 40)) (v := ?v6) 5 rfl rfl rfl (by kernel_rfl) (by kernel_rfl) (by kernel_rfl) (by kernel_rfl) (fun _ _ _ h => h) (by rfl) hHeld ?hy6 ?rs6
  case hy6 => (intro w hSw; (try dsimp only at hSw); go_simp) <;> (try with_reducible rfl)
  (try simp only [Act.put, List.setIfInBounds_toArray, List.set_cons_zero, List.set_cons_succ])
  refine te_run (d := (some 41)) (v := ?v7) 6 rfl rfl rfl (by kernel_rfl) (by kernel_rfl) (by kernel_rfl) (by kernel_rfl) (fun _ _ _ h => h) (by rfl) hHeld ?hy7 ?rs7
  case hy7 => (intro w hSw; (try dsimp only at hSw); go_simp) <;> (try with_reducible rfl)
  (try simp only [Act.put, List.setIfInBounds_toArray, List.set_cons_zero, List.set_cons_succ])
  refine te_run (d := (some 43)) (v := ?v8) 8 rfl rfl rfl (by kernel_rfl) (by kernel_rfl) (by kernel_rfl) (by kernel_rfl) (fun _ _ _ h => h) (by rfl) hHeld ?hy8 ?rs8
  case hy8 => (intro w hSw; (try dsimp only at hSw); go_simp) <;> (try with_reducible rfl)
  (try simp only [Act.put, List.setIfInBounds_toArray, List.set_cons_zero, List.set_cons_succ])
  refine te_run (d := (some 44)) (v := ?v9) 9 rfl rfl rfl (by kernel_rfl) (by kernel_rfl) (by kernel_rfl) (by kernel_rfl) (fun _ _ _ h => h) (by rfl) hHeld ?hy9 ?rs9
  case hy9 => (intro w hSw; (try dsimp only at hSw); go_simp) <;> (try with_reducible rfl)
  (try simp only [Act.put, List.setIfInBounds_toArray, List.set_cons_zero, List.set_cons_succ])
  refine te_call 7 rfl (by kernel_rfl) (by rfl) (fun K hK => ?_)
  go_simp
  have OW := Lib.hid (World.ownsRow_made (base := w3.heap.size) (e := 41) (size := 2) wz #[] 0 (by rw [hz3']; exact Nat.le_refl _) (by unfold maxLen; omega) rfl)
  rw [hz3'] at OW
  refine hK.out _ _ (fun _ => by obtain ⟨h0, h1, h2, h3, h4, hw⟩ := hHeld; exact ⟨cell_keep h0 (blw_alloc _ _), cell_keep h1 (blw_alloc _ _), cell_keep h2 (blw_alloc _ _), Lib.hid (h3.out.alloc _), Lib.hid (h4.out.alloc _), Lib.hid (hw.out.alloc _)⟩) (fun hHeld => ?_)
  have hHeld := hHeld (by decide)
  clear hK K
  (try simp only [Act.put, List.setIfInBounds_toArray, List.set_cons_zero, List.set_cons_succ])
  generalize wz.alloc (.cells #[] 41) = wd at *
  refine te_call 10 rfl (by kernel_rfl) (by rfl) (fun K hK => ?_)
  obtain ⟨h0, h1, h2, h3, h4, hw⟩ := hHeld
  refine wpx_append_at _ _ _ 36 rfl w3.heap.size 41 iE _ 2 32 Tryz.underlying36 hiE hE0 hE1 hE2 rfl (by decide) (.slice (some ⟨w3.heap.size, 0, none⟩) 0 0) 0 [] (by simp [go_sem]) OW.out ⟨e0, 0, none⟩ 1 1 [.string ⟨#[104, 105]⟩, .string ⟨#[104, 101, 108, 108, 111]⟩] (by simp [go_sem]) rfl (boxed_add h4.out) (fun u hu => by simp at hu; rcases hu with rfl | rfl <;> rfl) (by unfold maxLen; omega) (by omega) hw.out.size ?_
  intro bv w6 hown hgrow _
  obtain ⟨gb, gc, rfl, hgb, hgc1, hgc2, hBG⟩ := row_cells2 hown
  have hk : ∀ k, k < w3.heap.size → w6.heap[k]? = wd.heap[k]? := fun k hk => hgrow.block k (Nat.lt_of_lt_of_le hk hw.out.size) (by simp [Value.ownBlock]; omega)
  have K6 := Lib.hid (hw.out.trans (grown_kptS (S := (fun k => k = p ∨ w3.heap.size ≤ k)) hgrow (.inr (Nat.le_refl _))))
  have P6 := Lib.hid (h3.out.same (hk _ (by omega)))
  have E6 := Lib.hid (h4.out.same (hk _ (by omega)))
  have G6 := Lib.hid hBG
  refine hK.out _ _ (fun _ => ⟨P6.out.cell 3 _ rfl, (cell_same h1 (hk _ hkb)), (cell_same h2 (hk _ hkb)), P6, E6, K6⟩) (fun hHeld => ?_)
  have hHeld := hHeld (by decide)
  clear hK K hown hgrow hk h0 h1 h2 h3 h4 hw OW hBG P6 E6 K6
  (try simp only [Act.put, List.setIfInBounds_toArray, List.set_cons_zero, List.set_cons_succ])
  refine te_run (d := (some 46)) (v := ?v10) 11 rfl rfl rfl (by kernel_rfl) (by kernel_rfl) (by kernel_rfl) (by kernel_rfl) (fun _ _ _ h => h) (by rfl) hHeld ?hy10 ?rs10
  case hy10 => (intro w hSw; (try dsimp only at hSw); go_simp) <;> (try with_reducible rfl)
  (try simp only [Act.put, List.setIfInBounds_toArray, List.set_cons_zero, List.set_cons_succ])
  refine te_call 12 rfl (by kernel_rfl) (by rfl) (fun K hK => ?_)
  go_simp
  have RB := Lib.hid (Boxed.made w6 #[.string ⟨#[101, 110]⟩, .slice (some ⟨gb, 0, none⟩) 1 gc] 38)
  have G7 := Lib.hid (G6.out.alloc (.cells #[.string ⟨#[101, 110]⟩, .slice (some ⟨gb, 0, none⟩) 1 gc] 38))
  refine hK.out _ _ (fun _ => by obtain ⟨h0, h1, h2, h3, h4, hw⟩ := hHeld; exact ⟨cell_keep h0 (blw_alloc _ _), cell_keep h1 (blw_alloc _ _), cell_keep h2 (blw_alloc _ _), Lib.hid (h3.out.alloc _), Lib.hid (h4.out.alloc _), Lib.hid (hw.out.alloc _)⟩) (fun hHeld => ?_)
  have hHeld := hHeld (by decide)
  clear hK K G6
  (try simp only [Act.put, List.setIfInBounds_toArray, List.set_cons_zero, List.set_cons_succ])
  generalize w6.alloc (.cells #[.string ⟨#[101, 110]⟩, .slice (some ⟨gb, 0, none⟩) 1 gc] 38) = w7 at *
  generalize w6.heap.size = ri at *
  refine te_call 13 rfl (by kernel_rfl) (by rfl) (fun K hK => ?_)
  obtain ⟨h0, h1, h2, h3, h4, hw⟩ := hHeld
  refine wpx_append_at _ _ _ 22 rfl w3.heap.size 38 iB _ 2 40 Tryz.underlying22 hiB' hB0 hB1 hB2 rfl (by decide) (.slice none 0 0) 0 [] (by simp [go_sem]) (World.ownsRow_nil _ _ _ _) ⟨ri, 0, none⟩ 1 1 [.string ⟨#[101, 110]⟩, .slice (some ⟨gb, 0, none⟩) 1 gc] (by simp [go_sem]) rfl (boxed_add RB.out) (fun u hu => by simp at hu; rcases hu with rfl | rfl <;> rfl) (by unfold maxLen; omega) (by omega) hw.out.size ?_
  intro bv w8 hown hgrow _
  obtain ⟨nb, nc, rfl, hnb, hnc1, hnc2, hBN⟩ := row_cells2 hown
  have hk : ∀ k, k < w7.heap.size → w8.heap[k]? = w7.heap[k]? := fun k hk => hgrow.block k hk (by simp [Value.ownBlock])
  have K8 := Lib.hid (hw.out.trans (grown_kpt hgrow))
  have P8 := Lib.hid (h3.out.same (hk _ h3.out.lt))
  have E8 := Lib.hid (h4.out.same (hk _ h4.out.lt))
  have G8 := Lib.hid (G7.out.same (hk _ G7.out.lt))
  have N8 := Lib.hid hBN
  have hkb8 : kb < w7.heap.size := Nat.lt_of_lt_of_le hkb hw.out.size
  refine hK.out _ _ (fun _ => ⟨P8.out.cell 3 _ rfl, (cell_same h1 (hk _ hkb8)), (cell_same h2 (hk _ hkb8)), P8, E8, K8⟩) (fun hHeld => ?_)
  have hHeld := hHeld (by decide)
  clear hK K hown hgrow hk h0 h1 h2 h3 h4 hw hBN E8 RB G7
  (try simp only [Act.put, List.setIfInBounds_toArray, List.set_cons_zero, List.set_cons_succ])
  refine te_call 14 rfl (by kernel_rfl) (by rfl) (fun K hK => ?_)
  go_simp
  refine hK.out _ _ (fun _ => hHeld) (fun hHeld => ?_)
  have hHeld := hHeld (by decide)
  clear hK K
  (try simp only [Act.put, List.setIfInBounds_toArray, List.set_cons_zero, List.set_cons_succ])
  refine te_call 15 rfl (by kernel_rfl) (by rfl) (fun K hK => ?_)
  go_simp
  refine hK.out _ _ (fun _ => hHeld) (fun hHeld => ?_)
  have hHeld := hHeld (by decide)
  clear hK K
  (try simp only [Act.put, List.setIfInBounds_toArray, List.set_cons_zero, List.set_cons_succ])
  refine te_call 16 rfl (by kernel_rfl) (by rfl) (fun K hK => ?_)
  obtain ⟨h0, h1, h2, h3, h4, hw⟩ := hHeld
  have o0 := P8.out.cell 3 _ rfl
  have z0 := P8.out.free 3 (by simp)
  have gl := P8.out.lt
  go_simp
  have P9 : Hid (Boxed (w8.setCell ⟨p, 3, none⟩ (.slice (some ⟨nb, 0, none⟩) 1 nc)) p #[.pointer (some ⟨st, 0, none⟩), .pointer (some ⟨ca, 0, none⟩), .map (some cm), .slice (some ⟨nb, 0, none⟩) 1 nc, .int .i64 1]) := Lib.hid (P8.out.set 3 (.slice (some ⟨nb, 0, none⟩) 1 nc) (by simp))
  have N9 := Lib.hid (N8.out.far (q := p) (by omega) 3 (.slice (some ⟨nb, 0, none⟩) 1 nc))
  have G9 := Lib.hid (G8.out.far (q := p) (by omega) 3 (.slice (some ⟨nb, 0, none⟩) 1 nc))
  have K9 := Lib.hid (K8.out.setCell ⟨p, 3, none⟩ (.slice (some ⟨nb, 0, none⟩) 1 nc) (fun _ => .inl rfl))
  clear o0 z0 gl P8 G8 N8 K8
  generalize w8.setCell ⟨p, 3, none⟩ (.slice (some ⟨nb, 0, none⟩) 1 nc) = w9 at *
  refine hK.out _ _ (fun h => absurd rfl h) (fun _ => ?_)
  clear hK K h0 h1 h2 h3 h4 hw
  (try simp only [Act.put, List.setIfInBounds_toArray, List.set_cons_zero, List.set_cons_succ])
  refine te_done (by kernel_rfl) ?_ _
  go_wp2_with fail
  rw [rounds_succ]
  have ST9 := Lib.hid (K9.out.box ST3.out (by omega))
  have VA9 := Lib.hid (K9.out.box VA3.out (by omega))
  have VC9 : Hid (∃ c, w9.heap[cm]? = some (.map #[] c)) := Lib.hid (by obtain ⟨c, hc⟩ := VC3.out; have hl := (Array.getElem?_eq_some_iff.1 hc).1; exact ⟨c, (K9.out.block cm hl (by omega)).trans hc⟩)
  have W9 := Lib.hid (K9.out.toBelow W3.out (fun k hk e => by have := W3.out.size; omega))
  have K9s := Lib.hid K9.out.size
  have hw3 := W3.out.size
  clear ST3 VA3 VC3 W3 K9 VP3 BE3 KB
  have v1 := P9.out.cell 1 _ rfl
  have vl := P9.out.lt
  go_wp2_with fail
  refine (CC.out _ VA9.out).mono ?_
  rintro e w10 ⟨rfl, hA, hP, hk⟩
  have hsz := K9s.out
  have ST10 := Lib.hid (hk.box ST9.out (by omega))
  have VP10 := Lib.hid (hk.box P9.out (by omega))
  have N10 := Lib.hid (hk.box N9.out (by omega))
  have G10 := Lib.hid (hk.box G9.out (by omega))
  obtain ⟨c10, hc10⟩ : ∃ c, w10.heap[cm]? = some (.map #[] c) := by obtain ⟨c, hc⟩ := VC9.out; exact ⟨c, (hk.block cm (Array.getElem?_eq_some_iff.1 hc).1 (by omega)).trans hc⟩
  have W10 := Lib.hid (hk.toBelow W9.out (fun k hk e => by omega))
  have A10 := Lib.hid hA
  have B10 := Lib.hid hP
  obtain ⟨w11, MU, hm11, hk11⟩ := clear_none w10 cm c10 hc10
  have KC := Lib.hid hk11
  have HC11 := Lib.hid hm11
  clear hA hP hk hk11 hm11 CC ST9 VA9 VC9 W9 P9 N9 G9 v1 vl
  have v2 := VP10.out.cell 2 _ rfl
  have vl := VP10.out.lt
  go_wp2_with fail
  go_ret2
  have hcb : w9.heap.size ≠ cm := by omega
  have S11 := KC.out.box VP10.out (by omega)
  have N11 := KC.out.box N10.out (by omega)
  have G11 := KC.out.box G10.out (by omega)
  exact ⟨rfl, w9.heap.size, nb, nc, ⟨S11, KC.out.box ST10.out (by omega), KC.out.box A10.out (by omega), KC.out.box B10.out hcb, ⟨c10, HC11.out⟩, o1, by omega⟩, hi_slat N11 G11 hnc1 hnc2 hgc1 hgc2, N11.cell 0 _ rfl, KC.out.toBelow W10.out (fun k hk e => by omega)⟩
end Tn
end Go.Proofs.YtghohnbajbikjaaGreatDoor

