/- The walks of (*reader).message and msg.Parse at the text hello. -/
import Derived.Test.YtghohnbajbikjaaGreatDoorUnR
import Derived.Test.YtghohnbajbikjaaGreatDoorUnX
namespace Go.Proofs.YtghohnbajbikjaaGreatDoor
open Go.RowKit
namespace Tn
set_option maxRecDepth 100000 in
set_option maxHeartbeats 4000000 in
theorem gmsg_any (rb : Nat) (w : World) (h : Boxed w rb #[.string ⟨#[104, 101, 108, 108, 111]⟩, .int .i64 0]) :
    Calls Tryz.prog 86 #[.pointer (some ⟨rb, 0, none⟩), .bool false] w fun e w' => ∃ g cap, e = .returned (.slice (some ⟨g, 0, none⟩) 1 cap) ∧ 1 ≤ cap ∧ w.heap.size ≤ g ∧ Boxed w' g hiC ∧ Boxed w' rb #[.string ⟨#[]⟩, .int .i64 0] ∧ Kpt (fun k => k = rb) w w' := by
  have CB := Lib.hid bare_hello
  have CC := Lib.hid fun wx d (h : Boxed wx rb #[.string ⟨#[]⟩, d]) => cut_none rb d wx h
  obtain ⟨iN, hiN, hN0, hN1, hN2⟩ := info_parts infoNode
  have hmf : ∀ (fn : Fn) (first cap : Array Value) (w : World), (Instr.makeFunc fn first cap).run Tryz.prog w = .ok (.func fn first cap) w := fun _ _ _ _ => rfl
  have hrl := h.lt
  have BQ := Lib.hid (Boxed.made w #[.pointer (some ⟨rb, 0, none⟩)] 165)
  have H1 := Lib.hid (h.alloc (.cells #[.pointer (some ⟨rb, 0, none⟩)] 165))
  have r0 := h.cell 0 _ rfl
  have r1 := h.cell 1 _ rfl
  have f1 := h.free 1 (by simp)
  have f0 := h.free 0 (by simp)
  have ne1 : ¬ rb = w.heap.size := by omega
  have ne2 : ¬ w.heap.size = rb := by omega
  go_enter_defers Tryz.func86, Tryz.ntmps86
  go_wp2_with fail
  have HR1 := Lib.hid ((h.set 1 (.int .i64 1) (by simp)).alloc (.cells #[.pointer (some ⟨rb, 0, none⟩)] 165))
  have BQ1 := Lib.hid ((Boxed.made (w.setCell ⟨rb, 1, none⟩ (.int .i64 1)) #[.pointer (some ⟨rb, 0, none⟩)] 165).at (q := w.heap.size) (size_setCell _ _ _))
  have K1 := Lib.hid (((Kpt.refl (fun k => k = rb) w).setCell ⟨rb, 1, none⟩ (.int .i64 1) (fun _ => rfl)).alloc (.cells #[.pointer (some ⟨rb, 0, none⟩)] 165))
  clear r0 r1 f0 f1 H1 BQ h
  generalize (w.setCell ⟨rb, 1, none⟩ (.int .i64 1)).alloc (.cells #[.pointer (some ⟨rb, 0, none⟩)] 165) = w1 at *
  have q0 := BQ1.out.cell 0 _ rfl
  have r0 := HR1.out.cell 0 _ rfl
  have ql := BQ1.out.lt
  have rl := HR1.out.lt
  refine wp_loop_rounds 1 ?_
  rw [rounds_succ]
  go_wp2_with fail
  refine (CB.out _).mono ?_
  rintro e w2 ⟨rfl, hb⟩
  have HR2 := Lib.hid (HR1.out.below hb)
  have BQ2 := Lib.hid (BQ1.out.below hb)
  have K2 := Lib.hid (K1.out.below hb)
  clear hb CB HR1 BQ1 K1 q0 r0 ql rl
  have q0 := BQ2.out.cell 0 _ rfl
  have r0 := HR2.out.cell 0 _ rfl
  have f0 := HR2.out.free 0 (by simp)
  have ql := BQ2.out.lt
  have rl := HR2.out.lt
  have SL := fun w => slice_from (P := Tryz.prog) 9 Tryz.underlying9 [104, 101, 108, 108, 111] .i64 5 (by simp) w
  rw [show ([104, 101, 108, 108, 111] : List UInt8).drop 5 = [] from rfl, show ((5 : Nat) : Int) = 5 from rfl] at SL
  go_upto_region 9 with fail
  go_region
  have HR3 := Lib.hid ((HR2.out.set 0 (.string ⟨#[]⟩) (by simp)).drew)
  have BQ3 := Lib.hid ((BQ2.out.far (q := rb) ne1 0 (.string ⟨#[]⟩)).drew)
  have K3 := Lib.hid ((K2.out.setCell ⟨rb, 0, none⟩ (.string ⟨#[]⟩) (fun _ => rfl)).below (Below.drew (Below.refl _ _)))
  clear HR2 BQ2 K2 q0 r0 f0 ql rl SL
  generalize (w2.setCell ⟨rb, 0, none⟩ (.string ⟨#[]⟩)).drew = w3 at *
  have q0 := BQ3.out.cell 0 _ rfl
  have ql := BQ3.out.lt
  have hs3 := K3.out.size
  go_upto_region 13 with (at_builtin; refine wpList_append_own_at _ rfl _ _ 84 rfl w.heap.size 139 iN _ 4 56 Tryz.underlying84 hiN hN0 hN1 hN2 rfl (by decide) (.slice none 0 0) 0 [] rfl (World.ownsRow_nil _ _ _ _) ⟨w3.heap.size, 0, none⟩ 1 1 hiC.toList rfl rfl (cellsQ_new _ _ _) hi_one (by unfold maxLen; omega) (by omega) (by simp; omega) ?_; intro o' w6 hown hgrow _ hat; have hk : ∀ k, k < w3.heap.size → w6.heap[k]? = w3.heap[k]? := (fun k hk => (hgrow.block k (by simp; omega) (by simp [Value.ownBlock])).trans ((blw_alloc w3 (.cells hiC 139)).block k hk)); have HR6 := Lib.hid (HR3.out.same (hk _ HR3.out.lt)); have BQ6 := Lib.hid (BQ3.out.same (hk _ BQ3.out.lt)); have K6 := Lib.hid ((K3.out.alloc (.cells hiC 139)).trans (grown_kpt hgrow)); obtain ⟨g, cp, rfl, hbg, hcp, _, hBG⟩ := row_cells hown; have HG6 := Lib.hid hBG; have hgn : w3.heap.size < g := (by rcases hat with h | h <;> simp [Value.ownBlock] at h <;> omega); clear hown hgrow hat hk hBG)
  clear HR3 BQ3 K3 q0 ql
  have q0 := BQ6.out.cell 0 _ rfl
  have ql := BQ6.out.lt
  go_wp2_with fail
  refine (CC.out _ _ HR6.out).mono ?_
  rintro e w7 ⟨rfl, hb⟩
  have HR7 := Lib.hid (HR6.out.below hb)
  have BQ7 := Lib.hid (BQ6.out.below hb)
  have HG7 := Lib.hid (HG6.out.below hb)
  have K7 := Lib.hid (K6.out.below hb)
  clear hb CC HR6 BQ6 HG6 K6 q0 ql
  go_wp2_with fail
  have q0 := BQ7.out.cell 0 _ rfl
  have d1 := HR7.out.cell 1 _ rfl
  have z1 := HR7.out.free 1 (by simp)
  refine leaves_cons (f := 113) (args := #[.pointer (some ⟨w.heap.size, 0, none⟩)]) (by simp) (by simp [go_sem]) ?_
  refine (mdef_any w.heap.size rb .returning _ q0 d1 z1).mono ?_
  rintro e u' w'' ⟨rfl, rfl, rfl⟩
  have ng : rb ≠ g := by omega
  refine ⟨_, results_tmp rfl _ _ _, ?_⟩
  exact ⟨g, cp, rfl, hcp, by omega, HG7.out.far ng _ _, HR7.out.set 1 (.int .i64 0) (by simp), K7.out.setCell ⟨rb, 1, none⟩ (.int .i64 0) (fun _ => rfl)⟩
theorem pdef_any (a b : Nat) (w : World) : CallsD Tryz.prog 85 #[.pointer (some ⟨a, 0, none⟩), .pointer (some ⟨b, 0, none⟩)] .returning w fun e u' w' => e = .returned (.tuple #[]) ∧ u' = .returning ∧ w' = w := by
  refine callsD_of_wpS Tryz.func85 rfl fun c₀ cs hu => ?_
  apply wpS_seq
  apply wpS_region
  simp [wpOpsS, go_sem, recoverD, hu, Tryz.ntmps85, Exit.thenS]
  apply wpS_seq
  apply wpS_region
  simp [wpOpsS, go_sem, Exit.thenS]
  refine wpS_cond (t := false) (by simp [Act.eval, Array.replicate]) ?_
  simp only [Bool.false_eq_true, if_false]
  refine wpS_of_wp (wp_skip ?_)
  cases c₀
  simp_all [bodyPostS, results, Tryz.results85]
set_option maxRecDepth 100000 in
set_option maxHeartbeats 4000000 in
theorem gparse_any (w : World) :
    Calls Tryz.prog 58 #[.string ⟨#[104, 101, 108, 108, 111]⟩] w fun e w' => ∃ g cap, e = .returned (.tuple #[.slice (some ⟨g, 0, none⟩) 1 cap, .nilIface]) ∧ 1 ≤ cap ∧ Boxed w' g hiC ∧ Below w.heap.size w w' := by
  have CM := Lib.hid gmsg_any
  have CK := Lib.hid gCheck_any
  have hmf : ∀ (fn : Fn) (first cap : Array Value) (w : World), (Instr.makeFunc fn first cap).run Tryz.prog w = .ok (.func fn first cap) w := fun _ _ _ _ => rfl
  go_enter_defers Tryz.func58, Tryz.ntmps58
  go_wp2_with fail
  have e1 : (w.alloc (.cells #[.slice none 0 0] 84)).heap.size = w.heap.size + 1 := by simp
  have BM := Lib.hid (((Boxed.made w #[.slice none 0 0] 84).alloc (.cells #[.nilIface] 24)).alloc (.cells #[.string ⟨#[104, 101, 108, 108, 111]⟩, .int .i64 0] 167))
  have BE := Lib.hid (((Boxed.made (w.alloc (.cells #[.slice none 0 0] 84)) #[.nilIface] 24).at e1).alloc (.cells #[.string ⟨#[104, 101, 108, 108, 111]⟩, .int .i64 0] 167))
  have BR := Lib.hid ((Boxed.made ((w.alloc (.cells #[.slice none 0 0] 84)).alloc (.cells #[.nilIface] 24)) #[.string ⟨#[104, 101, 108, 108, 111]⟩, .int .i64 0] 167).at (q := w.heap.size + 2) (by simp))
  have W3 := Lib.hid (((blw_alloc w (.cells #[.slice none 0 0] 84)).alloc (by simp) (.cells #[.nilIface] 24)).alloc (by simp; omega) (.cells #[.string ⟨#[104, 101, 108, 108, 111]⟩, .int .i64 0] 167))
  refine (CM.out (w.heap.size + 2) _ BR.out).mono ?_
  rintro e w4 ⟨g, cp, rfl, hcp, hg, hG, hR, hk⟩
  have BM4 := Lib.hid (hk.box BM.out (by omega))
  have BE4 := Lib.hid (hk.box BE.out (by omega))
  have BR4 := Lib.hid hR
  have BG4 := Lib.hid hG
  have W4 := Lib.hid (hk.toBelow (W := w) W3.out (fun k hk => by omega))
  have hgs : w.heap.size + 3 ≤ g := by simpa using hg
  clear hG hR hk BM BE BR W3 CM e1 hg
  have m0 := BM4.out.cell 0 _ rfl
  have e0 := BE4.out.cell 0 _ rfl
  have r0 := BR4.out.cell 0 _ rfl
  have f0 := BM4.out.free 0 (by simp)
  have f1 := BE4.out.free 0 (by simp)
  have l0 := BM4.out.lt
  have l1 := BE4.out.lt
  have l2 := BR4.out.lt
  go_wp2_with fail
  have BM5 := Lib.hid (BM4.out.set 0 (.slice (some ⟨g, 0, none⟩) 1 cp) (by simp))
  have BE5 := Lib.hid (BE4.out.far (q := w.heap.size) (by omega) 0 (.slice (some ⟨g, 0, none⟩) 1 cp))
  have BG5 := Lib.hid (BG4.out.far (q := w.heap.size) (by omega) 0 (.slice (some ⟨g, 0, none⟩) 1 cp))
  have W5 := Lib.hid (show Below w.heap.size w (w4.setCell ⟨w.heap.size, 0, none⟩ (.slice (some ⟨g, 0, none⟩) 1 cp)) from W4.out.setCell (Nat.le_refl _) _)
  refine (CK.out _ _ (HiM.of_box BG5.out hcp)).mono ?_
  rintro e w6 ⟨rfl, hb⟩
  have BM6 := Lib.hid (BM5.out.below hb)
  have BE6 := Lib.hid (BE5.out.below hb)
  have BG6 := Lib.hid (BG5.out.below hb)
  have W6 := Lib.hid (blw_trans W5.out hb)
  clear hb CK BM5 BE5 BG5 W5 BM4 BE4 BG4 BR4 W4 m0 e0 r0 f0 f1 l0 l1 l2
  have m0 := BM6.out.cell 0 _ rfl
  have e0 := BE6.out.cell 0 _ rfl
  have f0 := BM6.out.free 0 (by simp)
  have f1 := BE6.out.free 0 (by simp)
  have l0 := BM6.out.lt
  have l1 := BE6.out.lt
  go_wp2_with fail
  have BM7 := Lib.hid ((BM6.out.set 0 (.slice (some ⟨g, 0, none⟩) 1 cp) (by simp)).far (q := w.heap.size + 1) (by omega) 0 .nilIface)
  have BE7 := Lib.hid ((BE6.out.far (q := w.heap.size) (by omega) 0 (.slice (some ⟨g, 0, none⟩) 1 cp)).set 0 .nilIface (by simp))
  have BG7 := Lib.hid ((BG6.out.far (q := w.heap.size) (by omega) 0 (.slice (some ⟨g, 0, none⟩) 1 cp)).far (q := w.heap.size + 1) (by omega) 0 .nilIface)
  have W7 := Lib.hid (show Below w.heap.size w ((w6.setCell ⟨w.heap.size, 0, none⟩ (.slice (some ⟨g, 0, none⟩) 1 cp)).setCell ⟨w.heap.size + 1, 0, none⟩ .nilIface) from (W6.out.setCell (Nat.le_refl _) _).setCell (Nat.le_succ _) _)
  clear BM6 BE6 BG6 W6 m0 e0 f0 f1 l0 l1
  generalize ((w6.setCell ⟨w.heap.size, 0, none⟩ (.slice (some ⟨g, 0, none⟩) 1 cp)).setCell ⟨w.heap.size + 1, 0, none⟩ .nilIface) = w7 at *
  have m0 := BM7.out.cell 0 _ rfl
  have e0 := BE7.out.cell 0 _ rfl
  refine leaves_cons (f := 85) (args := #[.pointer (some ⟨w.heap.size, 0, none⟩), .pointer (some ⟨w.heap.size + 1, 0, none⟩)]) (by simp) (by simp [go_sem]) ?_
  refine (pdef_any w.heap.size (w.heap.size + 1) _).mono ?_
  rintro e u' w'' ⟨rfl, rfl, rfl⟩
  simp [Leaves, settle, results, Tryz.results58, go_sem, m0, e0]
  exact ⟨g, cp, ⟨rfl, rfl⟩, hcp, BG7.out, W7.out⟩
end Tn
end Go.Proofs.YtghohnbajbikjaaGreatDoor

