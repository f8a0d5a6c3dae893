/- The walks of code.add and code.Compile at the message that is hello. -/
import Derived.Test.YtghohnbajbikjaaGreatDoorUnQ
namespace Go.Proofs.YtghohnbajbikjaaGreatDoor
open Go.RowKit
namespace Tn
theorem infoStep : (Tryz.prog.info? 142).map (fun i => (i.zero, i.size, i.bytes)) = some (some (.agg #[.int .i64 0, .string ByteArray.empty, .int .i64 0, .slice none 0 0, .slice none 0 0, .int .i64 0]), 6, 88) := by kernel_rfl
theorem infoIntX : (Tryz.prog.info? 3).map (fun i => (i.zero, i.size, i.bytes)) = some (some (.int .i64 0), 1, 8) := by kernel_rfl
def zeroS : Array Value := #[.int .i64 0, .string ⟨#[]⟩, .int .i64 0, .slice none 0 0, .slice none 0 0, .int .i64 0]
theorem zeroS_one : ∀ u ∈ zeroS.toList, u.oneCell' = true := by decide
theorem boxed_add {W : World} {q : Nat} {l : List Value} (h : Boxed W q l.toArray) : ∀ j u, l[j]? = some u → W.cell? ((⟨q, 0, none⟩ : Addr).add j) = some u := by
  intro j u hj
  have c := h.cell j u (by simpa using hj)
  cases j with
  | zero => simpa [Addr.add] using c
  | succ j => simpa [Addr.add] using c
section
variable {P : Program} (w : World)
theorem wpx_append_at {o : Oper} {a : Act} {K : Act → World → Prop} {Q : Exit → Act → World → Prop} (s x : Operand) (t : TypeId)
    (ho : o.op = .call { callee := .builtin .append, args := #[s, x], argTypes := #[t, t] })
    (base : Nat) (e : TypeId) (i : TypeInfo) (z : Value) (size bytes : Nat) (ht : P.underlying t = some (.slice e)) (hi : P.info? e = some i) (hz : i.zero = some z)
    (hsize : i.size = size) (hby : i.bytes = bytes) (hzs : z.cells.size = size) (hsz : 0 < size)
    (v : Value) (n : Nat) (xs : List Value) (hs : a.eval s = v) (hown : w.ownsRow base e size v n xs)
    (ad : Addr) (m c : Nat) (news : List Value) (hx : a.eval x = .slice (some ad) m c) (hl : news.length = m * size) (hnews : ∀ j u, news[j]? = some u → w.cell? (ad.add j) = some u) (h1 : ∀ u ∈ news, u.oneCell' = true)
    (h63 : n + m ≤ maxLen) (hbytes : (n + m) * bytes ≤ 140737488355328) (hbase : base ≤ w.heap.size)
    (h : ∀ v' w', w'.ownsRow base e size v' (n + m) (xs ++ news) → w.grownBy w' v.ownBlock → (v'.ownBlock = v.ownBlock ∨ v'.ownBlock = some w.heap.size) → K (a.put o.dst v') w') : o.wp P a w K Q := by
  obtain ⟨v', w', hr, h2, h3, _, h5⟩ := run_append_own_at (P := P) w base t o.type e i z size bytes ht hi hz hsize hby hzs hsz v n xs hown ad m c news hl hnews h1 h63 hbytes hbase
  unfold Oper.wp execOp
  simp only [ho, resolve, invoke, builtin, Sem.run_bind, Sem.run_pure, Result.andThen_ok, List.map_toArray, List.map_cons, List.map_nil, hs, hx, hr]
  exact h v' w' h2 h3 h5
end
theorem grown_kpt {w w' : World} {S : Nat → Prop} (h : w.grownBy w' none) : Kpt S w w' := ⟨h.os, h.tape, h.output, h.size, fun k hk _ => h.block k hk (by simp)⟩
/-- a code of one step lies so -/
def stC (bg : Value) : Array Value := #[.int .i64 1, .string ⟨#[104, 101, 108, 108, 111]⟩, .int .i64 0, .slice none 0 0, bg, .int .i64 1]

set_option maxRecDepth 100000 in
set_option maxHeartbeats 4000000 in
theorem gadd_any (cb : Nat) (X v : Value) (w : World) (h : HiM w v) (hc : Boxed w cb #[.slice none 0 0, X]) :
    Calls Tryz.prog 88 #[.pointer (some ⟨cb, 0, none⟩), v] w fun e w' => ∃ g cap ab cl, e = .returned (.tuple #[]) ∧ w.heap.size ≤ g ∧ 1 ≤ cap ∧ Boxed w' cb #[.slice (some ⟨g, 0, none⟩) 1 cap, X] ∧ Boxed w' g (stC (.slice ab 1 cl)) ∧ Kpt (fun k => k = cb) w w' := by
  have CC := Lib.hid gcases_any
  obtain ⟨b, off, cap, rfl, _, x0, x1, x2, x3⟩ := h
  have lb := World.block_lt_of_cell? _ _ x0
  dsimp only at lb
  obtain ⟨iS, hiS, hS0, hS1, hS2⟩ := info_parts infoStep
  obtain ⟨iI, hiI, hI0, hI1, hI2⟩ := info_parts infoIntX
  have hcl := hc.lt
  have e1 : (w.alloc (.cells hiC 139)).heap.size = w.heap.size + 1 := by simp
  have BY := Lib.hid ((Boxed.made (w.alloc (.cells hiC 139)) hiC 139).at (q := w.heap.size + 1) (by simp))
  have BN := Lib.hid ((Boxed.made w hiC 139).alloc (.cells hiC 139))
  have W2 := Lib.hid ((blw_alloc w (.cells hiC 139)).alloc (by simp) (.cells hiC 139))
  have HC := Lib.hid ((hc.alloc (.cells hiC 139)).alloc (.cells hiC 139))
  have c0 := hc.cell 0 _ rfl
  clear hc
  go_enter Tryz.func88, Tryz.ntmps88
  go_wp2_with fail
  refine wp_loop_rounds 2 ?_
  rw [rounds_succ]
  go_upto_region 5 with fail
  have hz2 : ((w.alloc (.cells hiC 139)).alloc (.cells hiC 139)).heap.size = w.heap.size + 2 := by simp
  have hcn : cb ≠ w.heap.size := by omega
  have hcn1 : cb ≠ w.heap.size + 1 := by omega
  have c2 := HC.out.cell 0 _ rfl
  unfold hiC at BY BN W2 HC c2 hz2 e1
  generalize ((w.alloc (.cells #[.int .i64 1, .string ⟨#[104, 101, 108, 108, 111]⟩, .int .i64 0, .slice none 0 0] 139)).alloc (.cells #[.int .i64 1, .string ⟨#[104, 101, 108, 108, 111]⟩, .int .i64 0, .slice none 0 0] 139)) = w2 at *
  have hcl2 := HC.out.lt
  have HZ2 := Lib.hid hz2
  have hw2s : w.heap.size < w2.heap.size := by omega
  clear x0 x1 x2 x3 c0 e1 hz2
  go_upto_region 6 with (at_builtin; refine wpList_append_own_at _ rfl _ _ 83 rfl w.heap.size 142 iS _ 6 88 Tryz.underlying83 hiS hS0 hS1 hS2 rfl (by decide) (.slice none 0 0) 0 [] rfl (World.ownsRow_nil _ _ _ _) ⟨w2.heap.size, 0, none⟩ 1 1 zeroS.toList rfl rfl (cellsQ_new _ _ _) zeroS_one (by unfold maxLen; omega) (by omega) (by simp; omega) ?_; intro o' w3 hown hgrow _ hat; have HG := Lib.hid hgrow; obtain ⟨g, cp, rfl, hbg, hcp, _, hBG⟩ := row_cells hown; have hgn : w2.heap.size < g := (by rcases hat with h | h <;> simp [Value.ownBlock] at h <;> omega); have HC3 := Lib.hid ((HC.out.alloc (.cells zeroS 142)).same (hgrow.block cb (by simp; omega) (by simp [Value.ownBlock]))); have f3 := HC3.out.free 0 (by simp); have c3 := HC3.out.cell 0 _ rfl; have hl3 := HC3.out.lt; clear hown hgrow hat c2)
  have HC4 := Lib.hid (HC3.out.set 0 (.slice (some ⟨g, 0, none⟩) 1 cp) (by simp))
  have hcg : cb ≠ g := by omega
  have BG4 := Lib.hid (hBG.far hcg 0 (.slice (some ⟨g, 0, none⟩) 1 cp))
  have BN4 := Lib.hid (((BN.out.alloc (.cells zeroS 142)).same (HG.out.block w.heap.size (by simp; omega) (by simp [Value.ownBlock]))).far hcn 0 (.slice (some ⟨g, 0, none⟩) 1 cp))
  have BY4 := Lib.hid (((BY.out.alloc (.cells zeroS 142)).same (HG.out.block (w.heap.size + 1) (by have := HZ2.out; simp; omega) (by simp [Value.ownBlock]))).far hcn1 0 (.slice (some ⟨g, 0, none⟩) 1 cp))
  have K4 := Lib.hid ((((Kpt.of_below W2.out).alloc (.cells zeroS 142)).trans (grown_kpt HG.out)).setCell (S := fun k => k = cb) ⟨cb, 0, none⟩ (.slice (some ⟨g, 0, none⟩) 1 cp) (fun _ => rfl))
  clear HC3 hBG BN BY HC W2 HG f3 c3 hl3
  generalize w3.setCell ⟨cb, 0, none⟩ (.slice (some ⟨g, 0, none⟩) 1 cp) = w4 at *
  have n0 := BN4.out.cell 0 _ rfl
  have n1 := BN4.out.cell 1 _ rfl
  have n2 := BN4.out.cell 2 _ rfl
  have n3 := BN4.out.cell 3 _ rfl
  have nl := BN4.out.lt
  go_wp2_with fail
  refine (CC.out _).mono ?_
  rintro e w5 ⟨rfl, hb⟩
  have HC5 := Lib.hid (HC4.out.below hb)
  have BG5 := Lib.hid (BG4.out.below hb)
  have BY5 := Lib.hid (BY4.out.below hb)
  have K5 := Lib.hid (K4.out.below hb)
  clear hb CC HC4 BG4 BN4 BY4 K4 n0 n1 n2 n3 nl
  go_wp2_with fail
  refine wp_loop_rounds 1 ?_
  rw [rounds_succ]
  go_upto_region 14 with fail
  have q0 := HC5.out.cell 0 _ rfl
  have q1 := BY5.out.cell 0 _ rfl
  have q2 := BY5.out.cell 1 _ rfl
  have q3 := BY5.out.cell 2 _ rfl
  have q4 := BY5.out.cell 3 _ rfl
  refine wp_region_held_drew (S := fun w' => w'.cell? ⟨cb, 0, none⟩ = some (.slice (some ⟨g, 0, none⟩) 1 cp) ∧ w'.cell? ⟨w.heap.size + 1, 0, none⟩ = some (.int .i64 1) ∧ w'.cell? ⟨w.heap.size + 1, 1, none⟩ = some (.string ⟨#[104, 101, 108, 108, 111]⟩) ∧ w'.cell? ⟨w.heap.size + 1, 2, none⟩ = some (.int .i64 0) ∧ w'.cell? ⟨w.heap.size + 1, 3, none⟩ = some (.slice none 0 0) ∧ Hid (Boxed w' cb #[.slice (some ⟨g, 0, none⟩) 1 cp, X]) ∧ Hid (Boxed w' (w.heap.size + 1) #[.int .i64 1, .string ⟨#[104, 101, 108, 108, 111]⟩, .int .i64 0, .slice none 0 0]) ∧ Hid (Kpt (fun k => k = cb) w w')) (by kernel_rfl) ⟨q0, q1, q2, q3, q4, Lib.hid HC5.out.drew, Lib.hid BY5.out.drew, Lib.hid (K5.out.below (Below.drew (Below.refl _ _)))⟩ (fun hHeld => ?_)
  have BGz := Lib.hid BG5.out.drew
  generalize w5.drew = wz at *
  clear q0 q1 q2 q3 q4 BG5 HC5 BY5 K5
  refine take_run (d := (some 67)) (v := ?v1) 0 rfl rfl (by kernel_rfl) (by kernel_rfl) (by kernel_rfl) (fun _ _ _ h => h) (by rfl) hHeld ?hy1 ?rs1
  case hy1 => (intro w hSw; (try dsimp only at hSw); go_simp) <;> (try with_reducible rfl)
  (try simp only [Act.put, List.setIfInBounds_toArray, List.set_cons_zero, List.set_cons_succ])
  refine take_run (d := (some 68)) (v := ?v2) 1 rfl rfl (by kernel_rfl) (by kernel_rfl) (by kernel_rfl) (fun _ _ _ h => h) (by rfl) hHeld ?hy2 ?rs2
  case hy2 => (intro w hSw; (try dsimp only at hSw); go_simp) <;> (try with_reducible rfl)
  (try simp only [Act.put, List.setIfInBounds_toArray, List.set_cons_zero, List.set_cons_succ])
  refine take_run (d := (some 69)) (v := ?v3) 2 rfl rfl (by kernel_rfl) (by kernel_rfl) (by kernel_rfl) (fun _ _ _ h => h) (by rfl) hHeld ?hy3 ?rs3
  case hy3 => (intro w hSw; (try dsimp only at hSw); go_simp) <;> (try with_reducible rfl)
  (try simp only [Act.put, List.setIfInBounds_toArray, List.set_cons_zero, List.set_cons_succ])
  refine take_run (d := (some 70)) (v := ?v4) 3 rfl rfl (by kernel_rfl) (by kernel_rfl) (by kernel_rfl) (fun _ _ _ h => h) (by rfl) hHeld ?hy4 ?rs4
  case hy4 => (intro w hSw; (try dsimp only at hSw); go_simp) <;> (try with_reducible rfl)
  (try simp only [Act.put, List.setIfInBounds_toArray, List.set_cons_zero, List.set_cons_succ])
  refine take_run (d := (some 71)) (v := ?v5) 4 rfl rfl (by kernel_rfl) (by kernel_rfl) (by kernel_rfl) (fun _ _ _ h => h) (by rfl) hHeld ?hy5 ?rs5
  case hy5 => (intro w hSw; (try dsimp only at hSw); go_simp) <;> (try with_reducible rfl)
  (try simp only [Act.put, List.setIfInBounds_toArray, List.set_cons_zero, List.set_cons_succ])
  refine take_run (d := (some 72)) (v := ?v6) 5 rfl rfl (by kernel_rfl) (by kernel_rfl) (by kernel_rfl) (fun _ _ _ h => h) (by rfl) hHeld ?hy6 ?rs6
  case hy6 => (intro w hSw; (try dsimp only at hSw); go_simp) <;> (try with_reducible rfl)
  (try simp only [Act.put, List.setIfInBounds_toArray, List.set_cons_zero, List.set_cons_succ])
  refine take_run (d := (some 73)) (v := ?v7) 6 rfl rfl (by kernel_rfl) (by kernel_rfl) (by kernel_rfl) (fun _ _ _ h => h) (by rfl) hHeld ?hy7 ?rs7
  case hy7 => (intro w hSw; (try dsimp only at hSw); go_simp) <;> (try with_reducible rfl)
  (try simp only [Act.put, List.setIfInBounds_toArray, List.set_cons_zero, List.set_cons_succ])
  refine take_run (d := (some 74)) (v := ?v8) 7 rfl rfl (by kernel_rfl) (by kernel_rfl) (by kernel_rfl) (fun _ _ _ h => h) (by rfl) hHeld ?hy8 ?rs8
  case hy8 => (intro w hSw; (try dsimp only at hSw); go_simp) <;> (try with_reducible rfl)
  (try simp only [Act.put, List.setIfInBounds_toArray, List.set_cons_zero, List.set_cons_succ])
  refine take_run (d := (some 75)) (v := ?v9) 8 rfl rfl (by kernel_rfl) (by kernel_rfl) (by kernel_rfl) (fun _ _ _ h => h) (by rfl) hHeld ?hy9 ?rs9
  case hy9 => (intro w hSw; (try dsimp only at hSw); go_simp) <;> (try with_reducible rfl)
  (try simp only [Act.put, List.setIfInBounds_toArray, List.set_cons_zero, List.set_cons_succ])
  refine take_run (d := (some 76)) (v := ?v10) 9 rfl rfl (by kernel_rfl) (by kernel_rfl) (by kernel_rfl) (fun _ _ _ h => h) (by rfl) hHeld ?hy10 ?rs10
  case hy10 => (intro w hSw; (try dsimp only at hSw); go_simp) <;> (try with_reducible rfl)
  (try simp only [Act.put, List.setIfInBounds_toArray, List.set_cons_zero, List.set_cons_succ])
  refine take_run (d := (some 77)) (v := ?v11) 10 rfl rfl (by kernel_rfl) (by kernel_rfl) (by kernel_rfl) (fun _ _ _ h => h) (by rfl) hHeld ?hy11 ?rs11
  case hy11 => (intro w hSw; (try dsimp only at hSw); go_simp) <;> (try with_reducible rfl)
  (try simp only [Act.put, List.setIfInBounds_toArray, List.set_cons_zero, List.set_cons_succ])
  refine take_run (d := (some 78)) (v := ?v12) 11 rfl rfl (by kernel_rfl) (by kernel_rfl) (by kernel_rfl) (fun _ _ _ h => h) (by rfl) hHeld ?hy12 ?rs12
  case hy12 => (intro w hSw; (try dsimp only at hSw); go_simp) <;> (try with_reducible rfl)
  (try simp only [Act.put, List.setIfInBounds_toArray, List.set_cons_zero, List.set_cons_succ])
  refine take_run (d := (some 81)) (v := ?v13) 14 rfl rfl (by kernel_rfl) (by kernel_rfl) (by kernel_rfl) (fun _ _ _ h => h) (by rfl) hHeld ?hy13 ?rs13
  case hy13 => (intro w hSw; (try dsimp only at hSw); go_simp) <;> (try with_reducible rfl)
  (try simp only [Act.put, List.setIfInBounds_toArray, List.set_cons_zero, List.set_cons_succ])
  refine take_run (d := (some 82)) (v := ?v14) 15 rfl rfl (by kernel_rfl) (by kernel_rfl) (by kernel_rfl) (fun _ _ _ h => h) (by rfl) hHeld ?hy14 ?rs14
  case hy14 => (intro w hSw; (try dsimp only at hSw); go_simp) <;> (try with_reducible rfl)
  (try simp only [Act.put, List.setIfInBounds_toArray, List.set_cons_zero, List.set_cons_succ])
  refine take_run (d := (some 83)) (v := ?v15) 16 rfl rfl (by kernel_rfl) (by kernel_rfl) (by kernel_rfl) (fun _ _ _ h => h) (by rfl) hHeld ?hy15 ?rs15
  case hy15 => (intro w hSw; (try dsimp only at hSw); go_simp) <;> (try with_reducible rfl)
  (try simp only [Act.put, List.setIfInBounds_toArray, List.set_cons_zero, List.set_cons_succ])
  refine take_run (d := (some 84)) (v := ?v16) 17 rfl rfl (by kernel_rfl) (by kernel_rfl) (by kernel_rfl) (fun _ _ _ h => h) (by rfl) hHeld ?hy16 ?rs16
  case hy16 => (intro w hSw; (try dsimp only at hSw); go_simp) <;> (try with_reducible rfl)
  (try simp only [Act.put, List.setIfInBounds_toArray, List.set_cons_zero, List.set_cons_succ])
  refine take_run (d := (some 85)) (v := ?v17) 18 rfl rfl (by kernel_rfl) (by kernel_rfl) (by kernel_rfl) (fun _ _ _ h => h) (by rfl) hHeld ?hy17 ?rs17
  case hy17 => (intro w hSw; (try dsimp only at hSw); go_simp) <;> (try with_reducible rfl)
  (try simp only [Act.put, List.setIfInBounds_toArray, List.set_cons_zero, List.set_cons_succ])
  refine take_call 12 rfl (by kernel_rfl) (by rfl) (fun K hK => ?_)
  go_simp
  have HCN := Lib.hid (Boxed.made wz #[.int .i64 1] 3)
  have BGd := Lib.hid (BGz.out.alloc (.cells #[.int .i64 1] 3))
  refine hK.out _ _ (by obtain ⟨h0, h1, h2, h3, h4, h6, h7, hw⟩ := hHeld; exact ⟨cell_keep h0 (blw_alloc _ _), cell_keep h1 (blw_alloc _ _), cell_keep h2 (blw_alloc _ _), cell_keep h3 (blw_alloc _ _), cell_keep h4 (blw_alloc _ _), Lib.hid (h6.out.alloc _), Lib.hid (h7.out.alloc _), Lib.hid (hw.out.alloc _)⟩) (fun hHeld => ?_)
  clear hK K
  (try simp only [Act.put, List.setIfInBounds_toArray, List.set_cons_zero, List.set_cons_succ])
  generalize World.alloc wz (.cells #[.int .i64 1] 3) = wd at *
  generalize wz.heap.size = qi at *
  refine take_call 13 rfl (by kernel_rfl) (by rfl) (fun K hK => ?_)
  obtain ⟨h0, h1, h2, h3, h4, h6, h7, hw⟩ := hHeld
  refine wpx_append_at _ _ _ 140 rfl w.heap.size 3 iI _ 1 8 Tryz.underlying140 hiI hI0 hI1 hI2 rfl (by decide) (.slice none 0 0) 0 [] (by simp [go_sem]) (World.ownsRow_nil _ _ _ _) ⟨qi, 0, none⟩ 1 1 [.int .i64 1] (by simp [go_sem]) rfl (boxed_add HCN.out) (fun u hu => by simp at hu; rcases hu with rfl; rfl) (by unfold maxLen; omega) (by omega) hw.out.size ?_
  intro bv w6 hown hgrow _
  obtain ⟨gb, cl, rfl, _, _, _, _⟩ := row_cells hown
  have hk : ∀ k, k < wd.heap.size → w6.heap[k]? = wd.heap[k]? := fun k hk => hgrow.block k hk (by simp [Value.ownBlock])
  have K6 := Lib.hid (hw.out.trans (grown_kpt hgrow))
  have G6 := Lib.hid (BGd.out.same (hk _ BGd.out.lt))
  have C6 := Lib.hid (h6.out.same (hk _ h6.out.lt))
  have Y6 := Lib.hid (h7.out.same (hk _ h7.out.lt))
  refine hK.out _ _ ⟨C6.out.cell 0 _ rfl, Y6.out.cell 0 _ rfl, Y6.out.cell 1 _ rfl, Y6.out.cell 2 _ rfl, Y6.out.cell 3 _ rfl, C6, Y6, K6⟩ (fun hHeld => ?_)
  clear hK K hown hgrow hk h0 h1 h2 h3 h4 h6 h7 hw HCN BGz BGd
  (try simp only [Act.put, List.setIfInBounds_toArray, List.set_cons_zero, List.set_cons_succ])
  refine take_run (d := (some 86)) (v := ?v18) 19 rfl rfl (by kernel_rfl) (by kernel_rfl) (by kernel_rfl) (fun _ _ _ h => h) (by rfl) hHeld ?hy18 ?rs18
  case hy18 => (intro w hSw; (try dsimp only at hSw); go_simp) <;> (try with_reducible rfl)
  (try simp only [Act.put, List.setIfInBounds_toArray, List.set_cons_zero, List.set_cons_succ])
  refine take_run (d := (some 87)) (v := ?v19) 20 rfl rfl (by kernel_rfl) (by kernel_rfl) (by kernel_rfl) (fun _ _ _ h => h) (by rfl) hHeld ?hy19 ?rs19
  case hy19 => (intro w hSw; (try dsimp only at hSw); go_simp) <;> (try with_reducible rfl)
  (try simp only [Act.put, List.setIfInBounds_toArray, List.set_cons_zero, List.set_cons_succ])
  refine take_call 21 rfl (by kernel_rfl) (by rfl) (fun K hK => ?_)
  have o0 := G6.out.cell 0 _ rfl
  have o1 := G6.out.cell 1 _ rfl
  have o2 := G6.out.cell 2 _ rfl
  have o3 := G6.out.cell 3 _ rfl
  have o4 := G6.out.cell 4 _ rfl
  have o5 := G6.out.cell 5 _ rfl
  have z0 := G6.out.free 0 (by simp [zeroS])
  have z1 := G6.out.free 1 (by simp [zeroS])
  have z2 := G6.out.free 2 (by simp [zeroS])
  have z3 := G6.out.free 3 (by simp [zeroS])
  have z4 := G6.out.free 4 (by simp [zeroS])
  have z5 := G6.out.free 5 (by simp [zeroS])
  have gl := G6.out.lt
  go_simp
  have hgc : g ≠ cb := Ne.symm hcg
  have hgy : g ≠ w.heap.size + 1 := by have := HZ2.out; omega
  have G9 := Lib.hid ((((((G6.out.set 0 (.int .i64 1) (by simp [zeroS])).set 1 (.string ⟨#[104, 101, 108, 108, 111]⟩) (by simp [zeroS])).set 2 (.int .i64 0) (by simp [zeroS])).set 3 (.slice none 0 0) (by simp [zeroS])).set 4 (.slice (some ⟨gb, 0, none⟩) 1 cl) (by simp [zeroS])).set 5 (.int .i64 1) (by simp [zeroS]))
  have C9 := Lib.hid ((((((C6.out.far hgc 0 (.int .i64 1)).far hgc 1 (.string ⟨#[104, 101, 108, 108, 111]⟩)).far hgc 2 (.int .i64 0)).far hgc 3 (.slice none 0 0)).far hgc 4 (.slice (some ⟨gb, 0, none⟩) 1 cl)).far hgc 5 (.int .i64 1))
  have Y9 := Lib.hid ((((((Y6.out.far hgy 0 (.int .i64 1)).far hgy 1 (.string ⟨#[104, 101, 108, 108, 111]⟩)).far hgy 2 (.int .i64 0)).far hgy 3 (.slice none 0 0)).far hgy 4 (.slice (some ⟨gb, 0, none⟩) 1 cl)).far hgy 5 (.int .i64 1))
  have hgw : g < w.heap.size → g = cb := fun h => absurd h (by omega)
  have K9 := Lib.hid ((((((K6.out.setCell ⟨g, 0, none⟩ (.int .i64 1) hgw).setCell ⟨g, 1, none⟩ (.string ⟨#[104, 101, 108, 108, 111]⟩) hgw).setCell ⟨g, 2, none⟩ (.int .i64 0) hgw).setCell ⟨g, 3, none⟩ (.slice none 0 0) hgw).setCell ⟨g, 4, none⟩ (.slice (some ⟨gb, 0, none⟩) 1 cl) hgw).setCell ⟨g, 5, none⟩ (.int .i64 1) hgw)
  clear o0 o1 o2 o3 o4 o5 z0 z1 z2 z3 z4 z5 gl G6 C6 Y6 K6 hHeld
  generalize ((((((w6.setCell ⟨g, 0, none⟩ (.int .i64 1)).setCell ⟨g, 1, none⟩ (.string ⟨#[104, 101, 108, 108, 111]⟩)).setCell ⟨g, 2, none⟩ (.int .i64 0)).setCell ⟨g, 3, none⟩ (.slice none 0 0)).setCell ⟨g, 4, none⟩ (.slice (some ⟨gb, 0, none⟩) 1 cl)).setCell ⟨g, 5, none⟩ (.int .i64 1)) = w9 at *
  refine hK.out _ _ ⟨C9.out.cell 0 _ rfl, Y9.out.cell 0 _ rfl, Y9.out.cell 1 _ rfl, Y9.out.cell 2 _ rfl, Y9.out.cell 3 _ rfl, C9, Y9, K9⟩ (fun hHeld => ?_)
  clear hK K
  (try simp only [Act.put, List.setIfInBounds_toArray, List.set_cons_zero, List.set_cons_succ])
  refine wpAnyH_done (by kernel_rfl) ?_ _
  clear hHeld Y9
  go_wp2_with fail
  rw [rounds_succ]
  go_wp2_with fail
  go_end0
  exact ⟨g, cp, some ⟨gb, 0, none⟩, cl, rfl, by omega, hcp, C9.out, G9.out, K9.out⟩
end Tn
end Go.Proofs.YtghohnbajbikjaaGreatDoor

