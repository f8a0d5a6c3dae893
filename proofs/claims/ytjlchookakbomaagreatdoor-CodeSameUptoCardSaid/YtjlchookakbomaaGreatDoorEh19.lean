/- The walk of eval's speaker: a number. What it keeps while it speaks. Conditions: the listed variables; the number is right; what is said is not too long. -/
import Derived.Test.YtjlchookakbomaaGreatDoorEh9
import Derived.Test.YtjlchookakbomaaGreatDoorEh15
import Derived.Test.YtjlchookakbomaaGreatDoorEh18
import Derived.Test.YtjlchookakbomaaGreatDoorEh7
import Derived.Test.YtjlchookakbomaaGreatDoorProg
import Derived.Shelf.Strings.BuilderK
import Derived.Test.YtjlchookakbomaaGreatDoorEh0
import Derived.Test.YtjlchookakbomaaGreatDoorEh14
import Derived.Test.YtjlchookakbomaaGreatDoorEh3
import Derived.Test.YtjlchookakbomaaGreatDoorEh5
namespace Go.Proofs.YtjlchookakbomaaGreatDoor
open Go.RowKit Ms
open Dcm (okD)
/-- what eval.Case tells -/
def caseV (E : Ev) (cs : Cs) (c s o : Int) : Value := match E.less c s o with
  | none => .tuple #[.int .i64 0, .agg #[.int .i64 0, .int .i64 0], errV 1]
  | some l => .tuple #[.int .i64 ((cntI E cs c s l.1 l.2 : Nat) : Int), .agg #[.int .i64 l.1, .int .i64 l.2], .nilIface]
theorem rnk_same {E : Ev} {k : List UInt8} {c s : Int} {y : List UInt8 × List Nd} (h0 : 0 ≤ exV y.1) (h : E.same c s (exV y.1) = true) : rnk E k c s y = 3 := by
  unfold rnk; rw [decide_eq_true h0, h]; rfl
theorem rnk_rest {E : Ev} {k : List UInt8} {c s : Int} {y : List UInt8 × List Nd} (h : (decide (0 ≤ exV y.1) && E.same c s (exV y.1)) = false) : rnk E k c s y = if (y.1 == k) = true then 2 else if (y.1 == other) = true then 1 else 0 := by
  unfold rnk; rw [h]; rfl

theorem box_res {w : World} {r : Nat} {a b x y : Value} (h0 : w.cell? ⟨r, 0, none⟩ = some a) (h1 : w.cell? ⟨r, 1, none⟩ = some b) : ((w.setCell ⟨r, 0, none⟩ x).setCell ⟨r, 1, none⟩ y).cell? ⟨r, 0, none⟩ = some x ∧ ((w.setCell ⟨r, 0, none⟩ x).setCell ⟨r, 1, none⟩ y).cell? ⟨r, 1, none⟩ = some y := by
  have hn : (⟨r, 0, none⟩ : Addr) ≠ ⟨r, 1, none⟩ := by simp
  have k1 : (w.setCell ⟨r, 0, none⟩ x).cell? ⟨r, 1, none⟩ = some b := by rw [World.cell?_setCell_other _ _ _ _ hn, h1]
  exact ⟨by rw [World.cell?_setCell_other _ _ _ _ hn.symm, World.cell?_setCell_same _ _ _ h0], World.cell?_setCell_same _ _ _ k1⟩
theorem box_res0 {w : World} {r : Nat} {a b x y : Value} {o : Obj} (h0 : w.cell? ⟨r, 0, none⟩ = some a) (h1 : w.cell? ⟨r, 1, none⟩ = some b) (hl : r < w.heap.size) : (((w.setCell ⟨r, 0, none⟩ x).setCell ⟨r, 1, none⟩ y).alloc o).cell? ⟨r, 0, none⟩ = some x ∧ (((w.setCell ⟨r, 0, none⟩ x).setCell ⟨r, 1, none⟩ y).alloc o).cell? ⟨r, 1, none⟩ = some y := by
  have hs : r < ((w.setCell ⟨r, 0, none⟩ x).setCell ⟨r, 1, none⟩ y).heap.size := by simpa only [size_setCell] using hl
  have k := box_res (x := x) (y := y) h0 h1
  exact ⟨((blw_alloc _ o).cell (p := ⟨r, 0, none⟩) hs).trans k.1, ((blw_alloc _ o).cell (p := ⟨r, 1, none⟩) hs).trans k.2⟩

set_option maxRecDepth 100000 in
set_option maxHeartbeats 4000000 in
theorem case_no (K : Int) (T : List UInt8) (O : Int) (v : Value) (t0 t1 t2 t3 t4 : List UInt8) (c s : Int) (w : World) (h : ¬ addOk c s (-O) 0) (hO : 0 ≤ O ∧ O ≤ 9) :
    Calls Tryz.prog 28 #[.agg #[.int .i64 K, .string ⟨T.toArray⟩, .int .i64 O, v], .agg #[.string ⟨t0.toArray⟩, .string ⟨t1.toArray⟩, .string ⟨t2.toArray⟩, .string ⟨t3.toArray⟩, .string ⟨t4.toArray⟩], .agg #[.int .i64 c, .int .i64 s]] w fun e w' => e = .returned (.tuple #[.int .i64 0, .agg #[.int .i64 0, .int .i64 0], errV 1]) ∧ Below w.heap.size w w' := by
  have wn : IntKind.i64.wrap (-O) = -O := IntWalk.i64_in _ (by omega)
  have CA := Lib.hid fun w => add_no c s (-O) 0 w h
  have W0 := Lib.hid ((blw_trans (blw_trans (blw_trans (blw_alloc w (.cells #[.int .i64 K, .string ⟨T.toArray⟩, .int .i64 O, v] 51)) (blw_alloc _ (.cells #[.string ⟨t0.toArray⟩, .string ⟨t1.toArray⟩, .string ⟨t2.toArray⟩, .string ⟨t3.toArray⟩, .string ⟨t4.toArray⟩] 58))) (blw_alloc _ (.cells #[.int .i64 c, .int .i64 s] 64))) (blw_alloc _ (.cells #[.int .i64 0, .int .i64 0] 64))))
  have BR := Lib.hid (Boxed.made (((w.alloc (.cells #[.int .i64 K, .string ⟨T.toArray⟩, .int .i64 O, v] 51)).alloc (.cells #[.string ⟨t0.toArray⟩, .string ⟨t1.toArray⟩, .string ⟨t2.toArray⟩, .string ⟨t3.toArray⟩, .string ⟨t4.toArray⟩] 58)).alloc (.cells #[.int .i64 c, .int .i64 s] 64)) #[.int .i64 0, .int .i64 0] 64)
  clear h hO
  go_enter Tryz.func28, Tryz.ntmps28
  go_wp2_with fail
  refine (CA.out _).mono ?_
  rintro e w1 ⟨rfl, hb⟩
  have W1 := Lib.hid (blw_trans W0.out hb)
  have BR1 := Lib.hid (BR.out.below hb)
  simp only [World.size_alloc] at BR1
  have hr0 := Lib.hid (show w.heap.size ≤ w.heap.size + 1 + 1 + 1 by omega)
  generalize w.heap.size + 1 + 1 + 1 = r at *
  have r0 : w1.cell? ⟨r, 0, none⟩ = some (.int .i64 0) := BR1.out.cell 0 _ rfl
  have r1 : w1.cell? ⟨r, 1, none⟩ = some (.int .i64 0) := BR1.out.cell 1 _ rfl
  have f0 := BR1.out.free 0 (by simp)
  have f1 := BR1.out.free 1 (by simp)
  have rl := BR1.out.lt
  clear hb BR BR1 W0 CA
  go_wp2_with fail
  have E0 := box_res0 (o := .cells #[.int .i64 0, .int .i64 0] 64) (x := .int .i64 0) (y := .int .i64 0) r0 r1 rl
  refine bodyPost_ret (v := .tuple #[.int .i64 0, .agg #[.int .i64 0, .int .i64 0], errV 1]) (by simp [results, Tryz.results28, go_sem, E0.1, E0.2]; try rfl) rfl ?_
  exact ⟨rfl, ((W1.out.setCell (p := ⟨r, 0, none⟩) hr0.out _).setCell (p := ⟨r, 1, none⟩) hr0.out _).alloc (by simp only [size_setCell]; exact W1.out.size) _⟩

theorem same_is (L : List (List UInt8)) (c s n : Int) (w : World) (hd : okD c s) (h0 : 0 ≤ n) (h1 : n ≤ 1000000000000000) :
    Calls Tryz.prog 61 #[.agg #[.int .i64 c, .int .i64 s], .agg #[.int .i64 n, .int .i64 0]] w fun e w' => e = .returned (.bool ((evS L).same c s n)) ∧ Below w.heap.size w w' := by
  have hn : okD n 0 := ⟨by omega, by omega, by omega, h1⟩
  show Calls _ _ _ w fun e w' => e = .returned (.bool (decide (Dcm.nrm c s = Dcm.nrm n 0))) ∧ _
  by_cases h : Dcm.nrm c s = Dcm.nrm n 0
  · rw [decide_eq_true h]; exact same_yes c s n 0 w hd hn h
  · rw [decide_eq_false h]; exact same_no c s n 0 w hd hn h

set_option maxRecDepth 100000 in
set_option maxHeartbeats 8000000 in
theorem case_yes {f : Nat} (K : Int) (T : List UInt8) (O : Int) (v : Value) (cs : Cs) (t0 t1 t2 t3 t4 : List UInt8) (c s : Int) (w : World) (hT : TR w) (hK : KindsW w) (hS : SetFine t0 t1 t2 t3 t4) (hd : okD c s) (hO : 0 ≤ O ∧ O ≤ 9) (hc : CassAt f w v cs) (hl : cs.length ≤ 2000000) (h : addOk c s (-O) 0) :
    Calls Tryz.prog 28 #[.agg #[.int .i64 K, .string ⟨T.toArray⟩, .int .i64 O, v], .agg #[.string ⟨t0.toArray⟩, .string ⟨t1.toArray⟩, .string ⟨t2.toArray⟩, .string ⟨t3.toArray⟩, .string ⟨t4.toArray⟩], .agg #[.int .i64 c, .int .i64 s]] w fun e w' => e = .returned (.tuple #[.int .i64 ((cntI (evS [t0, t1, t2, t3, t4]) cs c s (Dcm.addC c s (-O) 0) (Dcm.addS s 0) : Nat) : Int), .agg #[.int .i64 (Dcm.addC c s (-O) 0), .int .i64 (Dcm.addS s 0)], .nilIface]) ∧ Below w.heap.size w w' := by
  have wn : IntKind.i64.wrap (-O) = -O := IntWalk.i64_in _ (by omega)
  have hd2 : Dcm.okD (Dcm.addC c s (-O) 0) (Dcm.addS s 0) := less_okd (L := [t0, t1, t2, t3, t4]) (c := c) (s := s) (o := O) (l := (Dcm.addC c s (-O) 0, Dcm.addS s 0)) (if_pos h)
  have CA := Lib.hid fun w => add_yes c s (-O) 0 w h
  rw [← best_cnt]
  generalize Dcm.addC c s (-O) 0 = A at *
  generalize Dcm.addS s 0 = B at *
  have CK := Lib.hid fun (wx : World) (hb : Below w.heap.size w wx) => kind_ok t0 t1 t2 t3 t4 A B wx (hT.below hb) (hK.below hb) hS.2 hS.1 hd2
  rw [show Rul.kindS [t0, t1, t2, t3, t4] (Rul.opsD A B) 0 = (evS [t0, t1, t2, t3, t4]).kind A B from rfl] at CK
  have CX := Lib.hid fun (key : List UInt8) (hk : key.length ≤ 2000000) (wx : World) (hb : Below w.heap.size w wx) => mexact_any key wx (hT.p.below hb) (hT.n.below hb) (by omega)
  have CS := Lib.hid fun (n : Int) (h0 : 0 ≤ n) (h1 : n ≤ 1000000000000000) (w : World) => same_is [t0, t1, t2, t3, t4] c s n w hd h0 h1
  have HX := Lib.hid (show ∀ wx, Below w.heap.size w wx → CassAt f wx v cs from fun wx hb => cass_below hc hb)
  obtain ⟨Ad, cap, rfl, hm, _⟩ := hc.spread
  have hcap : cs.length ≤ cap ∨ cs.length = 0 := by
    rcases hc with ⟨e, _⟩ | ⟨_, _, _, e, _, q, _, _⟩
    · exact .inr (by rw [e]; rfl)
    · injection e with _ _ e; exact .inl (by omega)
  have W0 := Lib.hid ((blw_trans (blw_trans (blw_trans (blw_alloc w (.cells #[.int .i64 K, .string ⟨T.toArray⟩, .int .i64 O, .slice Ad cs.length cap] 51)) (blw_alloc _ (.cells #[.string ⟨t0.toArray⟩, .string ⟨t1.toArray⟩, .string ⟨t2.toArray⟩, .string ⟨t3.toArray⟩, .string ⟨t4.toArray⟩] 58))) (blw_alloc _ (.cells #[.int .i64 c, .int .i64 s] 64))) (blw_alloc _ (.cells #[.int .i64 0, .int .i64 0] 64))))
  have BN := Lib.hid ((((Boxed.made w #[.int .i64 K, .string ⟨T.toArray⟩, .int .i64 O, .slice Ad cs.length cap] 51).alloc (.cells #[.string ⟨t0.toArray⟩, .string ⟨t1.toArray⟩, .string ⟨t2.toArray⟩, .string ⟨t3.toArray⟩, .string ⟨t4.toArray⟩] 58)).alloc (.cells #[.int .i64 c, .int .i64 s] 64)).alloc (.cells #[.int .i64 0, .int .i64 0] 64))
  have BS := Lib.hid (((Boxed.made (w.alloc (.cells #[.int .i64 K, .string ⟨T.toArray⟩, .int .i64 O, .slice Ad cs.length cap] 51)) #[.string ⟨t0.toArray⟩, .string ⟨t1.toArray⟩, .string ⟨t2.toArray⟩, .string ⟨t3.toArray⟩, .string ⟨t4.toArray⟩] 58).alloc (.cells #[.int .i64 c, .int .i64 s] 64)).alloc (.cells #[.int .i64 0, .int .i64 0] 64))
  have BD := Lib.hid ((Boxed.made ((w.alloc (.cells #[.int .i64 K, .string ⟨T.toArray⟩, .int .i64 O, .slice Ad cs.length cap] 51)).alloc (.cells #[.string ⟨t0.toArray⟩, .string ⟨t1.toArray⟩, .string ⟨t2.toArray⟩, .string ⟨t3.toArray⟩, .string ⟨t4.toArray⟩] 58)) #[.int .i64 c, .int .i64 s] 64).alloc (.cells #[.int .i64 0, .int .i64 0] 64))
  have BR := Lib.hid (Boxed.made (((w.alloc (.cells #[.int .i64 K, .string ⟨T.toArray⟩, .int .i64 O, .slice Ad cs.length cap] 51)).alloc (.cells #[.string ⟨t0.toArray⟩, .string ⟨t1.toArray⟩, .string ⟨t2.toArray⟩, .string ⟨t3.toArray⟩, .string ⟨t4.toArray⟩] 58)).alloc (.cells #[.int .i64 c, .int .i64 s] 64)) #[.int .i64 0, .int .i64 0] 64)
  simp only [World.size_alloc] at BS BD BR
  clear h hO hc hT hK hS hd hd2
  generalize evS [t0, t1, t2, t3, t4] = E at *
  generalize hk0 : E.kind A B = k at *
  clear hk0
  generalize hL : cs.length = L at *
  go_enter Tryz.func28, Tryz.ntmps28
  go_wp2_with fail
  refine (CA.out _).mono ?_
  rintro e w1 ⟨rfl, hb⟩
  have W1 := Lib.hid (blw_trans W0.out hb)
  have N1 := Lib.hid (BN.out.below hb)
  have S1 := Lib.hid (BS.out.below hb)
  have D1 := Lib.hid (BD.out.below hb)
  have R1 := Lib.hid (BR.out.below hb)
  have L1 := Lib.hid (Boxed.made w1 #[.int .i64 A, .int .i64 B] 64)
  have HQ := Lib.hid (show w.heap.size ≤ w.heap.size + 1 + 1 + 1 ∧ w.heap.size ≠ w.heap.size + 1 + 1 + 1 ∧ w.heap.size + 1 ≠ w.heap.size + 1 + 1 + 1 ∧ w.heap.size + 1 + 1 ≠ w.heap.size + 1 + 1 + 1 from ⟨by omega, by omega, by omega, by omega⟩)
  generalize w.heap.size + 1 + 1 + 1 = q3 at *
  generalize w.heap.size + 1 + 1 = q2 at *
  generalize w.heap.size + 1 = q1 at *
  have s0 : w1.cell? ⟨q1, 0, none⟩ = some (.string ⟨t0.toArray⟩) := S1.out.cell 0 _ rfl
  have s1 : w1.cell? ⟨q1, 1, none⟩ = some (.string ⟨t1.toArray⟩) := S1.out.cell 1 _ rfl
  have s2 : w1.cell? ⟨q1, 2, none⟩ = some (.string ⟨t2.toArray⟩) := S1.out.cell 2 _ rfl
  have s3 : w1.cell? ⟨q1, 3, none⟩ = some (.string ⟨t3.toArray⟩) := S1.out.cell 3 _ rfl
  have s4 : w1.cell? ⟨q1, 4, none⟩ = some (.string ⟨t4.toArray⟩) := S1.out.cell 4 _ rfl
  have sl := S1.out.lt
  have W1a := Lib.hid (blw_trans W1.out (blw_alloc w1 (.cells #[.int .i64 A, .int .i64 B] 64)))
  have CKi := Lib.hid (CK.out _ W1a.out)
  clear hb BN BS BD BR W0 CA
  go_wp2_with fail
  refine CKi.out.mono ?_
  rintro e w2 ⟨rfl, hb⟩
  have W2 := Lib.hid (blw_trans W1a.out hb)
  have N2 := Lib.hid ((N1.out.alloc (.cells #[.int .i64 A, .int .i64 B] 64)).below hb)
  have D2 := Lib.hid ((D1.out.alloc (.cells #[.int .i64 A, .int .i64 B] 64)).below hb)
  have R2 := Lib.hid ((R1.out.alloc (.cells #[.int .i64 A, .int .i64 B] 64)).below hb)
  have L2 := Lib.hid (L1.out.below hb)
  have HQ2 := Lib.hid (show w1.heap.size ≠ q3 from fun e => by have := R1.out.lt; omega)
  clear hb N1 S1 D1 R1 L1 W1 W1a CKi CK s0 s1 s2 s3 s4 sl
  generalize w1.heap.size = q4 at *
  have n3 : w2.cell? ⟨w.heap.size, 3, none⟩ = some (.slice Ad L cap) := N2.out.cell 3 _ rfl
  have nl := N2.out.lt
  go_wp2_with fail
  clear n3 nl
  go_loopw [12, 13, 45] (fun v12 v13 v45 wr => ∃ i b r : Nat, v12 = .int .i64 (b : Int) ∧ v13 = .int .i64 (r : Int) ∧ v45 = .int .i64 (i : Int) ∧ i ≤ L ∧ Hid (bestL (rnk E k c s) (cs.take i) 0 (0, 0) = (b, r)) ∧ Hid (Below w2.heap.size w2 wr)) (fun _ _ v45 _ => L - (RowKit.intOf v45).toNat)
  case atStart => exact ⟨0, 0, 0, rfl, rfl, rfl, Nat.zero_le _, Lib.hid rfl, Lib.hid (Below.refl _ _)⟩
  case round =>
    obtain ⟨i, b, r, rfl, rfl, rfl, hi, HK, HB⟩ := hrel
    by_cases hlt : i < L
    · have hi' : (i : Int) < (L : Int) := by omega
      have hcc : L ≤ cap := by omega
      have WB := Lib.hid (blw_trans W2.out HB.out)
      obtain ⟨y, hy⟩ : ∃ y, cs[i]? = some y := ⟨cs[i]'(by omega), List.getElem?_eq_getElem (by omega)⟩
      obtain ⟨A', cap', eA, _, hsp⟩ := (HX.out wr WB.out).spread
      injection eA with e1 e2 e3
      subst e1
      obtain ⟨bk, off, rfl, hyc⟩ := hsp i y hy
      obtain ⟨a9, n9, c9, x0, x1, _, xk, _⟩ := hyc
      have HS := Lib.hid (best_step (rnk E k c s) hy)
      rw [HK.out] at HS
      have BY := Lib.hid (Boxed.made wr #[.string ⟨y.1.toArray⟩, .slice a9 n9 c9] 53)
      have WA := Lib.hid (blw_trans HB.out (blw_alloc wr (.cells #[.string ⟨y.1.toArray⟩, .slice a9 n9 c9] 53)))
      have CXi := Lib.hid (CX.out y.1 xk _ (blw_trans W2.out WA.out))
      have hxb := ex_bd y.1
      have HR3 := Lib.hid fun (h0 : 0 ≤ exV y.1) (h : E.same c s (exV y.1) = true) => rnk_same (E := E) (k := k) (c := c) (s := s) (y := y) h0 h
      have HR2 := Lib.hid fun (h : (decide (0 ≤ exV y.1) && E.same c s (exV y.1)) = false) => rnk_rest (E := E) (k := k) (c := c) (s := s) (y := y) h
      have D3 := Lib.hid (D2.out.below WA.out)
      clear hsp e2 e3 hy xk HX
      generalize rnk E k c s y = RK at *
      generalize exV y.1 = V at *
      generalize y.1 = key at *
      have wi : IntKind.i64.wrap ((i : Int) + 1) = (i : Int) + 1 := IntWalk.i64_in _ (by omega)
      go_wp2_with fail
      refine CXi.out.mono ?_
      rintro e w3 ⟨rfl, hb⟩
      have W3 := Lib.hid (blw_trans WA.out hb)
      have BY3 := Lib.hid (BY.out.below hb)
      have D4 := Lib.hid (D3.out.below hb)
      have HQ3 := Lib.hid (show w2.heap.size ≤ wr.heap.size from HB.out.size)
      clear hb CXi BY D3 HB WA WB x0 x1
      generalize wr.heap.size = qy at *
      cases hv : decide (0 ≤ V) with
      | true =>
        have h0 : 0 ≤ V := of_decide_eq_true hv
        have CSi := Lib.hid (CS.out V h0 hxb.2)
        have d0 : World.cell? w3 ⟨q2, 0, none⟩ = some (.int .i64 c) := D4.out.cell 0 _ rfl
        have d1 : World.cell? w3 ⟨q2, 1, none⟩ = some (.int .i64 s) := D4.out.cell 1 _ rfl
        have dl := D4.out.lt
        have HR3i := Lib.hid (HR3.out h0)
        clear CS
        generalize E.same c s V = z at *
        go_wp2_with fail
        refine (CSi.out _).mono ?_
        rintro e wX ⟨rfl, hb⟩
        have W4 := Lib.hid (blw_trans W3.out hb)
        have BYX := Lib.hid (BY3.out.below hb)
        clear hb CSi d0 d1 dl W3 BY3 D4
        cases z with
        | true =>
          have hrk := HR3i.out rfl
          clear HR3i
          have HRK := Lib.hid (show RK = 3 from hrk)
          by_cases hr : r < 3
          · have hr' : (r : Int) < 3 := by omega
            have HT := Lib.hid (show bestL (rnk E k c s) (cs.take (i + 1)) 0 (0, 0) = (i, 3) by rw [HS.out, HRK.out]; exact if_pos hr)
            clear HS HRK HR2 HR3
            go_wp2_with fail
            go_roundw
            case rel => exact ⟨i + 1, i, 3, rfl, rfl, by go_num, by omega, HT, W4⟩
            case measure => simp [RowKit.intOf]; omega
          · have hr' : ¬ (r : Int) < 3 := by omega
            have HT := Lib.hid (show bestL (rnk E k c s) (cs.take (i + 1)) 0 (0, 0) = (b, r) by rw [HS.out, HRK.out]; exact if_neg hr)
            clear HS HRK HR2 HR3
            go_wp2_with fail
            go_roundw
            case rel => exact ⟨i + 1, b, r, rfl, rfl, by go_num, by omega, HT, W4⟩
            case measure => simp [RowKit.intOf]; omega
        | false =>
          clear HR3i
          have y0 : World.cell? wX ⟨qy, 0, none⟩ = some (.string ⟨key.toArray⟩) := BYX.out.cell 0 _ rfl
          have yl := BYX.out.lt
          have hrk := HR2.out (by rw [hv]; rfl)
          cases hq : key == k with
          | true =>
            rw [hq, if_pos rfl] at hrk
            have HRK := Lib.hid (show RK = 2 from hrk)
            by_cases hr : r < 2
            · have hr' : (r : Int) < 2 := by omega
              have HT := Lib.hid (show bestL (rnk E k c s) (cs.take (i + 1)) 0 (0, 0) = (i, 2) by rw [HS.out, HRK.out]; exact if_pos hr)
              clear HS HRK HR2 HR3
              go_wp2_with fail
              go_roundw
              case rel => exact ⟨i + 1, i, 2, rfl, rfl, by go_num, by omega, HT, W4⟩
              case measure => simp [RowKit.intOf]; omega
            · have hr' : ¬ (r : Int) < 2 := by omega
              have HT := Lib.hid (show bestL (rnk E k c s) (cs.take (i + 1)) 0 (0, 0) = (b, r) by rw [HS.out, HRK.out]; exact if_neg hr)
              clear HS HRK HR2 HR3
              go_wp2_with fail
              go_roundw
              case rel => exact ⟨i + 1, b, r, rfl, rfl, by go_num, by omega, HT, W4⟩
              case measure => simp [RowKit.intOf]; omega
          | false =>
            rw [hq, if_neg (by simp)] at hrk
            cases hz : key == other with
            | true =>
              rw [hz, if_pos rfl] at hrk
              unfold other at hz
              have HRK := Lib.hid (show RK = 1 from hrk)
              by_cases hr : r < 1
              · have hr' : (r : Int) < 1 := by omega
                have HT := Lib.hid (show bestL (rnk E k c s) (cs.take (i + 1)) 0 (0, 0) = (i, 1) by rw [HS.out, HRK.out]; exact if_pos hr)
                clear HS HRK HR2 HR3
                go_wp2_with fail
                go_roundw
                case rel => exact ⟨i + 1, i, 1, rfl, rfl, by go_num, by omega, HT, W4⟩
                case measure => simp [RowKit.intOf]; omega
              · have hr' : ¬ (r : Int) < 1 := by omega
                have HT := Lib.hid (show bestL (rnk E k c s) (cs.take (i + 1)) 0 (0, 0) = (b, r) by rw [HS.out, HRK.out]; exact if_neg hr)
                clear HS HRK HR2 HR3
                go_wp2_with fail
                go_roundw
                case rel => exact ⟨i + 1, b, r, rfl, rfl, by go_num, by omega, HT, W4⟩
                case measure => simp [RowKit.intOf]; omega
            | false =>
              rw [hz, if_neg (by simp)] at hrk
              unfold other at hz
              have HRK := Lib.hid (show RK = 0 from hrk)
              have hr : ¬ r < 0 := by omega
              have hr' : ¬ (r : Int) < 0 := by omega
              have HT := Lib.hid (show bestL (rnk E k c s) (cs.take (i + 1)) 0 (0, 0) = (b, r) by rw [HS.out, HRK.out]; exact if_neg hr)
              clear HS HRK HR2 HR3
              go_wp2_with fail
              go_roundw
              case rel => exact ⟨i + 1, b, r, rfl, rfl, by go_num, by omega, HT, W4⟩
              case measure => simp [RowKit.intOf]; omega
      | false =>
        clear CS D4
        have W4 := W3
        have BYX := BY3
        clear W3 BY3
        generalize w3 = wX at *
        have y0 : World.cell? wX ⟨qy, 0, none⟩ = some (.string ⟨key.toArray⟩) := BYX.out.cell 0 _ rfl
        have yl := BYX.out.lt
        have hrk := HR2.out (by rw [hv]; rfl)
        cases hq : key == k with
        | true =>
          rw [hq, if_pos rfl] at hrk
          have HRK := Lib.hid (show RK = 2 from hrk)
          by_cases hr : r < 2
          · have hr' : (r : Int) < 2 := by omega
            have HT := Lib.hid (show bestL (rnk E k c s) (cs.take (i + 1)) 0 (0, 0) = (i, 2) by rw [HS.out, HRK.out]; exact if_pos hr)
            clear HS HRK HR2 HR3
            go_wp2_with fail
            go_roundw
            case rel => exact ⟨i + 1, i, 2, rfl, rfl, by go_num, by omega, HT, W4⟩
            case measure => simp [RowKit.intOf]; omega
          · have hr' : ¬ (r : Int) < 2 := by omega
            have HT := Lib.hid (show bestL (rnk E k c s) (cs.take (i + 1)) 0 (0, 0) = (b, r) by rw [HS.out, HRK.out]; exact if_neg hr)
            clear HS HRK HR2 HR3
            go_wp2_with fail
            go_roundw
            case rel => exact ⟨i + 1, b, r, rfl, rfl, by go_num, by omega, HT, W4⟩
            case measure => simp [RowKit.intOf]; omega
        | false =>
          rw [hq, if_neg (by simp)] at hrk
          cases hz : key == other with
          | true =>
            rw [hz, if_pos rfl] at hrk
            unfold other at hz
            have HRK := Lib.hid (show RK = 1 from hrk)
            by_cases hr : r < 1
            · have hr' : (r : Int) < 1 := by omega
              have HT := Lib.hid (show bestL (rnk E k c s) (cs.take (i + 1)) 0 (0, 0) = (i, 1) by rw [HS.out, HRK.out]; exact if_pos hr)
              clear HS HRK HR2 HR3
              go_wp2_with fail
              go_roundw
              case rel => exact ⟨i + 1, i, 1, rfl, rfl, by go_num, by omega, HT, W4⟩
              case measure => simp [RowKit.intOf]; omega
            · have hr' : ¬ (r : Int) < 1 := by omega
              have HT := Lib.hid (show bestL (rnk E k c s) (cs.take (i + 1)) 0 (0, 0) = (b, r) by rw [HS.out, HRK.out]; exact if_neg hr)
              clear HS HRK HR2 HR3
              go_wp2_with fail
              go_roundw
              case rel => exact ⟨i + 1, b, r, rfl, rfl, by go_num, by omega, HT, W4⟩
              case measure => simp [RowKit.intOf]; omega
          | false =>
            rw [hz, if_neg (by simp)] at hrk
            unfold other at hz
            have HRK := Lib.hid (show RK = 0 from hrk)
            have hr : ¬ r < 0 := by omega
            have hr' : ¬ (r : Int) < 0 := by omega
            have HT := Lib.hid (show bestL (rnk E k c s) (cs.take (i + 1)) 0 (0, 0) = (b, r) by rw [HS.out, HRK.out]; exact if_neg hr)
            clear HS HRK HR2 HR3
            go_wp2_with fail
            go_roundw
            case rel => exact ⟨i + 1, b, r, rfl, rfl, by go_num, by omega, HT, W4⟩
            case measure => simp [RowKit.intOf]; omega
    · have ei : i = L := by omega
      subst ei
      have HT := Lib.hid HK.out
      rw [List.take_of_length_le (by omega)] at HT
      have L3 := L2.out.below HB.out
      have R3 := R2.out.below HB.out
      have l0 : wr.drew.cell? ⟨q4, 0, none⟩ = some (.int .i64 A) := L3.drew.cell 0 _ rfl
      have l1 : wr.drew.cell? ⟨q4, 1, none⟩ = some (.int .i64 B) := L3.drew.cell 1 _ rfl
      have r0 : wr.drew.cell? ⟨q3, 0, none⟩ = some (.int .i64 0) := R3.drew.cell 0 _ rfl
      have r1 : wr.drew.cell? ⟨q3, 1, none⟩ = some (.int .i64 0) := R3.drew.cell 1 _ rfl
      have f0 : wr.drew.frozen? ⟨q3, 0, none⟩ = false := R3.drew.free 0 (by simp)
      have f1 : wr.drew.frozen? ⟨q3, 1, none⟩ = false := R3.drew.free 1 (by simp)
      have rl := R3.drew.lt
      have f0' : wr.frozen? ⟨q3, 0, none⟩ = false := R3.free 0 (by simp)
      have f1' : wr.frozen? ⟨q3, 1, none⟩ = false := R3.free 1 (by simp)
      have r0' : wr.cell? ⟨q3, 0, none⟩ = some (.int .i64 0) := R3.cell 0 _ rfl
      have r1' : wr.cell? ⟨q3, 1, none⟩ = some (.int .i64 0) := R3.cell 1 _ rfl
      have HZ := Lib.hid (show w.heap.size ≤ q3 from HQ.out.1)
      have hq43 : q4 ≠ q3 := HQ2.out
      have WB := Lib.hid (Below.drew (blw_trans W2.out HB.out))
      clear L3 R3 L2 R2 N2 D2 HB HQ HQ2 CX CS
      go_wp2_with fail
      go_region
      go_wp2_with fail
      have E0 := (box_res (x := .int .i64 A) (y := .int .i64 B) r0' r1').2
      have E1 := World.cell?_setCell_same wr ⟨q3, 0, none⟩ (.int .i64 A) r0'
      refine bodyPost_ret (v := .tuple #[.int .i64 (b : Int), .agg #[.int .i64 A, .int .i64 B], .nilIface]) (by simp [results, Tryz.results28, go_sem, E0, E1]; try rfl) rfl ?_
      exact ⟨by rw [HT.out], (WB.out.setCell (p := ⟨q3, 0, none⟩) HZ.out _).setCell (p := ⟨q3, 1, none⟩) HZ.out _⟩
end Go.Proofs.YtjlchookakbomaaGreatDoor
namespace Go.Proofs.YtjlchookakbomaaGreatDoor
open Go.RowKit

/-- a speaker: its rules' texts, its map's block, its own block; the blocks of its call begin at base -/
structure Spk where
  t0 : List UInt8
  t1 : List UInt8
  t2 : List UInt8
  t3 : List UInt8
  t4 : List UInt8
  B : Nat
  q : Nat
  base : Nat
def Spk.cells (S : Spk) (p v : Value) : Array Value := #[.string ⟨S.t0.toArray⟩, .string ⟨S.t1.toArray⟩, .string ⟨S.t2.toArray⟩, .string ⟨S.t3.toArray⟩, .string ⟨S.t4.toArray⟩, .map (some S.B), p, v]
/-- it has said so much -/
def SpkAt (S : Spk) (l : List UInt8) (w : World) : Prop :=
  S.base ≤ S.q ∧ ∃ p v, (p = .pointer none ∨ p = .pointer (some ⟨S.q, 6, none⟩)) ∧ w.heap[S.q]? = some (.cells (S.cells p v) 93 (0, 0)) ∧ w.ownsRow S.base 5 1 v l.length (Lib.byteCells l) ∧ v.ownBlock ≠ some S.q
/-- what is kept while it says more -/
def Kp (S : Spk) (w w' : World) : Prop := Below S.base w w' ∧ Lib.OthersKept 5 (some S.q) w w'
theorem Kp.refl (S : Spk) (w : World) : Kp S w w := ⟨Below.refl _ _, Lib.OthersKept.refl _ _ _⟩
theorem Kp.trans {S : Spk} {a b c : World} (h : Kp S a b) (k : Kp S b c) : Kp S a c := ⟨h.1.trans k.1, h.2.trans k.2⟩
theorem others_below {e : TypeId} {b : Option Nat} {w w' : World} (h : Below w.heap.size w w') : Lib.OthersKept e b w w' := fun k _ hk _ _ => (h.block k (Array.getElem?_eq_some_iff.1 hk).1).trans hk
theorem SpkAt.lt {S : Spk} {l : List UInt8} {w : World} (h : SpkAt S l w) : S.base ≤ S.q ∧ S.q < w.heap.size := by
  obtain ⟨h1, p, v, _, h2, _⟩ := h
  exact ⟨h1, (Array.getElem?_eq_some_iff.1 h2).1⟩
theorem Kp.of_below {S : Spk} {l : List UInt8} {w w' : World} (h : SpkAt S l w) (hb : Below w.heap.size w w') : Kp S w w' := ⟨hb.mono (by have := h.lt; omega), others_below hb⟩
theorem row_blw {base n k : Nat} {e : TypeId} {v : Value} {xs : List Value} {w w' : World} (h : w.ownsRow base e k v n xs) (hb : Below w.heap.size w w') : w'.ownsRow base e k v n xs := by
  refine ⟨h.1, ?_⟩
  rcases h.2 with h | ⟨g, cap, cur, h1, h2, h3, h4⟩
  · exact .inl h
  · exact .inr ⟨g, cap, cur, h1, h2, (hb.block g (Array.getElem?_eq_some_iff.1 h3).1).trans h3, h4⟩
theorem SpkAt.below {S : Spk} {l : List UInt8} {w w' : World} (h : SpkAt S l w) (hb : Below w.heap.size w w') : SpkAt S l w' := by
  have hlt := h.lt
  obtain ⟨h1, p, v, h2, h3, h4, h5⟩ := h
  exact ⟨h1, p, v, h2, (hb.block S.q hlt.2).trans h3, row_blw h4 hb, h5⟩
/-- a box is kept -/
theorem Boxed.kp {S : Spk} {w w' : World} {p : Nat} {T : TypeId} {cs : Array Value} (hk : Kp S w w') (h : w.heap[p]? = some (.cells cs T (0, 0))) (hT : T ≠ 5) (hp : p ≠ S.q) : w'.heap[p]? = some (.cells cs T (0, 0)) :=
  hk.2 p _ h (by simpa using hp) (by intro c fz e; injection e with _ e _; exact hT e)

theorem infoSpkB : (Tryz.prog.info? 74).map (fun i => decide (i.size = 0)) = some false := by kernel_rfl
theorem liesSpkB : liesAt Tryz.prog Tryz.prog.depth 93 (8 / Tryz.prog.cellsOf 93) 6 74 1 = true := by kernel_rfl
theorem infoU8 : (Tryz.prog.info? 5).map (fun i => (i.zero, i.size, i.bytes)) = some (some (.int .u8 0), 1, 1) := by kernel_rfl

set_option maxHeartbeats 1000000 in
set_option maxRecDepth 100000 in
/-- copyCheck at a field that has been written -/
theorem bcopy_used (q : Nat) (w : World) (h0 : w.cell? ⟨q, 6, none⟩ = some (.pointer (some ⟨q, 6, none⟩))) :
    Calls Tryz.prog 62 #[.pointer (some ⟨q, 6, none⟩)] w fun e w' => e = .returned (.tuple #[]) ∧ w' = w := by
  obtain ⟨j, hj, _⟩ := Option.map_eq_some_iff.1 infoSpkB
  go_enter Tryz.func62, Tryz.ntmps62
  go_wp2
  rw [Lib.run_neq_ptr_same w _ Tryz.underlying71 hj]
  go_wp2
  go_end0
  exact ⟨rfl, rfl⟩

set_option maxHeartbeats 1000000 in
set_option maxRecDepth 100000 in
/-- copyCheck at a fresh field -/
theorem bcopy_fresh (q : Nat) (w : World) (h0 : w.cell? ⟨q, 6, none⟩ = some (.pointer none)) (hsh : w.shape? q = some (93, 8)) (hfz : w.frozen? ⟨q, 6, none⟩ = false) :
    Calls Tryz.prog 62 #[.pointer (some ⟨q, 6, none⟩)] w fun e w' => e = .returned (.tuple #[]) ∧ w' = w.setCell ⟨q, 6, none⟩ (.pointer (some ⟨q, 6, none⟩)) := by
  obtain ⟨j, hj, hjs⟩ := Option.map_eq_some_iff.1 infoSpkB
  have hj0 : j.size ≠ 0 := by simpa using hjs
  go_enter Tryz.func62, Tryz.ntmps62
  go_wp2
  rw [Lib.run_to_unsafe w ⟨q, 6, none⟩ Tryz.underlying71 Tryz.underlying140 hj hj0 hsh (show (6 : Nat) < 8 by decide)]
  simp only [Result.andThen]
  rw [Oper.upon_value]
  go_wp2
  rw [run_callFunc_extern Tryz.func106 (by kernel_rfl) (by kernel_rfl) (by kernel_rfl) (e := Extern.AbiNoEscape.same) (by kernel_rfl)]
  rw [Lib.run_noEscape]
  simp only [Result.andThen]
  rw [Oper.upon_value]
  go_wp2
  rw [Lib.run_from_unsafe w ⟨q, 6, none⟩ Tryz.underlying140 Tryz.underlying71 hj hsh liesSpkB]
  simp only [Result.andThen]
  rw [Oper.upon_value]
  go_wp2
  go_end0
  exact ⟨rfl, rfl⟩

/-- copyCheck at a speaker -/
theorem bcopy_any (S : Spk) (l : List UInt8) (w : World) (h : SpkAt S l w) :
    Calls Tryz.prog 62 #[.pointer (some ⟨S.q, 6, none⟩)] w fun e w' => e = .returned (.tuple #[]) ∧ w'.heap.size = w.heap.size ∧ (∃ v, w'.heap[S.q]? = some (.cells (S.cells (.pointer (some ⟨S.q, 6, none⟩)) v) 93 (0, 0)) ∧ w'.ownsRow S.base 5 1 v l.length (Lib.byteCells l) ∧ v.ownBlock ≠ some S.q) ∧ Kp S w w' := by
  obtain ⟨hB, p, v, hp, hq, hown, hne⟩ := h
  have c0 : w.cell? ⟨S.q, 6, none⟩ = some p := by rw [Lib.cell_of_heap hq]; rfl
  rcases hp with rfl | rfl
  · refine (bcopy_fresh S.q w c0 (by simp [World.shape?, hq, Spk.cells]) (Lib.frozen_of_heap hq 6)).mono ?_
    rintro e w' ⟨rfl, rfl⟩
    refine ⟨rfl, size_setCell _ _ _, ⟨v, ?_, ?_, hne⟩, ?_⟩
    · simp [World.setCell, Array.getElem?_modify, hq, Spk.cells]
    · refine ⟨hown.1, ?_⟩
      rcases hown.2 with h | ⟨g, cap, cur, h1, h2, h3, h4⟩
      · exact .inl h
      · refine .inr ⟨g, cap, cur, h1, h2, ?_, h4⟩
        rw [Below.heap_setCell _ _ _ _ (fun e => hne (by rw [h1]; exact congrArg some e))]
        exact h3
    · exact ⟨(Below.refl _ w).setCell (p := ⟨S.q, 6, none⟩) hB _, (Lib.OthersKept.refl _ _ w).setCell ⟨S.q, 6, none⟩ rfl _⟩
  · refine (bcopy_used S.q w c0).mono ?_
    rintro e w' ⟨rfl, rfl⟩
    exact ⟨rfl, rfl, ⟨v, hq, hown, hne⟩, Kp.refl _ _⟩

set_option maxHeartbeats 2000000 in
set_option maxRecDepth 100000 in
/-- WriteString -/
theorem bwrite_any (S : Spk) (l s : List UInt8) (w : World) (h : SpkAt S l w) (hlen : l.length + s.length ≤ 140737488355328) :
    Calls Tryz.prog 30 #[.pointer (some ⟨S.q, 6, none⟩), .string ⟨s.toArray⟩] w fun e w' => e = .returned (.tuple #[.int .i64 (s.length : Int), .nilIface]) ∧ SpkAt S (l ++ s) w' ∧ Kp S w w' := by
  obtain ⟨i0, hi, hz0, hz1, hz2⟩ := info_parts infoU8
  have hlt := h.lt
  have hB := h.1
  have CC := Lib.hid (bcopy_any S l w h)
  clear h
  go_enter Tryz.func30, Tryz.ntmps30
  go_wp2_with fail
  refine CC.out.mono ?_
  rintro e w1 ⟨rfl, hsz, ⟨v, hbk, hown, hne⟩, hk1⟩
  have c0 : w1.cell? ⟨S.q, 6, none⟩ = some (.pointer (some ⟨S.q, 6, none⟩)) := by rw [Lib.cell_of_heap hbk]; rfl
  have c1 : w1.cell? ⟨S.q, 7, none⟩ = some v := by rw [Lib.cell_of_heap hbk]; rfl
  go_wp2_with (at_builtin; refine Lib.wpList_append_own_string _ rfl _ _ 72 9 rfl S.base 5 i0 Tryz.underlying72 Tryz.underlying9 hi hz0 hz1 hz2 _ _ _ rfl hown ⟨s.toArray⟩ rfl ?c3 ?c4 ?c5 ?_)
  case c3 => unfold maxLen; simp only [ByteArray.size, List.size_toArray]; omega
  case c4 => simp only [ByteArray.size, List.size_toArray]; omega
  case c5 => omega
  intro v' w2 hown' hgrow _
  have hb2 : w2.heap[S.q]? = some (.cells (S.cells (.pointer (some ⟨S.q, 6, none⟩)) v) 93 (0, 0)) := by
    rw [hgrow.block S.q (by omega) (fun e => hne e.symm)]
    exact hbk
  have d0 : w2.cell? ⟨S.q, 6, none⟩ = some (.pointer (some ⟨S.q, 6, none⟩)) := by rw [Lib.cell_of_heap hb2]; rfl
  have d1 : w2.cell? ⟨S.q, 7, none⟩ = some v := by rw [Lib.cell_of_heap hb2]; rfl
  have f1 : w2.frozen? ⟨S.q, 7, none⟩ = false := Lib.frozen_of_heap hb2 7
  have HO := Lib.hid hown'
  have HG := Lib.hid hgrow
  have H2 := Lib.hid hb2
  obtain ⟨ao, n', cap, rfl⟩ : ∃ ao n' cap, v' = .slice ao n' cap := by
    rcases hown'.2 with ⟨hv, _⟩ | ⟨g, cap, cur, hv, _⟩
    · exact ⟨_, _, _, hv⟩
    · exact ⟨_, _, _, hv⟩
  clear hown' hgrow hb2
  go_wp2_with fail
  go_ret2
  have hl2 : (l ++ s).length = l.length + (⟨s.toArray⟩ : ByteArray).size := by simp [ByteArray.size]
  have hc2 : Lib.byteCells (l ++ s) = Lib.byteCells l ++ Lib.strCells ⟨s.toArray⟩ := by simp [Lib.byteCells, Lib.strCells]
  have hne2 : (Value.slice ao n' cap).ownBlock ≠ some S.q := by
    intro e
    rcases HO.out.2 with ⟨hv, _⟩ | ⟨g, cap', cur, hv, _, hg, _⟩
    · rw [hv] at e; simp [Value.ownBlock] at e
    · rw [hv] at e
      simp only [Value.ownBlock, Option.some.injEq] at e
      rw [e, H2.out] at hg
      simp at hg
  refine ⟨by simp, ⟨hB, _, _, .inr rfl, ?_, ?_, hne2⟩, hk1.trans ⟨?_, ?_⟩⟩
  · have := H2.out
    simp [World.setCell, Array.getElem?_modify, this, Spk.cells]
  · rw [hl2, hc2]
    refine ⟨HO.out.1, ?_⟩
    rcases HO.out.2 with h | ⟨g, cap', cur, h1, h2, h3, h4⟩
    · exact .inl h
    · refine .inr ⟨g, cap', cur, h1, h2, ?_, h4⟩
      rw [Below.heap_setCell _ _ _ _ (fun e => hne2 (by rw [h1]; exact congrArg some e))]
      exact h3
  · exact ((Below.refl _ w1).grown HG.out (by omega) (fun k hk => (hown.lt k hk).1)).setCell (p := ⟨S.q, 7, none⟩) hB _
  · exact ((Lib.OthersKept.refl _ _ w1).grown HG.out (fun g hg => by
      rcases hown.2 with ⟨hv, _⟩ | ⟨g', cap', cur, hv, _, hg', _⟩
      · rw [hv] at hg; simp [Value.ownBlock] at hg
      · rw [hv] at hg
        simp only [Value.ownBlock, Option.some.injEq] at hg
        exact ⟨cur, _, by rw [← hg]; exact hg'⟩)).setCell ⟨S.q, 7, none⟩ rfl _

set_option maxHeartbeats 1000000 in
set_option maxRecDepth 100000 in
/-- String, of a speaker that has said something -/
theorem btext_some (S : Spk) (l : List UInt8) (w : World) (h : SpkAt S l w) (h0 : l ≠ []) (hl : l.length ≤ 140737488355328) :
    Calls Tryz.prog 25 #[.pointer (some ⟨S.q, 6, none⟩)] w fun e w' => e = .returned (.string ⟨l.toArray⟩) ∧ Below S.base w w' := by
  obtain ⟨hB, p, v, hp, hbk, hown, hne⟩ := h
  have hl0 : l.length ≠ 0 := by simpa using h0
  obtain ⟨g, cap, cur, rfl, hbg, hg, hnc, hcm, hcs, htake⟩ : ∃ g cap cur, v = .slice (some ⟨g, 0, none⟩) l.length cap ∧ S.base ≤ g ∧ w.heap[g]? = some (.cells cur 5 (0, 0)) ∧ l.length ≤ cap ∧ cap ≤ maxLen ∧ cur.size = cap * 1 ∧ cur.toList.take (l.length * 1) = Lib.byteCells l := by
    rcases hown.2 with ⟨_, hz⟩ | ⟨g, cap, cur, hv, r⟩
    · exact absurd hz hl0
    · exact ⟨g, cap, cur, hv, r⟩
  have c1 : w.drew.cell? ⟨S.q, 7, none⟩ = some (.slice (some ⟨g, 0, none⟩) l.length cap) := by
    have : w.drew.heap[S.q]? = some (.cells (S.cells p (.slice (some ⟨g, 0, none⟩) l.length cap)) 93 (0, 0)) := hbk
    rw [Lib.cell_of_heap this]; rfl
  have hSD : (Builtin.unsafeSliceData_ #[72] 120 #[.slice (some ⟨g, 0, none⟩) l.length cap]).run Tryz.prog w.drew = .ok (.pointer (some ⟨g, 0, none⟩)) w.drew :=
    Lib.run_unsafeSliceData_row _ _ _ _ _ _ (by omega)
  have hUS : (Builtin.unsafeString_ #[120, 3] 9 #[.pointer (some ⟨g, 0, none⟩), .int .i64 l.length]).run Tryz.prog w.drew = .ok (.string ⟨l.toArray⟩) (w.drew.freeze ⟨g, 0, none⟩ l.length) := by
    refine Lib.run_unsafeString_row w.drew 120 3 9 5 Tryz.underlying120 (by kernel_rfl) g cur.size (by have hg' : w.drew.heap[g]? = some (.cells cur 5 (0, 0)) := hg; simp [World.shape?, hg']) l h0 (by omega) (by unfold maxLen at hcm; omega) ?_
    intro j x hx
    have := hown.cells (g := g) rfl j (.int .u8 x.toNat) (by simp [Lib.byteCells, hx])
    exact this
  have HB := Lib.hid (Lib.below_freeze (Below.drew (Below.refl S.base w)) (p := ⟨g, 0, none⟩) hbg l.length)
  clear hbk hown hg htake hcs hnc
  go_enter Tryz.func25, Tryz.ntmps25
  go_wp2
  go_region
  all_goals (go_wp2; go_ret; exact ⟨rfl, HB.out⟩)

set_option maxHeartbeats 1000000 in
set_option maxRecDepth 100000 in
/-- String, of a speaker that has no row yet -/
theorem btext_nil (S : Spk) (w : World) (p : Value) (hbk : w.heap[S.q]? = some (.cells (S.cells p (.slice none 0 0)) 93 (0, 0))) :
    Calls Tryz.prog 25 #[.pointer (some ⟨S.q, 6, none⟩)] w fun e w' => e = .returned (.string ⟨#[]⟩) ∧ Below S.base w w' := by
  have hUS : ∀ W q, (Builtin.unsafeString_ #[120, 3] 9 #[.pointer q, .int .i64 0]).run Tryz.prog W = .ok (.string .empty) W := fun W q => Lib.run_unsafeString_none W _ _ _ q
  have c1 : w.drew.cell? ⟨S.q, 7, none⟩ = some (.slice none 0 0) := by
    have : w.drew.heap[S.q]? = some (.cells (S.cells p (.slice none 0 0)) 93 (0, 0)) := hbk
    rw [Lib.cell_of_heap this]; rfl
  have hSD : (Builtin.unsafeSliceData_ #[72] 120 #[.slice none 0 0]).run Tryz.prog w.drew = .ok (.pointer none) w.drew := rfl
  clear hbk
  go_enter Tryz.func25, Tryz.ntmps25
  go_wp2
  go_region
  all_goals (go_wp2; go_ret; exact ⟨rfl, Below.drew (Below.refl S.base w)⟩)
set_option maxHeartbeats 1000000 in
set_option maxRecDepth 100000 in
/-- .. that has a row of no bytes -/
theorem btext_room (S : Spk) (w : World) (p : Value) (g cap : Nat) (hc : cap ≠ 0) (hbk : w.heap[S.q]? = some (.cells (S.cells p (.slice (some ⟨g, 0, none⟩) 0 cap)) 93 (0, 0))) :
    Calls Tryz.prog 25 #[.pointer (some ⟨S.q, 6, none⟩)] w fun e w' => e = .returned (.string ⟨#[]⟩) ∧ Below S.base w w' := by
  have hUS : ∀ W q, (Builtin.unsafeString_ #[120, 3] 9 #[.pointer q, .int .i64 0]).run Tryz.prog W = .ok (.string .empty) W := fun W q => Lib.run_unsafeString_none W _ _ _ q
  have c1 : w.drew.cell? ⟨S.q, 7, none⟩ = some (.slice (some ⟨g, 0, none⟩) 0 cap) := by
    have : w.drew.heap[S.q]? = some (.cells (S.cells p (.slice (some ⟨g, 0, none⟩) 0 cap)) 93 (0, 0)) := hbk
    rw [Lib.cell_of_heap this]; rfl
  have hSD : (Builtin.unsafeSliceData_ #[72] 120 #[.slice (some ⟨g, 0, none⟩) 0 cap]).run Tryz.prog w.drew = .ok (.pointer (some ⟨g, 0, none⟩)) w.drew :=
    Lib.run_unsafeSliceData_row _ _ _ _ _ _ hc
  clear hbk hc
  go_enter Tryz.func25, Tryz.ntmps25
  go_wp2
  go_region
  all_goals (go_wp2; go_ret; exact ⟨rfl, Below.drew (Below.refl S.base w)⟩)
set_option maxHeartbeats 1000000 in
set_option maxRecDepth 100000 in
/-- .. that has a row of no room -/
theorem btext_noroom (S : Spk) (w : World) (p : Value) (g : Nat) (cur : Array Value) (fz : Nat × Nat) (hB : S.base ≤ w.heap.size) (hg : w.heap[g]? = some (.cells cur 5 fz)) (hbk : w.heap[S.q]? = some (.cells (S.cells p (.slice (some ⟨g, 0, none⟩) 0 0)) 93 (0, 0))) :
    Calls Tryz.prog 25 #[.pointer (some ⟨S.q, 6, none⟩)] w fun e w' => e = .returned (.string ⟨#[]⟩) ∧ Below S.base w w' := by
  have hUS : ∀ W q, (Builtin.unsafeString_ #[120, 3] 9 #[.pointer q, .int .i64 0]).run Tryz.prog W = .ok (.string .empty) W := fun W q => Lib.run_unsafeString_none W _ _ _ q
  have hlt : S.q < w.heap.size := (Array.getElem?_eq_some_iff.1 hbk).1
  have c1 : w.drew.cell? ⟨S.q, 7, none⟩ = some (.slice (some ⟨g, 0, none⟩) 0 0) := by
    have : w.drew.heap[S.q]? = some (.cells (S.cells p (.slice (some ⟨g, 0, none⟩) 0 0)) 93 (0, 0)) := hbk
    rw [Lib.cell_of_heap this]; rfl
  have hSD : (Builtin.unsafeSliceData_ #[72] 120 #[.slice (some ⟨g, 0, none⟩) 0 0]).run Tryz.prog w.drew = .ok (.pointer (some ⟨w.drew.heap.size, 0, none⟩)) (w.drew.alloc (.view ⟨g, 0, none⟩ 5)) :=
    Lib.run_unsafeSliceData_zero w.drew _ _ 5 Tryz.underlying120 ⟨g, 0, none⟩ 0 (5, cur.size) (by have hg' : w.drew.heap[g]? = some (.cells cur 5 fz) := hg; simp [World.shape?, hg'])
  have c2 : (w.drew.alloc (.view ⟨g, 0, none⟩ 5)).cell? ⟨S.q, 7, none⟩ = some (.slice (some ⟨g, 0, none⟩) 0 0) := by
    have : (w.drew.alloc (.view ⟨g, 0, none⟩ 5)).heap[S.q]? = _ := (Lib.alloc_old w.drew _ S.q hlt).trans hbk
    rw [Lib.cell_of_heap this]; rfl
  have c3 : (w.alloc (.view ⟨g, 0, none⟩ 5)).drew.cell? ⟨S.q, 7, none⟩ = some (.slice (some ⟨g, 0, none⟩) 0 0) := c2
  have c0 : w.cell? ⟨S.q, 7, none⟩ = some (.slice (some ⟨g, 0, none⟩) 0 0) := c1
  clear hbk hg hlt
  go_enter Tryz.func25, Tryz.ntmps25
  go_wp2
  go_region
  all_goals (go_wp2; go_ret; exact ⟨rfl, (Below.drew (Below.refl S.base w)).alloc hB _⟩)
/-- String -/
theorem btext_any (S : Spk) (l : List UInt8) (w : World) (h : SpkAt S l w) (hl : l.length ≤ 140737488355328) :
    Calls Tryz.prog 25 #[.pointer (some ⟨S.q, 6, none⟩)] w fun e w' => e = .returned (.string ⟨l.toArray⟩) ∧ Below S.base w w' := by
  cases l with
  | cons x r => exact btext_some S (x :: r) w h (by simp) hl
  | nil =>
    have hlt := h.lt
    obtain ⟨hB, p, v, hp, hbk, hown, hne⟩ := h
    rcases hown.2 with ⟨rfl, _⟩ | ⟨g, cap, cur, rfl, hbg, hg, _⟩
    · exact btext_nil S w p hbk
    · by_cases hc : cap = 0
      · subst hc
        exact btext_noroom S w p g cur _ (by omega) hg hbk
      · exact btext_room S w p g cap hc hbk
end Go.Proofs.YtjlchookakbomaaGreatDoor
namespace Go.Proofs.YtjlchookakbomaaGreatDoor
open Go.RowKit Go.MapKept
/-- the block holds the map of these keys and values -/
def KindsAt (B : Nat) (l : List (List UInt8 × Bool)) (w : World) : Prop :=
  ∃ es c, w.heap[B]? = some (.map es c) ∧ es.toList.map (fun e => (e.key, e.val)) = l.map fun p => (Value.string ⟨p.1.toArray⟩, Value.bool p.2)
theorem bytes_list (a b : List UInt8) : ((⟨a.toArray⟩ : ByteArray) == ⟨b.toArray⟩) = (b == a) := by
  rw [Bool.eq_iff_iff, bytes_beq]
  simp
  exact eq_comm
theorem find_kind (t : List UInt8) : ∀ (es : List MapEntry) (l : List (List UInt8 × Bool)) (i : Nat), es.map (fun e => (e.key, e.val)) = l.map (fun p => (Value.string ⟨p.1.toArray⟩, Value.bool p.2)) →
    (∀ p, l.find? (fun p => p.1 == t) = some p → ∃ j, Instr.findNow .string (.string ⟨t.toArray⟩) es i = some (some (j, .bool p.2))) ∧ (l.find? (fun p => p.1 == t) = none → Instr.findNow .string (.string ⟨t.toArray⟩) es i = some none)
  | [], l, i, h => by
    cases l with
    | nil => exact ⟨by simp, fun _ => rfl⟩
    | cons p r => simp at h
  | e :: es, l, i, h => by
    cases l with
    | nil => simp at h
    | cons q r =>
      simp only [List.map_cons, List.cons.injEq] at h
      obtain ⟨h1, h2⟩ := h
      injection h1 with h3 h4
      have ih := find_kind t es r (i + 1) h2
      unfold Instr.findNow
      rw [h3, List.find?_cons]
      show _ ∧ _
      simp only [Instr.sameNow, bytes_list]
      cases hq : q.1 == t with
      | true => exact ⟨fun p hp => by obtain rfl : q = p := by simpa using hp
                                      exact ⟨i, by rw [h4]⟩, fun hp => by simp at hp⟩
      | false => exact ih
theorem kinds_new (w : World) : KindsAt w.heap.size [] (w.alloc (.map #[] 0)) := ⟨#[], 0, top_alloc _ _ _ rfl, rfl⟩
theorem KindsAt.below {B : Nat} {l : List (List UInt8 × Bool)} {w w' : World} (h : KindsAt B l w) (hb : Below w.heap.size w w') : KindsAt B l w' := by
  obtain ⟨es, c, h1, h2⟩ := h
  have hlt : B < w.heap.size := (Array.getElem?_eq_some_iff.1 h1).1
  exact ⟨es, c, (hb.block B hlt).trans h1, h2⟩
theorem KindsAt.lt {B : Nat} {l : List (List UInt8 × Bool)} {w : World} (h : KindsAt B l w) : B < w.heap.size := by
  obtain ⟨es, c, h1, _⟩ := h
  exact (Array.getElem?_eq_some_iff.1 h1).1
section
variable {P : Program} (T K E : TypeId) (hT : P.underlying T = some (.map K E)) (hK : P.underlying K = some .string)
include hT hK
theorem KindsAt.look {B : Nat} {l : List (List UInt8 × Bool)} {w : World} (h : KindsAt B l w) {t : List UInt8} {p : List UInt8 × Bool} (hp : l.find? (fun p => p.1 == t) = some p) :
    (Instr.lookup T (.map (some B)) (.string ⟨t.toArray⟩) true).run P w = .ok (.tuple #[.bool p.2, .bool true]) w := by
  obtain ⟨es, c, h1, h2⟩ := h
  obtain ⟨j, hj⟩ := (find_kind t es.toList l 0 h2).1 p hp
  exact map_look T K E hT hK es c B j _ _ w h1 hj
theorem KindsAt.none {B : Nat} {l : List (List UInt8 × Bool)} {w : World} (h : KindsAt B l w) {t : List UInt8} (hz : (zeroValue E).run P w = .ok (.bool false) w) (hp : l.find? (fun p => p.1 == t) = .none) :
    (Instr.lookup T (.map (some B)) (.string ⟨t.toArray⟩) true).run P w = .ok (.tuple #[.bool false, .bool false]) w := by
  obtain ⟨es, c, h1, h2⟩ := h
  exact map_none T K E hT hK es c B _ _ w hz h1 ((find_kind t es.toList l 0 h2).2 hp)
theorem KindsAt.put {B : Nat} {l : List (List UInt8 × Bool)} {w : World} (h : KindsAt B l w) {t : List UInt8} (b : Bool) (hp : l.find? (fun p => p.1 == t) = .none) :
    ∃ w', (Instr.mapUpdate T (.map (some B)) (.string ⟨t.toArray⟩) (.bool b)).run P w = .ok () w' ∧ KindsAt B (l ++ [(t, b)]) w' ∧ ∀ base W, base ≤ B → Below base W w → Below base W w' := by
  obtain ⟨es, c, h1, h2⟩ := h
  have hlt : B < w.heap.size := (Array.getElem?_eq_some_iff.1 h1).1
  have hf := (find_kind t es.toList l 0 h2).2 hp
  refine ⟨{ w with heap := w.heap.setIfInBounds B (.map (es.push { key := .string ⟨t.toArray⟩, val := .bool b, born := c }) (c + 1)) }, ?_, ⟨_, _, (heap_set h1).1, ?_⟩, fun base W hB hb => ?_⟩
  · simp [Instr.mapUpdate, run_underlying hT, MapKept.run_getObj_map h1, run_checkKey hK (show IsKey .string (.string ⟨t.toArray⟩) from trivial), run_findKey hK hf, MapKept.run_setObj_map _ h1, Result.andThen]
  · rw [Array.toList_push, List.map_append, h2, List.map_append]; rfl
  · exact ⟨hb.os, hb.tape, hb.output, by simpa using hb.size, fun k hk => ((heap_set h1).2 k (by omega)).trans (hb.block k hk)⟩
end
end Go.Proofs.YtjlchookakbomaaGreatDoor
namespace Go.Proofs.YtjlchookakbomaaGreatDoor
open Go.RowKit Go.MapKept
/-- the block holds the map of these keys and values -/
def MapAt {α : Type} (val : α → Value) (B : Nat) (l : List (List UInt8 × α)) (w : World) : Prop :=
  ∃ es c, w.heap[B]? = some (.map es c) ∧ es.toList.map (fun e => (e.key, e.val)) = l.map fun p => (Value.string ⟨p.1.toArray⟩, val p.2)
section
variable {α : Type} {val : α → Value}
theorem find_val (t : List UInt8) : ∀ (es : List MapEntry) (l : List (List UInt8 × α)) (i : Nat), es.map (fun e => (e.key, e.val)) = l.map (fun p => (Value.string ⟨p.1.toArray⟩, val p.2)) →
    (∀ p, l.find? (fun p => p.1 == t) = some p → ∃ j, Instr.findNow .string (.string ⟨t.toArray⟩) es i = some (some (j, val p.2))) ∧ (l.find? (fun p => p.1 == t) = none → Instr.findNow .string (.string ⟨t.toArray⟩) es i = some none)
  | [], l, i, h => by
    cases l with
    | nil => exact ⟨by simp, fun _ => rfl⟩
    | cons p r => simp at h
  | e :: es, l, i, h => by
    cases l with
    | nil => simp at h
    | cons q r =>
      simp only [List.map_cons, List.cons.injEq] at h
      obtain ⟨h1, h2⟩ := h
      injection h1 with h3 h4
      have ih := find_val t es r (i + 1) h2
      unfold Instr.findNow
      rw [h3, List.find?_cons]
      show _ ∧ _
      simp only [Instr.sameNow, bytes_list]
      cases hq : q.1 == t with
      | true => exact ⟨fun p hp => by obtain rfl : q = p := by simpa using hp
                                      exact ⟨i, by rw [h4]⟩, fun hp => by simp at hp⟩
      | false => exact ih
theorem map_made (w : World) : MapAt val w.heap.size [] (w.alloc (.map #[] 0)) := ⟨#[], 0, top_alloc _ _ _ rfl, rfl⟩
variable {B : Nat} {l : List (List UInt8 × α)} {w w' : World}
theorem MapAt.below (h : MapAt val B l w) (hb : Below w.heap.size w w') : MapAt val B l w' := by
  obtain ⟨es, c, h1, h2⟩ := h
  have hlt : B < w.heap.size := (Array.getElem?_eq_some_iff.1 h1).1
  exact ⟨es, c, (hb.block B hlt).trans h1, h2⟩
theorem MapAt.kept (h : MapAt val B l w) (hb : w'.heap[B]? = w.heap[B]?) : MapAt val B l w' := by
  obtain ⟨es, c, h1, h2⟩ := h
  exact ⟨es, c, hb.trans h1, h2⟩
theorem MapAt.lt (h : MapAt val B l w) : B < w.heap.size := by
  obtain ⟨es, c, h1, _⟩ := h
  exact (Array.getElem?_eq_some_iff.1 h1).1
variable {P : Program} (T K E : TypeId) (hT : P.underlying T = some (.map K E)) (hK : P.underlying K = some .string)
include hT hK
/-- the value alone -/
theorem MapAt.look1 (h : MapAt val B l w) {t : List UInt8} {p : List UInt8 × α} (hp : l.find? (fun p => p.1 == t) = some p) :
    (Instr.lookup T (.map (some B)) (.string ⟨t.toArray⟩) false).run P w = .ok (val p.2) w := by
  obtain ⟨es, c, h1, h2⟩ := h
  obtain ⟨j, hj⟩ := (find_val t es.toList l 0 h2).1 p hp
  simp [Instr.lookup, run_underlying hT, MapKept.run_getObj_map h1, run_checkKey hK (show IsKey .string (.string ⟨t.toArray⟩) from trivial), run_findKey hK hj, Result.andThen]
theorem MapAt.none1 (h : MapAt val B l w) {t : List UInt8} {z : Value} (hz : (zeroValue E).run P w = .ok z w) (hp : l.find? (fun p => p.1 == t) = .none) :
    (Instr.lookup T (.map (some B)) (.string ⟨t.toArray⟩) false).run P w = .ok z w := by
  obtain ⟨es, c, h1, h2⟩ := h
  have hj := (find_val t es.toList l 0 h2).2 hp
  simp [Instr.lookup, run_underlying hT, MapKept.run_getObj_map h1, run_checkKey hK (show IsKey .string (.string ⟨t.toArray⟩) from trivial), run_findKey hK hj, hz, Result.andThen]
theorem MapAt.put (h : MapAt val B l w) {t : List UInt8} (b : α) (hp : l.find? (fun p => p.1 == t) = .none) :
    ∃ w', (Instr.mapUpdate T (.map (some B)) (.string ⟨t.toArray⟩) (val b)).run P w = .ok () w' ∧ MapAt val B (l ++ [(t, b)]) w' ∧ (∀ k, k ≠ B → w'.heap[k]? = w.heap[k]?) ∧ w'.heap.size = w.heap.size ∧ ∀ base W, base ≤ B → Below base W w → Below base W w' := by
  obtain ⟨es, c, h1, h2⟩ := h
  have hf := (find_val t es.toList l 0 h2).2 hp
  refine ⟨{ w with heap := w.heap.setIfInBounds B (.map (es.push { key := .string ⟨t.toArray⟩, val := val b, born := c }) (c + 1)) }, ?_, ⟨_, _, (heap_set h1).1, ?_⟩, fun k hk => (heap_set h1).2 k hk, by simp, fun base W hB hb => ?_⟩
  · simp [Instr.mapUpdate, run_underlying hT, MapKept.run_getObj_map h1, run_checkKey hK (show IsKey .string (.string ⟨t.toArray⟩) from trivial), run_findKey hK hf, MapKept.run_setObj_map _ h1, Result.andThen]
  · rw [Array.toList_push, List.map_append, h2, List.map_append]; rfl
  · exact ⟨hb.os, hb.tape, hb.output, by simpa using hb.size, fun k hk => ((heap_set h1).2 k (by omega)).trans (hb.block k hk)⟩
end
end Go.Proofs.YtjlchookakbomaaGreatDoor
namespace Go.Proofs.YtjlchookakbomaaGreatDoor
open Go.RowKit Ms
open Dcm (okD)
def argV (a : Ag) : Value := .agg (acells a).toArray
abbrev mapOf (args : List Ag) : List (List UInt8 × Ag) := args.map fun a => (a.name, a)
theorem find_mapOf (args : List Ag) (t : List UInt8) : (mapOf args).find? (fun p => p.1 == t) = (args.find? fun a => a.name == t).map fun a => (a.name, a) := by
  unfold mapOf
  rw [List.find?_map]
  rfl
theorem zero_arg (w : World) : (zeroValue 70).run Tryz.prog w = .ok (argV ⟨[], false, 0, 0, []⟩) w := by kernel_rfl
theorem look_arg {B : Nat} {args : List Ag} {w : World} (h : MapAt argV B (mapOf args) w) (t : List UInt8) : (Instr.lookup 68 (.map (some B)) (.string ⟨t.toArray⟩) false).run Tryz.prog w = .ok (argV (argOf args t)) w := by
  unfold argOf
  cases hf : args.find? (fun a => a.name == t) with
  | none => exact h.none1 (P := Tryz.prog) 68 9 70 Tryz.underlying68 Tryz.underlying9 (zero_arg w) (by rw [find_mapOf, hf]; rfl)
  | some a => exact h.look1 (P := Tryz.prog) 68 9 70 Tryz.underlying68 Tryz.underlying9 (p := (a.name, a)) (by rw [find_mapOf, hf]; rfl)
/-- the listed variables that saying needs -/
structure EvW (w : World) : Prop where
  t : TR w
  k : KindsW w
  n : NumerW w
theorem EvW.below {w w' : World} (h : EvW w) (hb : Below w.heap.size w w') : EvW w' := ⟨h.t.below hb, h.k.below hb, h.n.below hb⟩
/-- a speaker that has said l, of these args; all that was there at first is still there -/
structure Talk (S : Spk) (W0 : World) (args : List Ag) (l : List UInt8) (w : World) : Prop where
  spk : SpkAt S l w
  map : MapAt argV S.B (mapOf args) w
  base : Below W0.heap.size W0 w
  sb : S.base = W0.heap.size
  ne : S.B ≠ S.q
theorem Talk.below {S : Spk} {W0 : World} {args : List Ag} {l : List UInt8} {w w' : World} (h : Talk S W0 args l w) (hb : Below w.heap.size w w') : Talk S W0 args l w' := ⟨h.spk.below hb, h.map.below hb, blw_trans h.base hb, h.sb, h.ne⟩
theorem Talk.step {S : Spk} {W0 : World} {args : List Ag} {l l' : List UInt8} {w w' : World} (h : Talk S W0 args l w) (hk : Kp S w w') (hs : SpkAt S l' w') : Talk S W0 args l' w' := by
  refine ⟨hs, ?_, ?_, h.sb, h.ne⟩
  · obtain ⟨es, c, h1, h2⟩ := h.map
    exact ⟨es, c, hk.2 S.B _ h1 (by simpa using h.ne) (by intro c fz e; cases e), h2⟩
  · have := hk.1
    rw [h.sb] at this
    exact h.base.trans this
theorem Talk.kp {S : Spk} {W0 : World} {args : List Ag} {l : List UInt8} {w w' : World} (h : Talk S W0 args l w) (hb : Below w.heap.size w w') : Kp S w w' := Kp.of_below h.spk hb
/-- what a speaker's step leaves -/
def OneP (S : Spk) (W0 : World) (args : List Ag) (l : List UInt8) (w : World) (R : Option (List UInt8)) (n : Nat) (e : Ending) (w' : World) : Prop :=
  e = .returned (errN (roomE R)) ∧ ∃ l', Talk S W0 args l' w' ∧ Kp S w w' ∧ SaidIs R l l' ∧ l'.length ≤ l.length + n
theorem errN_one : errN 1 = errV 1 := if_neg (by decide)
theorem errN_zero : errN 0 = .nilIface := rfl

set_option maxRecDepth 100000 in
set_option maxHeartbeats 1000000 in
theorem snumber_any (S : Spk) (W0 : World) (args : List Ag) (l : List UInt8) (c s : Int) (w : World) (h : Talk S W0 args l w) (hE : EvW W0) (hd : okD c s) (hl : l.length ≤ 100000000000) :
    Calls Tryz.prog 109 #[.pointer (some ⟨S.q, 0, none⟩), .agg #[.int .i64 c, .int .i64 s]] w fun e w' => e = .returned .nilIface ∧ Talk S W0 args (l ++ numM c s) w' ∧ Kp S w w' := by
  have CN := Lib.hid fun (wx : World) (hb : Below W0.heap.size W0 wx) => numeral_any c s wx (hE.below hb).n (hE.below hb).t.p (hE.below hb).t.m hd
  have hlen := numM_len c s hd
  generalize numM c s = t at *
  have T0 := Lib.hid h
  have W1 := Lib.hid (blw_alloc w (.cells #[.int .i64 c, .int .i64 s] 64))
  have T1 := Lib.hid (h.below W1.out)
  have CNi := Lib.hid (CN.out _ T1.out.base)
  have hq := h.spk.lt.2
  clear h hE hd CN
  go_enter Tryz.func109, Tryz.ntmps109
  go_wp2_with fail
  refine CNi.out.mono ?_
  rintro e w2 ⟨rfl, hb⟩
  have T2 := Lib.hid (T1.out.below hb)
  have W2 := Lib.hid (blw_trans W1.out hb)
  have CW := Lib.hid (bwrite_any S l t w2 T2.out.spk (by omega))
  clear hb W1 T1 CNi
  go_wp2_with fail
  refine CW.out.mono ?_
  rintro e w3 ⟨rfl, hs, hk⟩
  have T3 := Lib.hid (T2.out.step hk hs)
  have K3 := Lib.hid ((T0.out.kp W2.out).trans hk)
  clear hs hk CW T2 W2
  go_wp2_with fail
  go_ret
  exact ⟨rfl, T3.out, K3.out⟩
theorem case_any {f : Nat} (K : Int) (T : List UInt8) (O : Int) (v : Value) (cs : Cs) (t0 t1 t2 t3 t4 : List UInt8) (c s : Int) (w : World) (hT : TR w) (hK : KindsW w) (hS : SetFine t0 t1 t2 t3 t4) (hd : okD c s) (hO : 0 ≤ O ∧ O ≤ 9) (hc : CassAt f w v cs) (hl : cs.length ≤ 2000000) :
    Calls Tryz.prog 28 #[.agg #[.int .i64 K, .string ⟨T.toArray⟩, .int .i64 O, v], .agg #[.string ⟨t0.toArray⟩, .string ⟨t1.toArray⟩, .string ⟨t2.toArray⟩, .string ⟨t3.toArray⟩, .string ⟨t4.toArray⟩], .agg #[.int .i64 c, .int .i64 s]] w fun e w' => e = .returned (caseV (evS [t0, t1, t2, t3, t4]) cs c s O) ∧ Below w.heap.size w w' := by
  by_cases h : addOk c s (-O) 0
  · have e : (evS [t0, t1, t2, t3, t4]).less c s O = some (Dcm.addC c s (-O) 0, Dcm.addS s 0) := if_pos h
    unfold caseV
    rw [e]
    exact case_yes K T O v cs t0 t1 t2 t3 t4 c s w hT hK hS hd hO hc hl h
  · have e : (evS [t0, t1, t2, t3, t4]).less c s O = none := if_neg h
    unfold caseV
    rw [e]
    exact case_no K T O v t0 t1 t2 t3 t4 c s w h hO
end Go.Proofs.YtjlchookakbomaaGreatDoor
