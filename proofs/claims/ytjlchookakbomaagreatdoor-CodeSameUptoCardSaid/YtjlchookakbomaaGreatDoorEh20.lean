/- The walk of names.of. Conditions: the message is one, of lists of at most 2000000. -/
import Derived.Test.YtjlchookakbomaaGreatDoorEh19
import Derived.Test.YtjlchookakbomaaGreatDoorEh10
import Derived.Test.YtjlchookakbomaaGreatDoorEh2
import Derived.Test.YtjlchookakbomaaGreatDoorEh14
namespace Go.Proofs.YtjlchookakbomaaGreatDoor
open Go.RowKit Ms
open Dcm (okD)
def Spk.set (S : Spk) : List (List UInt8) := [S.t0, S.t1, S.t2, S.t3, S.t4]
/-- nodes of depth f are said -/
def SayOk (S : Spk) (W0 : World) (args : List Ag) (f : Nat) : Prop :=
  ∀ (v : Value) (m : List Nd) (w : World) (l : List UInt8) (mc ms : Int), MsgAt f W0 v m → m.length ≤ 2000000 → WfM (fun t => (valA args t).1) f m → Talk S W0 args l w → okD mc ms → l.length + cnt f m * 4000000 ≤ 100000000000 →
    Calls Tryz.prog 34 #[.pointer (some ⟨S.q, 0, none⟩), v, .agg #[.int .i64 mc, .int .i64 ms]] w fun e w' => OneP S W0 args l w (saidM (evS S.set) (valA args) f mc ms m) (cnt f m * 4000000) e w'
/-- the args are right -/
structure ArgsFine (args : List Ag) : Prop where
  num : ∀ a ∈ args, a.num = true → okD a.co a.sc
  txt : ∀ a ∈ args, a.txt.length ≤ 2000000
theorem sum_mem : ∀ (l : List Nat) (a : Nat), a ∈ l → a ≤ l.sum
  | b :: r, a, h => by
    rw [List.sum_cons]
    rcases List.mem_cons.1 h with rfl | h
    · omega
    · have := sum_mem r a h; omega
/-- a node's case that is said -/
theorem body_at {f : Nat} {nm : List UInt8 → Bool} {K O : Int} {T : List UInt8} {cs : Cs} (hK : K = 4 ∨ K = 5) (hw : WfX nm (WfM nm f) (.mk K T O cs)) {i : Nat} (hi : i < cs.length) :
    ∃ y, cs[i]? = some y ∧ bodyI (.mk K T O cs) i = y.2 ∧ WfM nm f y.2 ∧ cnt f y.2 ≤ (((casesOf (.mk K T O cs)).map (·.2)).map (cnt f)).sum := by
  refine ⟨cs[i], List.getElem?_eq_getElem hi, ?_, hw.body hK _ (List.getElem_mem hi), ?_⟩
  · show ((cs[i]?).map (·.2)).getD [] = _
    rw [List.getElem?_eq_getElem hi]
    rfl
  · refine sum_mem _ _ ?_
    rw [show casesOf (.mk K T O cs) = cs from if_pos hK, List.map_map]
    exact List.mem_map.2 ⟨cs[i], List.getElem_mem hi, rfl⟩
theorem obj_made (w : World) (vs : Array Value) (t : TypeId) : (w.alloc (.cells vs t)).heap[w.heap.size]? = some (.cells vs t (0, 0)) := by
  show (w.heap.push _)[w.heap.size]? = _
  simp
theorem cell_far2 {w : World} {p q j : Nat} {v x y : Value} (h : w.cell? ⟨q, j, none⟩ = some v) (hn : p ≠ q) : ((w.setCell ⟨p, 0, none⟩ x).setCell ⟨p, 1, none⟩ y).cell? ⟨q, j, none⟩ = some v :=
  (World.cell?_setCell_far _ _ _ _ hn).trans ((World.cell?_setCell_far _ _ _ _ hn).trans h)
theorem told_some {R : Option (List UInt8)} {t l : List UInt8} (h : R = some t) : SaidIs R l (l ++ t) := fun u hu => by
  rw [h] at hu
  injection hu with hu
  rw [hu]

set_option maxRecDepth 100000 in
set_option maxHeartbeats 8000000 in
theorem one_any (S : Spk) (W0 : World) (args : List Ag) (f : Nat) (hE : EvW W0) (hS : SetFine S.t0 S.t1 S.t2 S.t3 S.t4) (hA : ArgsFine args) (IH : SayOk S W0 args f) (x : Nd) (a : Option Addr) (n c : Nat) (w : World) (l : List UInt8) (mc ms : Int)
    (hw : WfX (fun t => (valA args t).1) (WfM (fun t => (valA args t).1) f) x) (hc : CassAt f W0 (.slice a n c) x.cases) (hxt : x.text.length ≤ 2000000) (hxc : x.cases.length ≤ 2000000) (hT : Talk S W0 args l w) (hm : okD mc ms) (hl : l.length + (1 + (((casesOf x).map (·.2)).map (cnt f)).sum) * 4000000 ≤ 100000000000) :
    Calls Tryz.prog 65 #[.pointer (some ⟨S.q, 0, none⟩), .agg #[.int .i64 x.kind, .string ⟨x.text.toArray⟩, .int .i64 x.off, .slice a n c], .agg #[.int .i64 mc, .int .i64 ms]] w fun e w' => OneP S W0 args l w (saidX (evS S.set) (valA args) (saidM (evS S.set) (valA args) f) mc ms x) ((1 + (((casesOf x).map (·.2)).map (cnt f)).sum) * 4000000) e w' := by
  obtain ⟨K, T, O, cs⟩ := x
  have HW := Lib.hid hw
  have hkind : K = 1 ∨ K = 2 ∨ K = 3 ∨ K = 4 ∨ K = 5 ∨ K = 6 := hw.kind
  have hoff : K = 4 → 0 ≤ O ∧ O ≤ 9 := hw.off
  have hnum : K = 3 ∨ K = 4 → (valA args T).1 = true := hw.num
  have hsome : K = 4 ∨ K = 5 → cs ≠ [] := hw.some
  have honce : K = 4 ∨ K = 5 → (cs.map (·.1)).Nodup := hw.once
  obtain ⟨NN, hNN⟩ : ∃ NN, NN = (1 + (((casesOf (.mk K T O cs)).map (·.2)).map (cnt f)).sum) := ⟨_, rfl⟩
  have HBD := Lib.hid fun (hK : K = 4 ∨ K = 5) (i : Nat) (hi : i < cs.length) => body_at hK hw hi
  rw [← hNN] at hl ⊢
  have HN := Lib.hid hNN
  obtain ⟨R, hR⟩ : ∃ R, R = saidX (evS S.set) (valA args) (saidM (evS S.set) (valA args) f) mc ms (.mk K T O cs) := ⟨_, rfl⟩
  rw [← hR]
  have hval := val_arg args T
  have hbn := fun h => hA.num _ (arg_in (args := args) (t := T) h) h
  have htx := arg_txt hA.txt T
  rw [hval] at hnum
  have HLK := Lib.hid fun (wx : World) (h : MapAt argV S.B (mapOf args) wx) => look_arg h T
  have HR1 := Lib.hid (show K = 1 → R = some T from fun e => by subst e; exact hR)
  have HR6 := Lib.hid (show K = 6 → R = some (numM mc ms) from fun e => by subst e; exact hR)
  have HR3 := Lib.hid (show K = 3 → R = some (numM (argOf args T).co (argOf args T).sc) from fun e => by
    subst e
    rw [hR]
    show some (numM (valA args T).2.1 (valA args T).2.2.1) = _
    rw [hval])
  have HR2 := Lib.hid (show K = 2 → R = some (if (argOf args T).num then Byt.decText (argOf args T).co (argOf args T).sc else (argOf args T).txt) from fun e => by
    subst e
    rw [hR]
    show some (if (valA args T).1 then Byt.decText (valA args T).2.1 (valA args T).2.2.1 else (valA args T).2.2.2) = _
    rw [hval])
  have HR4 := Lib.hid (show K = 4 → R = match (evS S.set).less (argOf args T).co (argOf args T).sc O with | none => none | some l => saidM (evS S.set) (valA args) f l.1 l.2 (bodyI (.mk K T O cs) (cntI (evS S.set) cs (argOf args T).co (argOf args T).sc l.1 l.2)) from fun e => by
    subst e
    rw [hR]
    show (match (evS S.set).less (valA args T).2.1 (valA args T).2.2.1 O with | none => none | some l => saidM (evS S.set) (valA args) f l.1 l.2 (bodyI (.mk 4 T O cs) (cntI (evS S.set) cs (valA args T).2.1 (valA args T).2.2.1 l.1 l.2))) = _
    rw [hval])
  have HR5 := Lib.hid (show K = 5 → R = saidM (evS S.set) (valA args) f mc ms (bodyI (.mk K T O cs) (choI cs (argOf args T).txt)) from fun e => by
    subst e
    rw [hR]
    show saidM (evS S.set) (valA args) f mc ms (bodyI (.mk 5 T O cs) (choI cs (valA args T).2.2.2)) = _
    rw [hval])
  clear hR hNN hval hw
  generalize argOf args T = ag at *
  obtain ⟨an, bn, co, sc, tx⟩ := ag
  dsimp only [Nd.kind, Nd.text, Nd.off, Nd.cases] at *
  have hN1 : 1 ≤ NN := by have := HN.out; omega
  have T0 := Lib.hid hT
  have XB := Lib.hid ((Boxed.made w #[.int .i64 K, .string ⟨T.toArray⟩, .int .i64 O, .slice a n c] 51).alloc (.cells #[.int .i64 mc, .int .i64 ms] 64))
  have MB := Lib.hid (Boxed.made (w.alloc (.cells #[.int .i64 K, .string ⟨T.toArray⟩, .int .i64 O, .slice a n c] 51)) #[.int .i64 mc, .int .i64 ms] 64)
  have W1 := Lib.hid (blw_trans (blw_alloc w (.cells #[.int .i64 K, .string ⟨T.toArray⟩, .int .i64 O, .slice a n c] 51)) (blw_alloc _ (.cells #[.int .i64 mc, .int .i64 ms] 64)))
  have OX1 := Lib.hid (((blw_alloc (w.alloc (.cells #[.int .i64 K, .string ⟨T.toArray⟩, .int .i64 O, .slice a n c] 51)) (.cells #[.int .i64 mc, .int .i64 ms] 64)).block w.heap.size (by simp)).trans (obj_made w #[.int .i64 K, .string ⟨T.toArray⟩, .int .i64 O, .slice a n c] 51))
  have OM1 := Lib.hid (obj_made (w.alloc (.cells #[.int .i64 K, .string ⟨T.toArray⟩, .int .i64 O, .slice a n c] 51)) #[.int .i64 mc, .int .i64 ms] 64)
  simp only [World.size_alloc] at OM1
  have HIH := Lib.hid IH
  have HC := Lib.hid hc
  have HE := Lib.hid hE
  have HS := Lib.hid hS
  have PN := Lib.hid (show S.q ≠ w.heap.size ∧ S.q ≠ w.heap.size + 1 from by have := hT.spk.lt; exact ⟨by omega, by omega⟩)
  simp only [World.size_alloc] at MB
  clear IH hc hT hE hS hA
  go_enter Tryz.func65, Tryz.ntmps65
  go_wp2_with fail
  generalize (w.alloc (.cells #[.int .i64 K, .string ⟨T.toArray⟩, .int .i64 O, .slice a n c] 51)).alloc (.cells #[.int .i64 mc, .int .i64 ms] 64) = w1 at *
  have T1 := Lib.hid (T0.out.below W1.out)
  obtain ⟨pp, pv, _, hbk, _, _⟩ := T1.out.spk.2
  have c5 : w1.drew.cell? ⟨S.q, 5, none⟩ = some (.map (some S.B)) := by
    have : w1.drew.heap[S.q]? = some (.cells (S.cells pp pv) 93 (0, 0)) := hbk
    rw [Lib.cell_of_heap this]; rfl
  have x1 : w1.drew.cell? ⟨w.heap.size, 1, none⟩ = some (.string ⟨T.toArray⟩) := XB.out.drew.cell 1 _ rfl
  have LK : (Instr.lookup 68 (.map (some S.B)) (.string ⟨T.toArray⟩) false).run Tryz.prog w1.drew = .ok (.agg #[.string ⟨an.toArray⟩, .bool bn, .int .i64 co, .int .i64 sc, .string ⟨tx.toArray⟩]) w1.drew := HLK.out _ T1.out.map
  have x1' : w1.cell? ⟨w.heap.size, 1, none⟩ = some (.string ⟨T.toArray⟩) := XB.out.cell 1 _ rfl
  have c5' : w1.cell? ⟨S.q, 5, none⟩ = some (.map (some S.B)) := c5
  have sl := T1.out.spk.lt.2
  have xl := XB.out.lt
  have LK2 : (Instr.lookup 68 (.map (some S.B)) (.string ⟨T.toArray⟩) false).run Tryz.prog (w1.alloc (.cells #[.string ⟨#[]⟩, .bool false, .int .i64 0, .int .i64 0, .string ⟨#[]⟩] 70)).drew = .ok (.agg #[.string ⟨an.toArray⟩, .bool bn, .int .i64 co, .int .i64 sc, .string ⟨tx.toArray⟩]) (w1.alloc (.cells #[.string ⟨#[]⟩, .bool false, .int .i64 0, .int .i64 0, .string ⟨#[]⟩] 70)).drew := HLK.out _ (T1.out.map.below (Below.drew (blw_alloc _ _)))
  clear hbk
  obtain ⟨w2, hw2⟩ : ∃ w2, w2 = (w1.alloc (.cells #[.string ⟨an.toArray⟩, .bool bn, .int .i64 co, .int .i64 sc, .string ⟨tx.toArray⟩] 70)).drew := ⟨_, rfl⟩
  have B2 := Lib.hid (show Below w1.heap.size w1 w2 from by rw [hw2]; exact Below.drew (blw_alloc _ _))
  have AB := Lib.hid (show Boxed w2 w1.heap.size #[.string ⟨an.toArray⟩, .bool bn, .int .i64 co, .int .i64 sc, .string ⟨tx.toArray⟩] from by rw [hw2]; exact (Boxed.made w1 _ 70).drew)
  have AQ := Lib.hid (show S.q ≠ w1.heap.size from by omega)
  have TB := Lib.hid fun (w' : World) (hb : Below w.heap.size w w') => (show Talk S W0 args l w' ∧ Kp S w w' from ⟨T0.out.below hb, T0.out.kp hb⟩)
  have WB := Lib.hid (blw_trans W1.out B2.out)
  have HP := Lib.hid (show w.heap.size ≤ w1.heap.size from W1.out.size)
  have T2 := Lib.hid (T1.out.below B2.out)
  have K2 := Lib.hid (T0.out.kp (blw_trans W1.out B2.out))
  have X2 := Lib.hid (XB.out.below B2.out)
  have M2 := Lib.hid (MB.out.below B2.out)
  have OX := Lib.hid (((B2.out.block w.heap.size (by omega)).trans OX1.out))
  have OM := Lib.hid (((B2.out.block (w.heap.size + 1) (by have := MB.out.lt; omega)).trans OM1.out))
  have OA := Lib.hid (show w2.heap[w1.heap.size]? = some (.cells #[.string ⟨an.toArray⟩, .bool bn, .int .i64 co, .int .i64 sc, .string ⟨tx.toArray⟩] 70 (0, 0)) from by rw [hw2]; exact obj_made w1 _ _)
  go_cut [7] from 11 to 17 (fun s7 wx => s7 = .pointer (some ⟨w1.heap.size, 0, none⟩) ∧ wx = w2)
  case first =>
    go_region
    all_goals (go_wp2_with fail; go_meet; exact ⟨rfl, hw2.symm⟩)
  case rest =>
  obtain ⟨rfl, hwc⟩ := hcut
  subst hwc
  clear hw2 LK LK2 c5 c5' x1 x1' sl xl B2 T1 T0 W1 XB MB HLK OX1 OM1
  generalize w1.heap.size = pa at *
  generalize w.heap.size + 1 = pm at *
  generalize w.heap.size = px at *
  have a0 : wc.cell? ⟨pa, 0, none⟩ = some (.string ⟨an.toArray⟩) := AB.out.cell 0 _ rfl
  have a1 : wc.cell? ⟨pa, 1, none⟩ = some (.bool bn) := AB.out.cell 1 _ rfl
  have a2 : wc.cell? ⟨pa, 2, none⟩ = some (.int .i64 co) := AB.out.cell 2 _ rfl
  have a3 : wc.cell? ⟨pa, 3, none⟩ = some (.int .i64 sc) := AB.out.cell 3 _ rfl
  have a4 : wc.cell? ⟨pa, 4, none⟩ = some (.string ⟨tx.toArray⟩) := AB.out.cell 4 _ rfl
  have al := AB.out.lt
  have y1 : wc.cell? ⟨px, 1, none⟩ = some (.string ⟨T.toArray⟩) := X2.out.cell 1 _ rfl
  have y2 : wc.cell? ⟨px, 2, none⟩ = some (.int .i64 O) := X2.out.cell 2 _ rfl
  have y3 : wc.cell? ⟨px, 3, none⟩ = some (.slice a n c) := X2.out.cell 3 _ rfl
  have yl := X2.out.lt
  have m0 : wc.cell? ⟨pm, 0, none⟩ = some (.int .i64 mc) := M2.out.cell 0 _ rfl
  have m1 : wc.cell? ⟨pm, 1, none⟩ = some (.int .i64 ms) := M2.out.cell 1 _ rfl
  have ml := M2.out.lt
  have sl := T2.out.spk.lt.2
  have PN' := Lib.hid (show px ≠ S.q ∧ pa ≠ S.q ∧ pm ≠ S.q from ⟨fun e => PN.out.1 e.symm, fun e => AQ.out e.symm, fun e => PN.out.2 e.symm⟩)
  have Td := Lib.hid (T2.out.below (Below.drew (Below.refl _ _)))
  have Kd := Lib.hid (K2.out.trans (T2.out.kp (Below.drew (Below.refl _ _))))
  rcases hkind with rfl | rfl | rfl | rfl | rfl | rfl
  · have y0 : wc.cell? ⟨px, 0, none⟩ = some (.int .i64 1) := X2.out.cell 0 _ rfl
    have HR := Lib.hid (HR1.out rfl)
    clear HR1 HR2 HR3 HR4 HR5 HR6
    have CW := Lib.hid (bwrite_any S l T _ Td.out.spk (by omega))
    go_wp2_with fail
    go_region_with (go_at_call 30; refine CW.out.mono ?_; rintro e w3 ⟨rfl, hs, hk⟩; have T3 := Lib.hid (Td.out.step hk hs); have K3 := Lib.hid (Kd.out.trans hk); clear hs hk)
    go_wp2_with fail
    go_ret
    exact ⟨by rw [HR.out]; rfl, l ++ T, T3.out, K3.out, told_some HR.out, by rw [List.length_append]; omega⟩
  · have y0 : wc.cell? ⟨px, 0, none⟩ = some (.int .i64 2) := X2.out.cell 0 _ rfl
    have HR := Lib.hid (HR2.out rfl)
    clear HR1 HR2 HR3 HR4 HR5 HR6
    have HZ := HR.out
    cases bn with
    | false =>
      have HR' := Lib.hid (show R = some tx from HZ)
      have CW := Lib.hid (bwrite_any S l tx _ Td.out.spk (by omega))
      clear HR HZ
      go_wp2_with fail
      go_region_with (go_at_call 30; refine CW.out.mono ?_; rintro e w3 ⟨rfl, hs, hk⟩; have T3 := Lib.hid (Td.out.step hk hs); have K3 := Lib.hid (Kd.out.trans hk); clear hs hk)
      go_wp2_with fail
      go_ret
      exact ⟨by rw [HR'.out]; rfl, l ++ tx, T3.out, K3.out, told_some HR'.out, by rw [List.length_append]; omega⟩
    | true =>
      have hco : okD co sc := hbn rfl
      have hdl := dtx_len co sc hco
      have HR' := Lib.hid (show R = some (Byt.decText co sc) from HZ)
      have CD := Lib.hid (dtext_any co sc wc (HE.out.below T2.out.base).t.p hco)
      clear HR HZ
      generalize Byt.decText co sc = t at *
      go_wp2_with fail
      refine CD.out.mono ?_
      rintro e w3 ⟨rfl, hb⟩
      have A3 := Lib.hid (AB.out.below hb)
      have W3 := Lib.hid ((WB.out.trans (hb.mono (by omega))).setCell (p := ⟨pa, 4, none⟩) HP.out (.string ⟨t.toArray⟩))
      obtain ⟨T3, K3⟩ := TB.out _ W3.out
      have T3d := Lib.hid (T3.below (Below.drew (Below.refl _ _)))
      have K3d := Lib.hid (K3.trans (T3.kp (Below.drew (Below.refl _ _))))
      have CW := Lib.hid (bwrite_any S l t _ T3d.out.spk (by omega))
      have b4 : w3.cell? ⟨pa, 4, none⟩ = some (.string ⟨tx.toArray⟩) := A3.out.cell 4 _ rfl
      have f4 : w3.frozen? ⟨pa, 4, none⟩ = false := A3.out.free 4 (by simp)
      have bl := A3.out.lt
      have e4 := World.cell?_setCell_same w3 ⟨pa, 4, none⟩ (.string ⟨t.toArray⟩) b4
      clear hb T3 K3 a0 a1 a2 a3 a4 al y0 y1 y2 y3 yl m0 m1 ml CD
      go_wp2_with fail
      go_region_with (go_at_call 30; refine CW.out.mono ?_; rintro e w4 ⟨rfl, hs, hk⟩; have T4 := Lib.hid (T3d.out.step hk hs); have K4 := Lib.hid (K3d.out.trans hk); clear hs hk)
      go_wp2_with fail
      go_ret
      exact ⟨by rw [HR'.out]; rfl, l ++ t, T4.out, K4.out, told_some HR'.out, by rw [List.length_append]; omega⟩
  · have y0 : wc.cell? ⟨px, 0, none⟩ = some (.int .i64 3) := X2.out.cell 0 _ rfl
    have HR := Lib.hid (HR3.out rfl)
    clear HR1 HR2 HR3 HR4 HR5 HR6
    have hco : okD co sc := hbn (hnum (.inl rfl))
    have hnl := numM_len co sc hco
    have CW := Lib.hid (snumber_any S W0 args l co sc wc T2.out HE.out hco (by omega))
    generalize numM co sc = t at *
    go_wp2_with fail
    refine CW.out.mono ?_
    rintro e w3 ⟨rfl, hs, hk⟩
    have T3 := Lib.hid hs
    have K3 := Lib.hid (K2.out.trans hk)
    clear hs hk CW
    go_wp2_with fail
    go_ret
    exact ⟨by rw [HR.out]; rfl, l ++ t, T3.out, K3.out, told_some HR.out, by rw [List.length_append]; omega⟩
  · have y0 : wc.cell? ⟨px, 0, none⟩ = some (.int .i64 4) := X2.out.cell 0 _ rfl
    have HR := Lib.hid (HR4.out rfl)
    clear HR1 HR2 HR3 HR4 HR5 HR6
    generalize wc = wd at *
    have hco : okD co sc := hbn (hnum (.inr rfl))
    obtain ⟨pp, pv, _, hbq, _, _⟩ := T2.out.spk.2
    have s0 : wd.cell? ⟨S.q, 0, none⟩ = some (.string ⟨S.t0.toArray⟩) := by rw [Lib.cell_of_heap hbq]; rfl
    have s1 : wd.cell? ⟨S.q, 1, none⟩ = some (.string ⟨S.t1.toArray⟩) := by rw [Lib.cell_of_heap hbq]; rfl
    have s2 : wd.cell? ⟨S.q, 2, none⟩ = some (.string ⟨S.t2.toArray⟩) := by rw [Lib.cell_of_heap hbq]; rfl
    have s3 : wd.cell? ⟨S.q, 3, none⟩ = some (.string ⟨S.t3.toArray⟩) := by rw [Lib.cell_of_heap hbq]; rfl
    have s4 : wd.cell? ⟨S.q, 4, none⟩ = some (.string ⟨S.t4.toArray⟩) := by rw [Lib.cell_of_heap hbq]; rfl
    clear hbq
    have CC := Lib.hid fun (wx : World) (hb : Below wd.heap.size wd wx) => (show Calls Tryz.prog 28 _ wx _ from case_any 4 T O (.slice a n c) cs S.t0 S.t1 S.t2 S.t3 S.t4 co sc wx (HE.out.below (blw_trans T2.out.base hb)).t (HE.out.below (blw_trans T2.out.base hb)).k HS.out hco (hoff rfl) (cass_below HC.out (blw_trans T2.out.base hb)) hxc)
    obtain ⟨I, A, B, e0, hcv, HCV⟩ : ∃ (I : Nat) (A B e0 : Int), caseV (evS S.set) cs co sc O = .tuple #[.int .i64 (I : Int), .agg #[.int .i64 A, .int .i64 B], errN e0] ∧ (((evS S.set).less co sc O = none ∧ e0 = 1) ∨ ((evS S.set).less co sc O = some (A, B) ∧ I = cntI (evS S.set) cs co sc A B ∧ e0 = 0)) := by
      unfold caseV
      cases (evS S.set).less co sc O with
      | none => exact ⟨0, 0, 0, 1, by rw [errN_one]; rfl, .inl ⟨rfl, rfl⟩⟩
      | some p => exact ⟨_, p.1, p.2, 0, rfl, .inr ⟨rfl, rfl, rfl⟩⟩
    rw [show [S.t0, S.t1, S.t2, S.t3, S.t4] = S.set from rfl, hcv] at CC
    have WBd := Lib.hid (Below.drew WB.out)
    clear hcv
    have WBs := Lib.hid (show px ≤ wd.heap.size by omega)
    have NX := Lib.hid (show wd.heap.size ≠ px ∧ wd.heap.size ≠ S.q ∧ wd.heap.size ≠ pa from ⟨fun e => by have : wd.heap.size = px := e; omega, fun e => by have : wd.heap.size = S.q := e; omega, fun e => by have : wd.heap.size = pa := e; omega⟩)
    go_upto_region 13 with fail
    go_cut [8, 9, 10] from 53 to 64 (fun v8 v9 v10 wx => ∃ pl, v8 = .int .i64 (I : Int) ∧ v9 = .pointer (some ⟨pl, 0, none⟩) ∧ v10 = errN e0 ∧ Hid (Below px w wx) ∧ Hid (wx.heap[pl]? = some (.cells #[.int .i64 A, .int .i64 B] 64 (0, 0))) ∧ pl ≠ S.q ∧ Hid (Below wd.heap.size wd wx))
    case first =>
      refine wp_region_held_drew (S := fun w' => w'.cell? ⟨px, 0, none⟩ = some (.int .i64 4) ∧ w'.cell? ⟨px, 1, none⟩ = some (.string ⟨T.toArray⟩) ∧ w'.cell? ⟨px, 2, none⟩ = some (.int .i64 O) ∧ w'.cell? ⟨px, 3, none⟩ = some (.slice a n c) ∧ w'.cell? ⟨S.q, 0, none⟩ = some (.string ⟨S.t0.toArray⟩) ∧ w'.cell? ⟨S.q, 1, none⟩ = some (.string ⟨S.t1.toArray⟩) ∧ w'.cell? ⟨S.q, 2, none⟩ = some (.string ⟨S.t2.toArray⟩) ∧ w'.cell? ⟨S.q, 3, none⟩ = some (.string ⟨S.t3.toArray⟩) ∧ w'.cell? ⟨S.q, 4, none⟩ = some (.string ⟨S.t4.toArray⟩) ∧ w'.cell? ⟨pa, 2, none⟩ = some (.int .i64 co) ∧ w'.cell? ⟨pa, 3, none⟩ = some (.int .i64 sc)) (by kernel_rfl) (⟨y0, y1, y2, y3, s0, s1, s2, s3, s4, a2, a3⟩) (fun hHeld => ?_)
      refine take_run (d := some 54) (v := ?v12) 0 rfl rfl (by kernel_rfl) (by kernel_rfl) (by kernel_rfl) (fun _ _ _ h => h) (by rfl) hHeld ?hy12 ?rs12
      case hy12 => (intro w hSw; (try dsimp only at hSw); go_simp) <;> (try with_reducible rfl)
      (try simp only [Act.put, List.setIfInBounds_toArray, List.set_cons_zero, List.set_cons_succ])
      refine take_run (d := some 55) (v := ?v13) 1 rfl rfl (by kernel_rfl) (by kernel_rfl) (by kernel_rfl) (fun _ _ _ h => h) (by rfl) hHeld ?hy13 ?rs13
      case hy13 => (intro w hSw; (try dsimp only at hSw); go_simp) <;> (try with_reducible rfl)
      (try simp only [Act.put, List.setIfInBounds_toArray, List.set_cons_zero, List.set_cons_succ])
      refine take_run (d := some 56) (v := ?v14) 2 rfl rfl (by kernel_rfl) (by kernel_rfl) (by kernel_rfl) (fun _ _ _ h => h) (by rfl) hHeld ?hy14 ?rs14
      case hy14 => (intro w hSw; (try dsimp only at hSw); go_simp) <;> (try with_reducible rfl)
      (try simp only [Act.put, List.setIfInBounds_toArray, List.set_cons_zero, List.set_cons_succ])
      refine take_run (d := some 57) (v := ?v15) 3 rfl rfl (by kernel_rfl) (by kernel_rfl) (by kernel_rfl) (fun _ _ _ h => h) (by rfl) hHeld ?hy15 ?rs15
      case hy15 => (intro w hSw; (try dsimp only at hSw); go_simp) <;> (try with_reducible rfl)
      (try simp only [Act.put, List.setIfInBounds_toArray, List.set_cons_zero, List.set_cons_succ])
      refine take_run (d := some 58) (v := ?v16) 4 rfl rfl (by kernel_rfl) (by kernel_rfl) (by kernel_rfl) (fun _ _ _ h => h) (by rfl) hHeld ?hy16 ?rs16
      case hy16 => (intro w hSw; (try dsimp only at hSw); go_simp) <;> (try with_reducible rfl)
      (try simp only [Act.put, List.setIfInBounds_toArray, List.set_cons_zero, List.set_cons_succ])
      refine take_run (d := some 59) (v := ?v17) 5 rfl rfl (by kernel_rfl) (by kernel_rfl) (by kernel_rfl) (fun _ _ _ h => h) (by rfl) hHeld ?hy17 ?rs17
      case hy17 => (intro w hSw; (try dsimp only at hSw); go_simp) <;> (try with_reducible rfl)
      (try simp only [Act.put, List.setIfInBounds_toArray, List.set_cons_zero, List.set_cons_succ])
      refine take_run (d := some 60) (v := ?v18) 6 rfl rfl (by kernel_rfl) (by kernel_rfl) (by kernel_rfl) (fun _ _ _ h => h) (by rfl) hHeld ?hy18 ?rs18
      case hy18 => (intro w hSw; (try dsimp only at hSw); go_simp) <;> (try with_reducible rfl)
      (try simp only [Act.put, List.setIfInBounds_toArray, List.set_cons_zero, List.set_cons_succ])
      refine take_two 7 12 rfl rfl (by kernel_rfl) (by rfl) (by rfl) (fun K hK => ?_) (fun K hK => ?_)
      · go_simp
        refine (CC.out _ (Below.drew (Below.refl _ _))).mono ?_
        rintro e w' ⟨rfl, hb⟩
        have W3 := Lib.hid (WBd.out.trans (hb.mono WBs.out))
        have W3s := Lib.hid (Nat.le_trans WBs.out hb.size)
        have B3 := Lib.hid (show Below wd.heap.size wd w' from (Below.drew (Below.refl _ wd)).trans hb)
        refine hK.out _ _ (⟨cell_keep hHeld.1 hb, cell_keep hHeld.2.1 hb, cell_keep hHeld.2.2.1 hb, cell_keep hHeld.2.2.2.1 hb, cell_keep hHeld.2.2.2.2.1 hb, cell_keep hHeld.2.2.2.2.2.1 hb, cell_keep hHeld.2.2.2.2.2.2.1 hb, cell_keep hHeld.2.2.2.2.2.2.2.1 hb, cell_keep hHeld.2.2.2.2.2.2.2.2.1 hb, cell_keep hHeld.2.2.2.2.2.2.2.2.2.1 hb, cell_keep hHeld.2.2.2.2.2.2.2.2.2.2 hb⟩) (fun hHeld => ?_)
        clear hK K
        (try simp only [Act.put, List.setIfInBounds_toArray, List.set_cons_zero, List.set_cons_succ])
        have hH3 := hHeld
        refine take_run (d := some 53) (v := ?v19) 8 rfl rfl (by kernel_rfl) (by kernel_rfl) (by kernel_rfl) (fun _ _ _ h => h) (by rfl) hHeld ?hy19 ?rs19
        case hy19 => (intro w hSw; (try dsimp only at hSw); go_simp) <;> (try with_reducible rfl)
        (try simp only [Act.put, List.setIfInBounds_toArray, List.set_cons_zero, List.set_cons_succ])
        refine take_run (d := some 62) (v := ?v20) 9 rfl rfl (by kernel_rfl) (by kernel_rfl) (by kernel_rfl) (fun _ _ _ h => h) (by rfl) hHeld ?hy20 ?rs20
        case hy20 => (intro w hSw; (try dsimp only at hSw); go_simp) <;> (try with_reducible rfl)
        (try simp only [Act.put, List.setIfInBounds_toArray, List.set_cons_zero, List.set_cons_succ])
        refine take_run (d := some 63) (v := ?v21) 10 rfl rfl (by kernel_rfl) (by kernel_rfl) (by kernel_rfl) (fun _ _ _ h => h) (by rfl) hHeld ?hy21 ?rs21
        case hy21 => (intro w hSw; (try dsimp only at hSw); go_simp) <;> (try with_reducible rfl)
        (try simp only [Act.put, List.setIfInBounds_toArray, List.set_cons_zero, List.set_cons_succ])
        refine take_run (d := some 64) (v := ?v22) 11 rfl rfl (by kernel_rfl) (by kernel_rfl) (by kernel_rfl) (fun _ _ _ h => h) (by rfl) hHeld ?hy22 ?rs22
        case hy22 => (intro w hSw; (try dsimp only at hSw); go_simp) <;> (try with_reducible rfl)
        (try simp only [Act.put, List.setIfInBounds_toArray, List.set_cons_zero, List.set_cons_succ])
        refine take_call 12 rfl (by kernel_rfl) (by rfl) (fun K hK => ?_)
        go_simp
        refine hK.out _ _ (⟨cell_keep hH3.1 (blw_alloc _ _), cell_keep hH3.2.1 (blw_alloc _ _), cell_keep hH3.2.2.1 (blw_alloc _ _), cell_keep hH3.2.2.2.1 (blw_alloc _ _), cell_keep hH3.2.2.2.2.1 (blw_alloc _ _), cell_keep hH3.2.2.2.2.2.1 (blw_alloc _ _), cell_keep hH3.2.2.2.2.2.2.1 (blw_alloc _ _), cell_keep hH3.2.2.2.2.2.2.2.1 (blw_alloc _ _), cell_keep hH3.2.2.2.2.2.2.2.2.1 (blw_alloc _ _), cell_keep hH3.2.2.2.2.2.2.2.2.2.1 (blw_alloc _ _), cell_keep hH3.2.2.2.2.2.2.2.2.2.2 (blw_alloc _ _)⟩) (fun hHeld => ?_)
        clear hK K
        (try simp only [Act.put, List.setIfInBounds_toArray, List.set_cons_zero, List.set_cons_succ])
        refine take_run (d := some 8) (v := ?v27) 13 rfl rfl (by kernel_rfl) (by kernel_rfl) (by kernel_rfl) (fun _ _ _ h => h) (by rfl) hHeld ?hy27 ?rs27
        case hy27 => (intro w hSw; (try dsimp only at hSw); go_simp) <;> (try with_reducible rfl)
        (try simp only [Act.put, List.setIfInBounds_toArray, List.set_cons_zero, List.set_cons_succ])
        refine take_call 14 rfl (by kernel_rfl) (by rfl) (fun K hK => ?_)
        go_simp
        refine hK.out _ _ (⟨cell_keep hH3.1 (blw_alloc _ _), cell_keep hH3.2.1 (blw_alloc _ _), cell_keep hH3.2.2.1 (blw_alloc _ _), cell_keep hH3.2.2.2.1 (blw_alloc _ _), cell_keep hH3.2.2.2.2.1 (blw_alloc _ _), cell_keep hH3.2.2.2.2.2.1 (blw_alloc _ _), cell_keep hH3.2.2.2.2.2.2.1 (blw_alloc _ _), cell_keep hH3.2.2.2.2.2.2.2.1 (blw_alloc _ _), cell_keep hH3.2.2.2.2.2.2.2.2.1 (blw_alloc _ _), cell_keep hH3.2.2.2.2.2.2.2.2.2.1 (blw_alloc _ _), cell_keep hH3.2.2.2.2.2.2.2.2.2.2 (blw_alloc _ _)⟩) (fun hHeld => ?_)
        clear hK K
        (try simp only [Act.put, List.setIfInBounds_toArray, List.set_cons_zero, List.set_cons_succ])
        refine take_run (d := some 10) (v := ?v28) 15 rfl rfl (by kernel_rfl) (by kernel_rfl) (by kernel_rfl) (fun _ _ _ h => h) (by rfl) hHeld ?hy28 ?rs28
        case hy28 => (intro w hSw; (try dsimp only at hSw); go_simp) <;> (try with_reducible rfl)
        (try simp only [Act.put, List.setIfInBounds_toArray, List.set_cons_zero, List.set_cons_succ])
        refine wpAnyH_done (by kernel_rfl) ?_ _
        go_wp2_with fail
        go_meet
        exact ⟨w'.heap.size, rfl, rfl, rfl, Lib.hid (W3.out.alloc W3s.out _), Lib.hid (obj_made w' _ _), fun e => by have := B3.out.size; omega, Lib.hid (B3.out.alloc B3.out.size _)⟩
      · go_simp
        refine hK.out _ _ (⟨cell_keep hHeld.1 (blw_alloc _ _), cell_keep hHeld.2.1 (blw_alloc _ _), cell_keep hHeld.2.2.1 (blw_alloc _ _), cell_keep hHeld.2.2.2.1 (blw_alloc _ _), cell_keep hHeld.2.2.2.2.1 (blw_alloc _ _), cell_keep hHeld.2.2.2.2.2.1 (blw_alloc _ _), cell_keep hHeld.2.2.2.2.2.2.1 (blw_alloc _ _), cell_keep hHeld.2.2.2.2.2.2.2.1 (blw_alloc _ _), cell_keep hHeld.2.2.2.2.2.2.2.2.1 (blw_alloc _ _), cell_keep hHeld.2.2.2.2.2.2.2.2.2.1 (blw_alloc _ _), cell_keep hHeld.2.2.2.2.2.2.2.2.2.2 (blw_alloc _ _)⟩) (fun hHeld => ?_)
        clear hK K
        (try simp only [Act.put, List.setIfInBounds_toArray, List.set_cons_zero, List.set_cons_succ])
        refine take_call 7 rfl (by kernel_rfl) (by rfl) (fun K hK => ?_)
        go_simp
        refine (CC.out _ (blw_trans (Below.drew (Below.refl _ wd)) (blw_alloc _ _))).mono ?_
        rintro e w' ⟨rfl, hb⟩
        have W3 := Lib.hid ((WBd.out.alloc WBs.out (.cells #[.int .i64 0, .int .i64 0] 64)).trans (hb.mono (by simp; exact Nat.le_succ_of_le WBs.out)))
        have B3 := Lib.hid (blw_trans (blw_trans (Below.drew (Below.refl _ wd)) (blw_alloc _ (.cells #[.int .i64 0, .int .i64 0] 64))) hb)
        have O3 := show (World.heap w')[wd.heap.size]? = _ from (hb.block wd.heap.size (by simp)).trans (obj_made wd.drew #[.int .i64 0, .int .i64 0] 64)
        refine hK.out _ _ (⟨cell_keep hHeld.1 hb, cell_keep hHeld.2.1 hb, cell_keep hHeld.2.2.1 hb, cell_keep hHeld.2.2.2.1 hb, cell_keep hHeld.2.2.2.2.1 hb, cell_keep hHeld.2.2.2.2.2.1 hb, cell_keep hHeld.2.2.2.2.2.2.1 hb, cell_keep hHeld.2.2.2.2.2.2.2.1 hb, cell_keep hHeld.2.2.2.2.2.2.2.2.1 hb, cell_keep hHeld.2.2.2.2.2.2.2.2.2.1 hb, cell_keep hHeld.2.2.2.2.2.2.2.2.2.2 hb⟩) (fun hHeld => ?_)
        clear hK K
        (try simp only [Act.put, List.setIfInBounds_toArray, List.set_cons_zero, List.set_cons_succ])
        have hH3 := hHeld
        have b0 : World.cell? w' ⟨wd.heap.size, 0, none⟩ = some (.int .i64 0) := by rw [Lib.cell_of_heap O3]; rfl
        have b1 : World.cell? w' ⟨wd.heap.size, 1, none⟩ = some (.int .i64 0) := by rw [Lib.cell_of_heap O3]; rfl
        have f0 : World.frozen? w' ⟨wd.heap.size, 0, none⟩ = false := Lib.frozen_of_heap O3 0
        have f1 : World.frozen? w' ⟨wd.heap.size, 1, none⟩ = false := Lib.frozen_of_heap O3 1
        refine take_run (d := some 53) (v := ?v23) 8 rfl rfl (by kernel_rfl) (by kernel_rfl) (by kernel_rfl) (fun _ _ _ h => h) (by rfl) hHeld ?hy23 ?rs23
        case hy23 => (intro w hSw; (try dsimp only at hSw); go_simp) <;> (try with_reducible rfl)
        (try simp only [Act.put, List.setIfInBounds_toArray, List.set_cons_zero, List.set_cons_succ])
        refine take_run (d := some 62) (v := ?v24) 9 rfl rfl (by kernel_rfl) (by kernel_rfl) (by kernel_rfl) (fun _ _ _ h => h) (by rfl) hHeld ?hy24 ?rs24
        case hy24 => (intro w hSw; (try dsimp only at hSw); go_simp) <;> (try with_reducible rfl)
        (try simp only [Act.put, List.setIfInBounds_toArray, List.set_cons_zero, List.set_cons_succ])
        refine take_run (d := some 63) (v := ?v25) 10 rfl rfl (by kernel_rfl) (by kernel_rfl) (by kernel_rfl) (fun _ _ _ h => h) (by rfl) hHeld ?hy25 ?rs25
        case hy25 => (intro w hSw; (try dsimp only at hSw); go_simp) <;> (try with_reducible rfl)
        (try simp only [Act.put, List.setIfInBounds_toArray, List.set_cons_zero, List.set_cons_succ])
        refine take_run (d := some 64) (v := ?v26) 11 rfl rfl (by kernel_rfl) (by kernel_rfl) (by kernel_rfl) (fun _ _ _ h => h) (by rfl) hHeld ?hy26 ?rs26
        case hy26 => (intro w hSw; (try dsimp only at hSw); go_simp) <;> (try with_reducible rfl)
        (try simp only [Act.put, List.setIfInBounds_toArray, List.set_cons_zero, List.set_cons_succ])
        refine take_run (d := some 8) (v := ?v29) 13 rfl rfl (by kernel_rfl) (by kernel_rfl) (by kernel_rfl) (fun _ _ _ h => h) (by rfl) hHeld ?hy29 ?rs29
        case hy29 => (intro w hSw; (try dsimp only at hSw); go_simp) <;> (try with_reducible rfl)
        (try simp only [Act.put, List.setIfInBounds_toArray, List.set_cons_zero, List.set_cons_succ])
        refine take_call 14 rfl (by kernel_rfl) (by rfl) (fun K hK => ?_)
        go_simp
        refine hK.out _ _ (⟨cell_far2 hH3.1 NX.out.1, cell_far2 hH3.2.1 NX.out.1, cell_far2 hH3.2.2.1 NX.out.1, cell_far2 hH3.2.2.2.1 NX.out.1, cell_far2 hH3.2.2.2.2.1 NX.out.2.1, cell_far2 hH3.2.2.2.2.2.1 NX.out.2.1, cell_far2 hH3.2.2.2.2.2.2.1 NX.out.2.1, cell_far2 hH3.2.2.2.2.2.2.2.1 NX.out.2.1, cell_far2 hH3.2.2.2.2.2.2.2.2.1 NX.out.2.1, cell_far2 hH3.2.2.2.2.2.2.2.2.2.1 NX.out.2.2, cell_far2 hH3.2.2.2.2.2.2.2.2.2.2 NX.out.2.2⟩) (fun hHeld => ?_)
        clear hK K
        (try simp only [Act.put, List.setIfInBounds_toArray, List.set_cons_zero, List.set_cons_succ])
        refine take_run (d := some 10) (v := ?v30) 15 rfl rfl (by kernel_rfl) (by kernel_rfl) (by kernel_rfl) (fun _ _ _ h => h) (by rfl) hHeld ?hy30 ?rs30
        case hy30 => (intro w hSw; (try dsimp only at hSw); go_simp) <;> (try with_reducible rfl)
        (try simp only [Act.put, List.setIfInBounds_toArray, List.set_cons_zero, List.set_cons_succ])
        refine wpAnyH_done (by kernel_rfl) ?_ _
        go_wp2_with fail
        go_meet
        exact ⟨wd.heap.size, rfl, rfl, rfl, Lib.hid ((W3.out.setCell (p := ⟨wd.heap.size, 0, none⟩) WBs.out _).setCell (p := ⟨wd.heap.size, 1, none⟩) WBs.out _), Lib.hid (by simp [World.setCell, Array.getElem?_modify, O3]), fun e => NX.out.2.1 e, Lib.hid ((B3.out.setCell (p := ⟨wd.heap.size, 0, none⟩) (Nat.le_refl _) _).setCell (p := ⟨wd.heap.size, 1, none⟩) (Nat.le_refl _) _)⟩
    case rest =>
    obtain ⟨pl, rfl, rfl, rfl, W4, OL4, PL4, B4⟩ := hcut
    have OX4 := Lib.hid ((B4.out.block px yl).trans OX.out)
    have T4 := Lib.hid (TB.out _ W4.out).1
    have K4 := Lib.hid (TB.out _ W4.out).2
    clear a0 a1 a2 a3 a4 al y0 y1 y2 y3 m0 m1 ml s0 s1 s2 s3 s4 CC WBd NX
    rcases HCV with ⟨hle, rfl⟩ | ⟨hle, rfl, rfl⟩
    · have HRN := Lib.hid (show R = none by rw [HR.out, hle])
      rw [errN_one]
      go_wp2_with fail
      go_ret
      exact ⟨by rw [HRN.out]; exact congrArg _ errN_one.symm, l, T4.out, K4.out, (fun t ht => by rw [HRN.out] at ht; cases ht), Nat.le_add_right _ _⟩
    · rw [errN_zero]
      have hcx : cntI (evS S.set) cs co sc A B < cs.length := cntI_lt (hsome (.inl rfl)) co sc A B
      obtain ⟨yc, hyc, hbd, hwf, hcn⟩ := HBD.out (.inl rfl) _ hcx
      have HRB := Lib.hid (show R = saidM (evS S.set) (valA args) f A B yc.2 by rw [HR.out, hle]; show saidM (evS S.set) (valA args) f A B (bodyI (.mk 4 T O cs) (cntI (evS S.set) cs co sc A B)) = _; rw [hbd])
      obtain ⟨Ad, cap, eA, _, hsp⟩ := HC.out.spread
      injection eA with e1 e2 e3
      subst e1 e2 e3
      have hcap : cs.length ≤ c := by
        rcases HC.out with ⟨e, _⟩ | ⟨_, _, _, e, _, q, _, _⟩
        · rw [e] at hcx; simp at hcx
        · injection e with _ _ e; omega
      obtain ⟨bk, off, rfl, a9, n9, c9, q0, q1, q2, q3, q4⟩ := hsp _ yc hyc
      have hle2 : cnt f yc.2 ≤ NN := by rw [HN.out]; exact Nat.le_trans hcn (Nat.le_add_left _ _)
      have hAB : okD A B := less_okd (L := S.set) (l := (A, B)) hle
      have CSS := Lib.hid fun (w3 : World) (hT : Talk S W0 args l w3) => HIH.out (.slice a9 n9 c9) yc.2 w3 l A B q2 q4 hwf hT hAB (Nat.le_trans (Nat.add_le_add_left (Nat.mul_le_mul_right _ hle2) _) hl)
      have Q1 := Lib.hid q1
      have HLN := Lib.hid (show cnt f yc.2 * 4000000 ≤ NN * 4000000 from Nat.mul_le_mul_right _ hle2)
      clear HR hbd hsp q0 q1 q2 HBD HIH hwf hyc HN hcn hle2 hle
      generalize saidM (evS S.set) (valA args) f A B yc.2 = RB at *
      generalize cntI (evS S.set) cs co sc A B = I at *
      have hci' : (I : Int) < (cs.length : Int) := by omega
      go_upto_region 16 with fail
      have OXd := Lib.hid (show wc.drew.heap[px]? = _ from OX4.out)
      have OLd := Lib.hid (show wc.drew.heap[pl]? = _ from OL4.out)
      have Td4 := Lib.hid (T4.out.below (Below.drew (Below.refl _ _)))
      have Kd4 := Lib.hid (K4.out.trans (T4.out.kp (Below.drew (Below.refl _ _))))
      have CSi := Lib.hid (CSS.out _ Td4.out)
      refine wp_region_held_drew (S := fun w' => w'.cell? ⟨px, 3, none⟩ = some (.slice (some ⟨bk, off, none⟩) cs.length c) ∧ w'.cell? ⟨pl, 0, none⟩ = some (.int .i64 A) ∧ w'.cell? ⟨pl, 1, none⟩ = some (.int .i64 B) ∧ w'.cell? ⟨bk, off + I * 2 + 1, none⟩ = some (.slice a9 n9 c9)) (by kernel_rfl) (⟨by rw [Lib.cell_of_heap OXd.out]; rfl, by rw [Lib.cell_of_heap OLd.out]; rfl, by rw [Lib.cell_of_heap OLd.out]; rfl, cell_keep Q1.out Td4.out.base⟩) (fun hHeld => ?_)
      refine take_run (d := some 68) (v := ?v31) 0 rfl rfl (by kernel_rfl) (by kernel_rfl) (by kernel_rfl) (fun _ _ _ h => h) (by rfl) hHeld ?hy31 ?rs31
      case hy31 => (intro w hSw; (try dsimp only at hSw); go_simp) <;> (try with_reducible rfl)
      (try simp only [Act.put, List.setIfInBounds_toArray, List.set_cons_zero, List.set_cons_succ])
      refine take_run (d := some 69) (v := ?v32) 1 rfl rfl (by kernel_rfl) (by kernel_rfl) (by kernel_rfl) (fun _ _ _ h => h) (by rfl) hHeld ?hy32 ?rs32
      case hy32 => (intro w hSw; (try dsimp only at hSw); go_simp) <;> (try with_reducible rfl)
      (try simp only [Act.put, List.setIfInBounds_toArray, List.set_cons_zero, List.set_cons_succ])
      refine take_run (d := some 70) (v := ?v33) 2 rfl rfl (by kernel_rfl) (by kernel_rfl) (by kernel_rfl) (fun _ _ _ h => h) (by rfl) hHeld ?hy33 ?rs33
      case hy33 => (intro w hSw; (try dsimp only at hSw); go_simp) <;> (try with_reducible rfl)
      (try simp only [Act.put, List.setIfInBounds_toArray, List.set_cons_zero, List.set_cons_succ])
      refine take_run (d := some 71) (v := ?v34) 3 rfl rfl (by kernel_rfl) (by kernel_rfl) (by kernel_rfl) (fun _ _ _ h => h) (by rfl) hHeld ?hy34 ?rs34
      case hy34 => (intro w hSw; (try dsimp only at hSw); go_simp) <;> (try with_reducible rfl)
      (try simp only [Act.put, List.setIfInBounds_toArray, List.set_cons_zero, List.set_cons_succ])
      refine take_run (d := some 72) (v := ?v35) 4 rfl rfl (by kernel_rfl) (by kernel_rfl) (by kernel_rfl) (fun _ _ _ h => h) (by rfl) hHeld ?hy35 ?rs35
      case hy35 => (intro w hSw; (try dsimp only at hSw); go_simp) <;> (try with_reducible rfl)
      (try simp only [Act.put, List.setIfInBounds_toArray, List.set_cons_zero, List.set_cons_succ])
      refine take_run (d := some 73) (v := ?v36) 5 rfl rfl (by kernel_rfl) (by kernel_rfl) (by kernel_rfl) (fun _ _ _ h => h) (by rfl) hHeld ?hy36 ?rs36
      case hy36 => (intro w hSw; (try dsimp only at hSw); go_simp) <;> (try with_reducible rfl)
      (try simp only [Act.put, List.setIfInBounds_toArray, List.set_cons_zero, List.set_cons_succ])
      refine take_run (d := some 74) (v := ?v37) 6 rfl rfl (by kernel_rfl) (by kernel_rfl) (by kernel_rfl) (fun _ _ _ h => h) (by rfl) hHeld ?hy37 ?rs37
      case hy37 => (intro w hSw; (try dsimp only at hSw); go_simp) <;> (try with_reducible rfl)
      (try simp only [Act.put, List.setIfInBounds_toArray, List.set_cons_zero, List.set_cons_succ])
      refine take_run (d := some 75) (v := ?v38) 7 rfl rfl (by kernel_rfl) (by kernel_rfl) (by kernel_rfl) (fun _ _ _ h => h) (by rfl) hHeld ?hy38 ?rs38
      case hy38 => (intro w hSw; (try dsimp only at hSw); go_simp) <;> (try with_reducible rfl)
      (try simp only [Act.put, List.setIfInBounds_toArray, List.set_cons_zero, List.set_cons_succ])
      refine take_call 8 rfl (by kernel_rfl) (by rfl) (fun K hK => ?_)
      go_simp
      refine (CSi.out).mono ?_
      rintro e w' ⟨rfl, l', ht, hk, hs, hl⟩
      have T5 := Lib.hid ht
      have K5 := Lib.hid (Kd4.out.trans hk)
      have HS5 := Lib.hid hs
      have OX5 := Boxed.kp hk OXd.out (by decide) PN'.out.1
      have OL5 := Boxed.kp hk OLd.out (by decide) PL4
      refine hK.out _ _ (⟨by rw [Lib.cell_of_heap OX5]; rfl, by rw [Lib.cell_of_heap OL5]; rfl, by rw [Lib.cell_of_heap OL5]; rfl, cell_keep Q1.out T5.out.base⟩) (fun hHeld => ?_)
      clear hK K
      (try simp only [Act.put, List.setIfInBounds_toArray, List.set_cons_zero, List.set_cons_succ])
      refine take_run (d := some 6) (v := ?v39) 9 rfl rfl (by kernel_rfl) (by kernel_rfl) (by kernel_rfl) (fun _ _ _ h => h) (by rfl) hHeld ?hy39 ?rs39
      case hy39 => (intro w hSw; (try dsimp only at hSw); go_simp) <;> (try with_reducible rfl)
      (try simp only [Act.put, List.setIfInBounds_toArray, List.set_cons_zero, List.set_cons_succ])
      refine wpAnyH_done (by kernel_rfl) ?_ _
      go_wp2_with fail
      go_ret
      exact ⟨by rw [HRB.out]; rfl, l', T5.out, K5.out, by rw [HRB.out]; exact HS5.out, Nat.le_trans hl (Nat.add_le_add_left HLN.out _)⟩
  · have y0 : wc.cell? ⟨px, 0, none⟩ = some (.int .i64 5) := X2.out.cell 0 _ rfl
    have HR := Lib.hid (HR5.out rfl)
    clear HR1 HR2 HR3 HR4 HR5 HR6
    have hci : choI cs tx < cs.length := choI_lt (hsome (.inr rfl)) tx
    have hch := chW_cho (honce (.inr rfl)) tx
    obtain ⟨yc, hyc, hbd, hwf, hcn⟩ := HBD.out (.inr rfl) (choI cs tx) hci
    have CH := Lib.hid (choice_any 5 O T (.slice a n c) cs tx wc.drew (cass_below HC.out Td.out.base) hxc)
    rw [hch] at CH
    have HRB := Lib.hid (show R = saidM (evS S.set) (valA args) f mc ms yc.2 by rw [HR.out, hbd])
    obtain ⟨Ad, cap, eA, _, hsp⟩ := HC.out.spread
    injection eA with e1 e2 e3
    subst e1 e2 e3
    have hcap : cs.length ≤ c := by
      rcases HC.out with ⟨e, _⟩ | ⟨_, _, _, e, _, q, _, _⟩
      · rw [e] at hci; simp at hci
      · injection e with _ _ e; omega
    obtain ⟨bk, off, rfl, a9, n9, c9, q0, q1, q2, q3, q4⟩ := hsp _ yc hyc
    have hle : cnt f yc.2 ≤ NN := by rw [HN.out]; exact Nat.le_trans hcn (Nat.le_add_left _ _)
    have CSS := Lib.hid fun (w3 : World) (hT : Talk S W0 args l w3) => HIH.out (.slice a9 n9 c9) yc.2 w3 l mc ms q2 q4 hwf hT hm (Nat.le_trans (Nat.add_le_add_left (Nat.mul_le_mul_right _ hle) _) hl)
    have Q1 := Lib.hid q1
    have HLN := Lib.hid (show cnt f yc.2 * 4000000 ≤ NN * 4000000 from Nat.mul_le_mul_right _ hle)
    have hci' : ((choI cs tx : Nat) : Int) < (cs.length : Int) := by omega
    clear HR hbd hch hsp q0 q1 q2 HBD HIH hwf hyc HN hcn hle
    generalize saidM (evS S.set) (valA args) f mc ms yc.2 = RB at *
    generalize choI cs tx = I at *
    go_wp2_with fail
    have OXd := Lib.hid (show wc.drew.heap[px]? = _ from OX.out)
    have OAd := Lib.hid (show wc.drew.heap[pa]? = _ from OA.out)
    have OMd := Lib.hid (show wc.drew.heap[pm]? = _ from OM.out)
    refine wp_region_held_drew (S := fun w' => w'.cell? ⟨px, 0, none⟩ = some (.int .i64 5) ∧ w'.cell? ⟨px, 1, none⟩ = some (.string ⟨T.toArray⟩) ∧ w'.cell? ⟨px, 2, none⟩ = some (.int .i64 O) ∧ w'.cell? ⟨px, 3, none⟩ = some (.slice (some ⟨bk, off, none⟩) cs.length c) ∧ w'.cell? ⟨pa, 4, none⟩ = some (.string ⟨tx.toArray⟩) ∧ w'.cell? ⟨pm, 0, none⟩ = some (.int .i64 mc) ∧ w'.cell? ⟨pm, 1, none⟩ = some (.int .i64 ms) ∧ w'.cell? ⟨bk, off + I * 2 + 1, none⟩ = some (.slice a9 n9 c9)) (by kernel_rfl) (⟨by rw [Lib.cell_of_heap OXd.out]; rfl, by rw [Lib.cell_of_heap OXd.out]; rfl, by rw [Lib.cell_of_heap OXd.out]; rfl, by rw [Lib.cell_of_heap OXd.out]; rfl, by rw [Lib.cell_of_heap OAd.out]; rfl, by rw [Lib.cell_of_heap OMd.out]; rfl, by rw [Lib.cell_of_heap OMd.out]; rfl, cell_keep Q1.out Td.out.base⟩) (fun hHeld => ?_)
    refine take_run (d := some 79) (v := ?v1) 0 rfl rfl (by kernel_rfl) (by kernel_rfl) (by kernel_rfl) (fun _ _ _ h => h) (by rfl) hHeld ?hy1 ?rs1
    case hy1 => (intro w hSw; (try dsimp only at hSw); go_simp) <;> (try with_reducible rfl)
    (try simp only [Act.put, List.setIfInBounds_toArray, List.set_cons_zero, List.set_cons_succ])
    refine take_run (d := some 80) (v := ?v2) 1 rfl rfl (by kernel_rfl) (by kernel_rfl) (by kernel_rfl) (fun _ _ _ h => h) (by rfl) hHeld ?hy2 ?rs2
    case hy2 => (intro w hSw; (try dsimp only at hSw); go_simp) <;> (try with_reducible rfl)
    (try simp only [Act.put, List.setIfInBounds_toArray, List.set_cons_zero, List.set_cons_succ])
    refine take_run (d := some 81) (v := ?v3) 2 rfl rfl (by kernel_rfl) (by kernel_rfl) (by kernel_rfl) (fun _ _ _ h => h) (by rfl) hHeld ?hy3 ?rs3
    case hy3 => (intro w hSw; (try dsimp only at hSw); go_simp) <;> (try with_reducible rfl)
    (try simp only [Act.put, List.setIfInBounds_toArray, List.set_cons_zero, List.set_cons_succ])
    refine take_run (d := some 82) (v := ?v4) 3 rfl rfl (by kernel_rfl) (by kernel_rfl) (by kernel_rfl) (fun _ _ _ h => h) (by rfl) hHeld ?hy4 ?rs4
    case hy4 => (intro w hSw; (try dsimp only at hSw); go_simp) <;> (try with_reducible rfl)
    (try simp only [Act.put, List.setIfInBounds_toArray, List.set_cons_zero, List.set_cons_succ])
    refine take_run (d := some 83) (v := ?v5) 4 rfl rfl (by kernel_rfl) (by kernel_rfl) (by kernel_rfl) (fun _ _ _ h => h) (by rfl) hHeld ?hy5 ?rs5
    case hy5 => (intro w hSw; (try dsimp only at hSw); go_simp) <;> (try with_reducible rfl)
    (try simp only [Act.put, List.setIfInBounds_toArray, List.set_cons_zero, List.set_cons_succ])
    refine take_run (d := some 84) (v := ?v6) 5 rfl rfl (by kernel_rfl) (by kernel_rfl) (by kernel_rfl) (fun _ _ _ h => h) (by rfl) hHeld ?hy6 ?rs6
    case hy6 => (intro w hSw; (try dsimp only at hSw); go_simp) <;> (try with_reducible rfl)
    (try simp only [Act.put, List.setIfInBounds_toArray, List.set_cons_zero, List.set_cons_succ])
    refine take_run (d := some 89) (v := ?v7) 10 rfl rfl (by kernel_rfl) (by kernel_rfl) (by kernel_rfl) (fun _ _ _ h => h) (by rfl) hHeld ?hy7 ?rs7
    case hy7 => (intro w hSw; (try dsimp only at hSw); go_simp) <;> (try with_reducible rfl)
    (try simp only [Act.put, List.setIfInBounds_toArray, List.set_cons_zero, List.set_cons_succ])
    refine take_call 6 rfl (by kernel_rfl) (by rfl) (fun K hK => ?_)
    go_simp
    refine (CH.out).mono ?_
    rintro e w' ⟨rfl, hb⟩
    have T3 := Lib.hid (Td.out.below hb)
    have K3 := Lib.hid (Kd.out.trans (Td.out.kp hb))
    have OX3 := Lib.hid ((hb.block px (Array.getElem?_eq_some_iff.1 OXd.out).1).trans OXd.out)
    have OA3 := Lib.hid ((hb.block pa (Array.getElem?_eq_some_iff.1 OAd.out).1).trans OAd.out)
    have OM3 := Lib.hid ((hb.block pm (Array.getElem?_eq_some_iff.1 OMd.out).1).trans OMd.out)
    have CSi := Lib.hid (CSS.out w' T3.out)
    clear hb
    refine hK.out _ _ (⟨by rw [Lib.cell_of_heap OX3.out]; rfl, by rw [Lib.cell_of_heap OX3.out]; rfl, by rw [Lib.cell_of_heap OX3.out]; rfl, by rw [Lib.cell_of_heap OX3.out]; rfl, by rw [Lib.cell_of_heap OA3.out]; rfl, by rw [Lib.cell_of_heap OM3.out]; rfl, by rw [Lib.cell_of_heap OM3.out]; rfl, cell_keep Q1.out T3.out.base⟩) (fun hHeld => ?_)
    clear hK K
    (try simp only [Act.put, List.setIfInBounds_toArray, List.set_cons_zero, List.set_cons_succ])
    refine take_run (d := some 86) (v := ?v8) 7 rfl rfl (by kernel_rfl) (by kernel_rfl) (by kernel_rfl) (fun _ _ _ h => h) (by rfl) hHeld ?hy8 ?rs8
    case hy8 => (intro w hSw; (try dsimp only at hSw); go_simp) <;> (try with_reducible rfl)
    (try simp only [Act.put, List.setIfInBounds_toArray, List.set_cons_zero, List.set_cons_succ])
    refine take_run (d := some 87) (v := ?v9) 8 rfl rfl (by kernel_rfl) (by kernel_rfl) (by kernel_rfl) (fun _ _ _ h => h) (by rfl) hHeld ?hy9 ?rs9
    case hy9 => (intro w hSw; (try dsimp only at hSw); go_simp) <;> (try with_reducible rfl)
    (try simp only [Act.put, List.setIfInBounds_toArray, List.set_cons_zero, List.set_cons_succ])
    refine take_run (d := some 88) (v := ?v10) 9 rfl rfl (by kernel_rfl) (by kernel_rfl) (by kernel_rfl) (fun _ _ _ h => h) (by rfl) hHeld ?hy10 ?rs10
    case hy10 => (intro w hSw; (try dsimp only at hSw); go_simp) <;> (try with_reducible rfl)
    (try simp only [Act.put, List.setIfInBounds_toArray, List.set_cons_zero, List.set_cons_succ])
    rename World => w3
    refine take_call 11 rfl (by kernel_rfl) (by rfl) (fun K hK => ?_)
    go_simp
    refine (CSi.out).mono ?_
    rintro e w' ⟨rfl, l', ht, hk, hs, hl⟩
    have T5 := Lib.hid ht
    have K5 := Lib.hid (K3.out.trans hk)
    have HS5 := Lib.hid hs
    have OX5 := Boxed.kp hk OX3.out (by decide) PN'.out.1
    have OA5 := Boxed.kp hk OA3.out (by decide) PN'.out.2.1
    have OM5 := Boxed.kp hk OM3.out (by decide) PN'.out.2.2
    refine hK.out _ _ (⟨by rw [Lib.cell_of_heap OX5]; rfl, by rw [Lib.cell_of_heap OX5]; rfl, by rw [Lib.cell_of_heap OX5]; rfl, by rw [Lib.cell_of_heap OX5]; rfl, by rw [Lib.cell_of_heap OA5]; rfl, by rw [Lib.cell_of_heap OM5]; rfl, by rw [Lib.cell_of_heap OM5]; rfl, cell_keep Q1.out T5.out.base⟩) (fun hHeld => ?_)
    clear hK K
    (try simp only [Act.put, List.setIfInBounds_toArray, List.set_cons_zero, List.set_cons_succ])
    refine take_run (d := some 6) (v := ?v11) 12 rfl rfl (by kernel_rfl) (by kernel_rfl) (by kernel_rfl) (fun _ _ _ h => h) (by rfl) hHeld ?hy11 ?rs11
    case hy11 => (intro w hSw; (try dsimp only at hSw); go_simp) <;> (try with_reducible rfl)
    (try simp only [Act.put, List.setIfInBounds_toArray, List.set_cons_zero, List.set_cons_succ])
    refine wpAnyH_done (by kernel_rfl) ?_ _
    go_wp2_with fail
    go_ret
    exact ⟨by rw [HRB.out]; rfl, l', T5.out, K5.out, by rw [HRB.out]; exact HS5.out, Nat.le_trans hl (Nat.add_le_add_left HLN.out _)⟩
  · have y0 : wc.cell? ⟨px, 0, none⟩ = some (.int .i64 6) := X2.out.cell 0 _ rfl
    have HR := Lib.hid (HR6.out rfl)
    clear HR1 HR2 HR3 HR4 HR5 HR6
    have hco : okD mc ms := hm
    have hnl := numM_len mc ms hco
    have CW := Lib.hid (snumber_any S W0 args l mc ms wc T2.out HE.out hco (by omega))
    generalize numM mc ms = t at *
    go_wp2_with fail
    refine CW.out.mono ?_
    rintro e w3 ⟨rfl, hs, hk⟩
    have T3 := Lib.hid hs
    have K3 := Lib.hid (K2.out.trans hk)
    clear hs hk CW
    go_wp2_with fail
    go_ret
    exact ⟨by rw [HR.out]; rfl, l ++ t, T3.out, K3.out, told_some HR.out, by rw [List.length_append]; omega⟩
end Go.Proofs.YtjlchookakbomaaGreatDoor
namespace Go.Proofs.YtjlchookakbomaaGreatDoor
open Go.RowKit Ms
open Dcm (okD)
theorem bound2 {a a' b c T K : Nat} (h : a + (1 + b + c) * K ≤ T) (h2 : a' ≤ a + (1 + b) * K) : a' + c * K ≤ T := by
  rw [Nat.add_mul] at h
  generalize (1 + b) * K = X at *
  generalize c * K = Y at *
  omega
theorem bound1 {a b c T U K : Nat} (h : a + (1 + b + c) * K ≤ T) (h2 : T ≤ U) : a + (1 + b) * K ≤ U := Nat.le_trans (Nat.le_trans (Nat.le_add_right _ _) (bound2 h (Nat.le_refl _))) h2
theorem bound3 {a a' b c T K : Nat} (h : a + (1 + b + c) * K ≤ T) (h2 : a' ≤ a + (1 + b) * K) : a' ≤ T := Nat.le_trans (Nat.le_add_right _ _) (bound2 h h2)
theorem room_none : roomE none = 1 := rfl
theorem room_some (t : List UInt8) : roomE (some t) = 0 := rfl
set_option maxRecDepth 100000 in
set_option maxHeartbeats 4000000 in
theorem say_any (S : Spk) (W0 : World) (args : List Ag) (hE : EvW W0) (hS : SetFine S.t0 S.t1 S.t2 S.t3 S.t4) (hA : ArgsFine args) (f : Nat) : SayOk S W0 args f := by
  induction f with
  | zero =>
    intro v m w l mc ms h hl hwf hT hm hc
    rcases h with ⟨rfl, A, cap, rfl⟩ | ⟨b, off, cap, _, hpos, _, _, hx⟩
    · have W1 := Lib.hid (blw_alloc w (.cells #[.int .i64 mc, .int .i64 ms] 64))
      have T0 := Lib.hid hT
      clear hT hm hc hwf hl
      go_enter Tryz.func34, Tryz.ntmps34
      go_wp2_with fail
      generalize hw1 : w.alloc (.cells #[.int .i64 mc, .int .i64 ms] 64) = w1 at *
      clear hw1
      go_loopw [12] (fun vi wr => vi = .int .i64 0 ∧ w1 = wr) (fun _ _ => 0)
      case atStart => exact ⟨rfl, rfl⟩
      case round =>
        obtain ⟨rfl, rfl⟩ := hrel
        go_wp2_with fail
        go_ret
        exact ⟨rfl, l, T0.out.below W1.out, T0.out.kp W1.out, fun t ht => by (have e : some [] = some t := ht); injection e with e; rw [← e, List.append_nil], Nat.le_add_right _ _⟩
    · exact absurd (hx 0 _ (List.getElem?_eq_getElem hpos)) (by simp [NdC])
  | succ f ih =>
    intro v m w l mc ms h hl hwf hT hm hc
    obtain ⟨R, hR⟩ : ∃ R, R = saidM (evS S.set) (valA args) (f + 1) mc ms m := ⟨_, rfl⟩
    rw [← hR]
    have HL0 := Lib.hid (show ∃ p, l = l ++ p ∧ R = (catM (saidX (evS S.set) (valA args) (saidM (evS S.set) (valA args) f) mc ms) (m.drop 0)).map (p ++ ·) from ⟨[], by simp, by rw [hR, List.drop_zero]; show catM _ m = _; simp⟩)
    obtain ⟨TT, hTT⟩ : ∃ TT, TT = l.length + cnt (f + 1) m * 4000000 := ⟨_, rfl⟩
    rw [← hTT] at hc
    have HC0 := Lib.hid (show l.length + cnt (f + 1) (m.drop 0) * 4000000 ≤ TT by rw [List.drop_zero, hTT]; exact Nat.le_refl _)
    have OA := Lib.hid fun x a n c w l => one_any S W0 args f hE hS hA ih x a n c w l mc ms
    have HWF := Lib.hid (show ∀ x ∈ m, WfX (fun t => (valA args t).1) (WfM (fun t => (valA args t).1) f) x from hwf)
    obtain ⟨A, cap, rfl, _, hel⟩ := h.spread
    have hcap : m.length ≤ cap ∨ m.length = 0 := by
      rcases h with ⟨e, _⟩ | ⟨_, _, _, e, _, q, _, _⟩
      · exact .inr (by rw [e]; rfl)
      · injection e with _ _ e; exact .inl (by omega)
    have HX := Lib.hid hel
    have HM := Lib.hid hm
    have T0 := Lib.hid hT
    have HR2 := Lib.hid (show OneP S W0 args l w R (cnt (f + 1) m * 4000000) = fun e w' => e = .returned (errN (roomE R)) ∧ ∃ l', Talk S W0 args l' w' ∧ Kp S w w' ∧ SaidIs R l l' ∧ l'.length ≤ TT by rw [hTT]; rfl)
    have W1 := Lib.hid (blw_alloc w (.cells #[.int .i64 mc, .int .i64 ms] 64))
    have O1 := Lib.hid (obj_made w #[.int .i64 mc, .int .i64 ms] 64)
    have T1 := Lib.hid (hT.below W1.out)
    have K1 := Lib.hid (hT.kp W1.out)
    have PQ := Lib.hid (show w.heap.size ≠ S.q from fun e => by have := hT.spk.lt.2; omega)
    rw [HR2.out]
    clear hR hTT hel h hwf hT hE hS hA ih HR2 hm
    generalize hlm : m.length = L at *
    go_enter Tryz.func34, Tryz.ntmps34
    go_wp2_with fail
    generalize w.alloc (.cells #[.int .i64 mc, .int .i64 ms] 64) = w1 at *
    generalize w.heap.size = pm at *
    go_loopw [12] (fun vi wr => ∃ (i : Nat) (l1 : List UInt8), vi = .int .i64 (i : Int) ∧ i ≤ L ∧ Hid (Talk S W0 args l1 wr) ∧ Hid (Kp S w wr) ∧ Hid (wr.heap[pm]? = some (.cells #[.int .i64 mc, .int .i64 ms] 64 (0, 0))) ∧ Hid (l1.length + cnt (f + 1) (m.drop i) * 4000000 ≤ TT) ∧ Hid (∃ p, l1 = l ++ p ∧ R = (catM (saidX (evS S.set) (valA args) (saidM (evS S.set) (valA args) f) mc ms) (m.drop i)).map (p ++ ·))) (fun vi _ => L - (RowKit.intOf vi).toNat)
    case atStart => exact ⟨0, l, rfl, Nat.zero_le _, T1, K1, O1, HC0, HL0⟩
    case round =>
      obtain ⟨i, l1, rfl, hi, HT, HK, HO, HC, HL⟩ := hrel
      clear HC0 HL0 T1 K1 O1 W1
      by_cases hlt : i < L
      · have hi' : (i : Int) < (L : Int) := by omega
        have hcc : L ≤ cap := by omega
        obtain ⟨x, hxi⟩ : ∃ x, m[i]? = some x := ⟨m[i]'(by omega), List.getElem?_eq_getElem (by omega)⟩
        obtain ⟨b, off, rfl, hnd⟩ := HX.out i x hxi
        obtain ⟨a0, n0, c0, p0, p1, p2, p3, p4, p5, p6⟩ := hnd
        have g0 := cell_keep p0 HT.out.base
        have g1 := cell_keep p1 HT.out.base
        have g2 := cell_keep p2 HT.out.base
        have g3 := cell_keep p3 HT.out.base
        have lb := World.block_lt_of_cell? _ _ g0
        have m0 : wr.cell? ⟨pm, 0, none⟩ = some (.int .i64 mc) := by rw [Lib.cell_of_heap HO.out]; rfl
        have m1 : wr.cell? ⟨pm, 1, none⟩ = some (.int .i64 ms) := by rw [Lib.cell_of_heap HO.out]; rfl
        have ml : pm < wr.heap.size := (Array.getElem?_eq_some_iff.1 HO.out).1
        have wi : IntKind.i64.wrap ((i : Int) + 1) = (i : Int) + 1 := IntWalk.i64_in _ (by omega)
        have hct := HC.out
        rw [cnt_step f hxi] at hct
        obtain ⟨SS, hSS⟩ : ∃ SS, SS = (((casesOf x).map (·.2)).map (cnt f)).sum := ⟨_, rfl⟩
        obtain ⟨CR, hCR⟩ : ∃ CR, CR = cnt (f + 1) (m.drop (i + 1)) := ⟨_, rfl⟩
        rw [← hSS, ← hCR] at hct
        have hb0 := bound1 hct hc
        rw [hSS] at hb0
        have WA := Lib.hid (blw_alloc wr (.cells #[.int .i64 x.kind, .string ⟨x.text.toArray⟩, .int .i64 x.off, .slice a0 n0 c0] 51))
        have TA := Lib.hid (HT.out.below WA.out)
        have KA := Lib.hid (HK.out.trans (HT.out.kp WA.out))
        have OM := Lib.hid ((WA.out.block pm ml).trans HO.out)
        have CO := Lib.hid (OA.out x a0 n0 c0 _ l1 (HWF.out x (List.mem_of_getElem? hxi)) p4 p5 p6 TA.out HM.out hb0)
        rw [← hSS] at CO
        have HN := Lib.hid fun (h : saidX (evS S.set) (valA args) (saidM (evS S.set) (valA args) f) mc ms x = none) => (show R = none by
          obtain ⟨p, _, e⟩ := HL.out
          rw [e]
          exact cat_none hxi h)
        have HS := Lib.hid fun (t : List UInt8) (h : saidX (evS S.set) (valA args) (saidM (evS S.set) (valA args) f) mc ms x = some t) => (show ∃ p, l1 ++ t = l ++ p ∧ R = (catM (saidX (evS S.set) (valA args) (saidM (evS S.set) (valA args) f) mc ms) (m.drop (i + 1))).map (p ++ ·) by
          obtain ⟨p, e1, e⟩ := HL.out
          exact ⟨p ++ t, by rw [e1, List.append_assoc], by rw [e]; exact cat_some hxi h⟩)
        clear hSS hb0
        clear HL HC HT HK HO p0 p1 p2 p3 p4 p5 p6 hxi OA HWF HX
        generalize saidX (evS S.set) (valA args) (saidM (evS S.set) (valA args) f) mc ms x = RX at *
        go_wp2_with fail
        refine CO.out.mono ?_
        rintro e w3 ⟨rfl, l2, ht, hk, hs, hln⟩
        have T3 := Lib.hid ht
        have K3 := Lib.hid (KA.out.trans hk)
        have O3 := Lib.hid (Boxed.kp hk OM.out (by decide) PQ.out)
        clear ht hk KA OM TA WA CO g0 g1 g2 g3 lb m0 m1 ml
        cases RX with
        | none =>
          have hRn := HN.out rfl
          rw [room_none, errN_one]
          go_wp2_with fail
          go_ret
          exact ⟨by rw [hRn]; exact congrArg _ errN_one.symm, l2, T3.out, K3.out, (fun t ht => by rw [hRn] at ht; cases ht), bound3 hct hln⟩
        | some t =>
          obtain rfl := hs t rfl
          have HS2 := Lib.hid (HS.out t rfl)
          have HC2 := Lib.hid (show (l1 ++ t).length + cnt (f + 1) (m.drop (i + 1)) * 4000000 ≤ TT by rw [← hCR]; exact bound2 hct hln)
          rw [room_some, errN_zero]
          clear hs HS HN
          go_wp2_with fail
          go_roundw
          case rel => exact ⟨i + 1, l1 ++ t, by go_num, by omega, T3, K3, O3, HC2, HS2⟩
          case measure => simp [RowKit.intOf]; omega
      · have hi' : ¬ (i : Int) < (L : Int) := by omega
        have HE := Lib.hid (show ∃ p, l1 = l ++ p ∧ R = some p by
          obtain ⟨p, e1, e⟩ := HL.out
          exact ⟨p, e1, by rw [e]; exact cat_end (by omega)⟩)
        clear HL
        go_wp2_with fail
        go_ret
        obtain ⟨p, rfl, e⟩ := HE.out
        have hln := HC.out
        exact ⟨by rw [e]; rfl, l ++ p, HT.out, HK.out, told_some e, by omega⟩
end Go.Proofs.YtjlchookakbomaaGreatDoor
namespace Go.Proofs.YtjlchookakbomaaGreatDoor
open Go.RowKit Ms

set_option maxRecDepth 100000 in
set_option maxHeartbeats 2000000 in
theorem nof_any {f : Nat} {v : Value} {m : List Nd} (w : World) (hw : MW w) (h : MsgAt f w v m) (hl : m.length ≤ 2000000) :
    Calls Tryz.prog 50 #[v] w fun e w' => ∃ u, e = .returned (.tuple #[u, errN (namE f m)]) ∧ w'.ownsRow w.heap.size 117 3 u (lstN f m).length (nflat (lstN f m)) ∧ Below w.heap.size w w' := by
  have CK := Lib.hid (mwhole_any w hw h hl)
  have HN := Lib.hid (show namE f m = if msgE f m ≠ 0 then msgE f m else if (allN f [] m).any (fun n => n.2.1 && n.2.2) then 7 else 0 from rfl)
  have HL := Lib.hid (show lstN f m = if namE f m = 0 then allN f [] m else [] from rfl)
  have CA := Lib.hid fun (wx : World) p u hp hb hc => nall_any f v m w wx p u [] h hl hp hb hc
  have HC := Lib.hid (fun h => cnt_small (f := f) (m := m) h)
  obtain ⟨a, n, c, rfl⟩ := h.isSlice
  clear h hw hl
  generalize lstN f m = LS at *
  generalize namE f m = NE at *
  generalize msgE f m = ME at *
  generalize allN f [] m = AL at *
  by_cases h0 : ME = 0
  case neg =>
    obtain rfl : NE = ME := by rw [HN.out, if_pos h0]
    obtain rfl : LS = [] := by rw [HL.out, if_neg h0]
    have HE := Lib.hid (show errN NE = errV NE from if_neg h0)
    rw [HE.out] at CK
    clear h0 HN HL HC CA
    go_enter Tryz.func50, Tryz.ntmps50
    go_wp2_with fail
    refine CK.out.mono ?_
    rintro e w1 ⟨rfl, hb⟩
    have W1 := Lib.hid hb
    clear hb CK
    go_wp2_with fail
    go_ret2
    exact ⟨_, by rw [HE.out]; rfl, ⟨rfl, .inl ⟨rfl, rfl⟩⟩, W1.out⟩
  subst h0
  have hcn := HC.out rfl
  rw [show errN 0 = .nilIface from rfl] at CK
  replace HN := Lib.hid (show NE = if AL.any (fun n => n.2.1 && n.2.2) then 7 else 0 from HN.out)
  go_enter Tryz.func50, Tryz.ntmps50
  go_wp2_with fail
  refine CK.out.mono ?_
  rintro e w1 ⟨rfl, hb⟩
  have W1 := Lib.hid hb
  have hsz := hb.size
  have P1 := Lib.hid (show NI w.heap.size w1.heap.size (.slice none 0 0) [] (w1.alloc (.cells #[.slice none 0 0] 110)) from ⟨Boxed.made _ _ _, World.ownsRow_nil _ _ _ _, by simp [Value.ownBlock], hsz⟩)
  clear hb CK
  go_wp2_with fail
  refine (CA.out _ _ _ P1.out (W1.out.alloc hsz _) (by simp; omega)).mono ?_
  rintro e w2 ⟨rfl, ⟨u, hu⟩, hb⟩
  have W2 := Lib.hid hb
  have P2 := Lib.hid hu
  obtain ⟨ua, uc, rfl⟩ := hu.isSlice
  have u0 : w2.cell? ⟨w1.heap.size, 0, none⟩ = some (.slice ua AL.length uc) := hu.box.cell 0 _ rfl
  have CH := Lib.hid (has_need AL (fun n => n.2.1 && n.2.2) 82 #[] of1_at (.slice ua AL.length uc) w2 (needs_of_row hu.row) (Lib.hid fun y _ wx _ => of1_any y wx))
  have hs2 := hb.size
  clear hu hb CA P1 W1 HC
  generalize w1.heap.size = p at *
  generalize (AL.any fun n => n.2.1 && n.2.2) = Z at *
  go_wp2_with fail
  refine CH.out.mono ?_
  rintro e w3 ⟨rfl, hb⟩
  have P3 := Lib.hid (P2.out.below hb)
  have W3 := Lib.hid (W2.out.trans (hb.mono hs2))
  have u1 : w3.cell? ⟨p, 0, none⟩ = some (.slice ua AL.length uc) := P3.out.box.cell 0 _ rfl
  clear hb CH P2 W2 u0
  cases Z with
  | true =>
    obtain rfl : NE = 7 := HN.out
    obtain rfl : LS = [] := HL.out
    go_wp2_with fail
    go_ret2
    exact ⟨_, rfl, ⟨rfl, .inl ⟨rfl, rfl⟩⟩, W3.out⟩
  | false =>
    obtain rfl : NE = 0 := HN.out
    obtain rfl : LS = AL := HL.out
    go_wp2_with fail
    go_ret2
    exact ⟨_, rfl, P3.out.row, W3.out⟩
end Go.Proofs.YtjlchookakbomaaGreatDoor
