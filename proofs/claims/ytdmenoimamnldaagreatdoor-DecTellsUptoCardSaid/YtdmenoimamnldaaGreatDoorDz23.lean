/- A number's text tells that number: dec.Parse at dec.Text's own. -/
import Derived.Test.YtdmenoimamnldaaGreatDoorDz22
import Derived.Test.YtdmenoimamnldaaGreatDoorDz5
namespace Go.Proofs.YtdmenoimamnldaaGreatDoor
open Go.RowKit
open Dcm (okD)

theorem cut_small (t : List UInt8) : (Lib.cut t [46]).1.length + (Lib.cut t [46]).2.1.length ≤ t.length := by
  unfold Lib.cut
  split
  · simp only [List.length_take, List.length_drop]; omega
  · simp
/-- what dec.Parse tells: a number whose text it is, or none -/
def DPost (t : List UInt8) (w : World) (e : Ending) (w' : World) : Prop :=
  (∃ c s, okD c s ∧ Byt.decText c s = t ∧ e = .returned (.tuple #[.agg #[.int .i64 c, .int .i64 s], .nilIface]) ∧ Below w.heap.size w w') ∨
  ((∀ c s, okD c s → Byt.decText c s ≠ t) ∧ e = .returned (.tuple #[.agg #[.int .i64 0, .int .i64 0], errV 3]) ∧ Below w.heap.size w w')

set_option maxRecDepth 100000 in
set_option maxHeartbeats 4000000 in
theorem dparse_any (t : List UInt8) (w : World) (hT : DM w) (ht : t.length ≤ 4000000000) : Calls Tryz.prog 9 #[.string ⟨t.toArray⟩] w (DPost t w) := by
  have HQ := Lib.hid (show ∀ c s, okD c s → Byt.decText c s = t → Lib.atoiAll ((Lib.cut t [46]).1 ++ (Lib.cut t [46]).2.1) = .ok c ∧ ((Lib.cut t [46]).2.1.length : Int) = s from fun c s h e => by rw [← e]; exact Byt.dec_cut c s h)
  have CC := Lib.hid fun w hM => cutp_any t w hM ht
  have cs := cut_small t
  generalize (Lib.cut t [46]).2.2 = I at *
  generalize (Lib.cut t [46]).2.1 = B at *
  generalize (Lib.cut t [46]).1 = A at *
  obtain ⟨X, hX⟩ : ∃ X, X = A ++ B := ⟨_, rfl⟩
  rw [← hX] at HQ
  have AD : ∀ w, (Op.stringOp .add ⟨A.toArray⟩ ⟨B.toArray⟩).run Tryz.prog w = .ok (.string ⟨X.toArray⟩) w := fun w => by rw [hX]; exact add_str (P := Tryz.prog) A B (by omega) w
  have xl : X.length ≤ 4000000000 := by rw [hX, List.length_append]; omega
  clear hX
  have R0 := Lib.hid fun (w' : World) (hb : Below (w.alloc (.cells #[.int .i64 0, .int .i64 0] 23)).heap.size (w.alloc (.cells #[.int .i64 0, .int .i64 0] 23)) w') => (Boxed.made w #[.int .i64 0, .int .i64 0] 23).below hb
  go_enter Tryz.func9, Tryz.ntmps9
  go_wp2_with fail
  refine (CC.out _ (hT.m.alloc _)).mono ?_
  rintro e w1 ⟨rfl, hb⟩
  have R1 := Lib.hid (R0.out _ hb)
  have W1 := Lib.hid (blw_trans (blw_alloc w (.cells #[.int .i64 0, .int .i64 0] 23)) hb)
  clear hb R0 CC
  have hlt := R1.out.lt
  by_cases ha : ∃ v, Lib.atoiAll X = .ok v
  case neg =>
    have CA := Lib.hid fun w hW => atoi_no X w hW xl fun v h => ha ⟨v, h⟩
    have HNO := Lib.hid (show ∀ c s, okD c s → Byt.decText c s ≠ t from fun c s h e => ha ⟨c, (HQ.out c s h e).1⟩)
    clear HQ ha
    go_wp2_with fail
    refine (CA.out _ (hT.n.below W1.out)).mono ?_
    rintro e w2 ⟨u, nb, rfl, hb⟩
    have W2 := Lib.hid (blw_trans W1.out hb)
    have R2 := Lib.hid (R1.out.below hb)
    have hlt2 := R2.out.lt
    have rc0 := R2.out.cell 0 _ rfl
    have rc1 := R2.out.cell 1 _ rfl
    have rf0 := R2.out.free 0 (by simp)
    have rf1 := R2.out.free 1 (by simp)
    clear hb CA
    go_wp2_with fail
    refine bodyPost_ret (v := .tuple #[.agg #[.int .i64 0, .int .i64 0], errV 3]) (by simp [results, Tryz.results9, go_sem, rc0, rc1, hlt2]) rfl ?_
    exact .inr ⟨HNO.out, rfl, by repeat (first | with_reducible exact W2.out | refine Below.setCell ?_ (by simp) _ | refine Below.alloc ?_ (by first | omega | (simp; omega)) _)⟩
  obtain ⟨v, hv⟩ := ha
  have CA := Lib.hid fun w => atoi_yes X v w xl hv
  have vb := Lib.atoiAll_bounds hv
  have HP := Lib.hid (show ∀ c s, okD c s → Byt.decText c s = t → c = v ∧ s = (B.length : Int) from fun c s h e => by
    obtain ⟨h1, h2⟩ := HQ.out c s h e
    rw [hv] at h1
    injection h1 with h1
    exact ⟨h1.symm, h2.symm⟩)
  clear HQ hv
  go_wp2_with fail
  refine (CA.out _).mono ?_
  rintro e w2 ⟨rfl, hb⟩
  have W2 := Lib.hid (blw_trans W1.out hb)
  have R2 := Lib.hid (R1.out.below hb)
  have hlt2 := R2.out.lt
  clear hb CA R1 W1 hlt
  by_cases hok : okD v (B.length : Int)
  case neg =>
    have CK := Lib.hid fun w => dchk_no v (B.length : Int) w hok
    have HNO := Lib.hid (show ∀ c s, okD c s → Byt.decText c s ≠ t from fun c s h e => by
      obtain ⟨rfl, rfl⟩ := HP.out c s h e
      exact hok h)
    clear HP hok
    go_wp2_with fail
    refine (CK.out _).mono ?_
    rintro e w3 ⟨rfl, hb⟩
    have W3 := Lib.hid (blw_trans (show Below w.heap.size w _ from W2.out.alloc W2.out.size _) hb)
    have R3 := Lib.hid ((R2.out.alloc _).below hb)
    have rc0 := R3.out.cell 0 _ rfl
    have rc1 := R3.out.cell 1 _ rfl
    have rf0 := R3.out.free 0 (by simp)
    have rf1 := R3.out.free 1 (by simp)
    clear hb CK
    go_wp2_with fail
    refine bodyPost_ret (v := .tuple #[.agg #[.int .i64 0, .int .i64 0], errV 3]) (by simp [results, Tryz.results9, go_sem, rc0, rc1]) rfl ?_
    exact .inr ⟨HNO.out, rfl, by repeat (first | with_reducible exact W3.out | refine Below.setCell ?_ (by simp) _)⟩
  have CK := Lib.hid fun w => dchk_yes v (B.length : Int) w hok
  have CT := Lib.hid fun w hT => dtext_any v (B.length : Int) w hT hok
  have HOK := Lib.hid hok
  obtain ⟨Y, hY⟩ : ∃ Y, Y = Byt.decText v (B.length : Int) := ⟨_, rfl⟩
  rw [← hY] at CT
  have HY := Lib.hid hY
  clear hY hok
  go_wp2_with fail
  refine (CK.out _).mono ?_
  rintro e w3 ⟨rfl, hb⟩
  have W3 := Lib.hid (blw_trans (show Below w.heap.size w _ from W2.out.alloc W2.out.size _) hb)
  have R3 := Lib.hid ((R2.out.alloc _).below hb)
  have D3 := Lib.hid ((Boxed.made w2 #[.int .i64 v, .int .i64 (B.length : Int)] 23).below hb)
  have dc0 := D3.out.cell 0 _ rfl
  have dc1 := D3.out.cell 1 _ rfl
  clear hb CK R2 W2
  go_wp2_with fail
  refine (CT.out _ (hT.p.below W3.out)).mono ?_
  rintro e w4 ⟨rfl, hb⟩
  have W4 := Lib.hid (blw_trans W3.out hb)
  have R4 := Lib.hid (R3.out.below hb)
  have D4 := Lib.hid (D3.out.below hb)
  clear hb dc0 dc1 CT R3 D3 W3
  have rc0 := R4.out.cell 0 _ rfl
  have rc1 := R4.out.cell 1 _ rfl
  have rf0 := R4.out.free 0 (by simp)
  have rf1 := R4.out.free 1 (by simp)
  have dc0 := D4.out.cell 0 _ rfl
  have dc1 := D4.out.cell 1 _ rfl
  by_cases hq : Y = t
  · have q1 : (Y == t) = true := by rw [hq]; simp
    have q2 : (Y != t) = false := by rw [bne, q1]; rfl
    have HE := Lib.hid (HY.out.symm.trans hq)
    clear hq
    go_wp2_with fail
    refine bodyPost_ret (v := .tuple #[.agg #[.int .i64 v, .int .i64 (B.length : Int)], .nilIface]) (by simp [results, Tryz.results9, go_sem, rc0, rc1]) rfl ?_
    exact .inl ⟨v, B.length, HOK.out, HE.out, rfl, by repeat (first | with_reducible exact W4.out | refine Below.setCell ?_ (by simp) _)⟩
  · have q1 : (Y == t) = false := beq_eq_false_iff_ne.2 hq
    have q2 : (Y != t) = true := by rw [bne, q1]; rfl
    have HNO := Lib.hid (show ∀ c s, okD c s → Byt.decText c s ≠ t from fun c s h e => by
      obtain ⟨rfl, rfl⟩ := HP.out c s h e
      exact hq (HY.out.trans e))
    clear hq
    go_wp2_with fail
    refine bodyPost_ret (v := .tuple #[.agg #[.int .i64 0, .int .i64 0], errV 3]) (by simp [results, Tryz.results9, go_sem, rc0, rc1]) rfl ?_
    exact .inr ⟨HNO.out, rfl, by repeat (first | with_reducible exact W4.out | refine Below.setCell ?_ (by simp) _)⟩
end Go.Proofs.YtdmenoimamnldaaGreatDoor
namespace Go.Proofs.YtdmenoimamnldaaGreatDoor
open Go.RowKit
open Dcm (okD)

/-- a number's text tells that number -/
theorem dparse_back (c s : Int) (w : World) (hT : DM w) (h : okD c s) :
    Calls Tryz.prog 9 #[.string ⟨(Byt.decText c s).toArray⟩] w fun e w' => e = .returned (.tuple #[.agg #[.int .i64 c, .int .i64 s], .nilIface]) ∧ Below w.heap.size w w' := by
  have dl := Byt.dec_len c s h
  refine (dparse_any (Byt.decText c s) w hT (by omega)).mono ?_
  rintro e w' (⟨c', s', h', he, rfl, hb⟩ | ⟨hno, _⟩)
  · have a := Byt.dec_cut c s h
    have b := Byt.dec_cut c' s' h'
    rw [he] at b
    have e1 : c' = c := by
      have := b.1.symm.trans a.1
      injection this
    have e2 : s' = s := b.2.symm.trans a.2
    subst e1 e2
    exact ⟨rfl, hb⟩
  · exact absurd rfl (hno c s h)
end Go.Proofs.YtdmenoimamnldaaGreatDoor
