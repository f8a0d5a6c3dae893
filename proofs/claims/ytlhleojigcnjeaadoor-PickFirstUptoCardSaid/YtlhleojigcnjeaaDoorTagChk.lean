/- The walks of tag.script, region, Check. -/
import Derived.Test.YtlhleojigcnjeaaDoorTagK
import Derived.Test.YtlhleojigcnjeaaDoorErrs
import Derived.Test.YtlhleojigcnjeaaDoorRead
import Derived.Test.YtlhleojigcnjeaaDoorShelfT
namespace Go.Proofs.YtlhleojigcnjeaaDoor
open Go.RowKit

def scriptB (s : List UInt8) : Bool := decide (s.length = 4) && (onlyB (s.take 1) HIGH 1 1 && onlyB (s.drop 1) LOW 3 3)
def regionB (s : List UInt8) : Bool := onlyB s HIGH 2 2 || onlyB s DIG 3 3
def headB (l s r : List UInt8) : Bool := onlyB l LOW 2 3 && ((s.isEmpty || scriptB s) && (r.isEmpty || regionB r))
/-- what is wrong with the variants behind those that are right -/
def vf : List (List UInt8) → List (List UInt8) → Int
  | pre, [] => if 3 < pre.length then 4 else 0
  | pre, v :: r => if onlyB v (LOW ++ DIG) 5 8 = false then 3 else if pre.contains v then 5 else vf (pre ++ [v]) r
/-- what is wrong with a tag -/
def tagFault (l s r : List UInt8) (vs : List (List UInt8)) : Int := if headB l s r then vf [] vs else 3
/-- the error of a number -/
def errE (n : Int) : Value := if n = 0 then .nilIface else errV n
theorem ret_err {n F : Int} (h : F = n) (hn : n ≠ 0) : Ending.returned (errV n) = .returned (errE F) := by rw [h]; unfold errE; rw [if_neg hn]
theorem ret_noerr {F : Int} (h : F = 0) : Ending.returned Value.nilIface = .returned (errE F) := by rw [h]; rfl

set_option maxRecDepth 100000 in
set_option maxHeartbeats 1000000 in
theorem script_any (s : List UInt8) (w : World) (hs : s.length ≤ 4000000000) :
    Calls Tryd.prog 50 #[.string ⟨s.toArray⟩] w fun e w' => e = .returned (.bool (scriptB s)) ∧ w = w' := by
  by_cases h4 : s.length = 4
  · have q1 : ((s.length : Int) == 4) = true := beq_yes (by omega)
    obtain ⟨c, hc⟩ : ∃ c, s[0]? = some c := ⟨s[0], List.getElem?_eq_getElem (by omega)⟩
    have IX : ∀ w, (Instr.index 9 (.string ⟨s.toArray⟩) (.int .i64 0)).run Tryd.prog w = .ok (.int .u8 (c.toNat : Int)) w := fun w => index_str (P := Tryd.prog) 9 Tryd.underlying9 s .i64 0 c hc w
    have SF : ∀ w, (Instr.slice 9 (.string ⟨s.toArray⟩) (some (.int .i64 1)) none none).run Tryd.prog w = .ok (.string ⟨(s.drop 1).toArray⟩) w := fun w => slice_from (P := Tryd.prog) 9 Tryd.underlying9 s .i64 1 (by omega) w
    have CH := Lib.hid fun w => high_any c w
    have CM := Lib.hid fun w => made_low (s.drop 1) 3 3 w (by simp; omega)
    have e1 : onlyB (s.take 1) HIGH 1 1 = HIGH.contains c := by
      cases s with
      | nil => simp at hc
      | cons b r =>
        obtain rfl : b = c := by simpa using hc
        unfold onlyB; simp
    have HP := Lib.hid (show scriptB s = (HIGH.contains c && onlyB (s.drop 1) LOW 3 3) by unfold scriptB; rw [e1, decide_eq_true h4]; rfl)
    clear e1 hc h4
    generalize scriptB s = B at *
    generalize HIGH.contains c = x at *
    generalize onlyB (s.drop 1) LOW 3 3 = y at *
    generalize s.drop 1 = D at *
    cases x
    · go_enter Tryd.func50, Tryd.ntmps50
      go_wp2_with fail
      refine (CH.out _).mono ?_
      rintro e w' ⟨rfl, rfl⟩
      go_wp2_with fail
      go_ret
      exact ⟨ret_bool (by rw [HP.out]; simp), rfl⟩
    · go_enter Tryd.func50, Tryd.ntmps50
      go_wp2_with fail
      refine (CH.out _).mono ?_
      rintro e w' ⟨rfl, rfl⟩
      go_wp2_with fail
      refine (CM.out _).mono ?_
      rintro e w' ⟨rfl, rfl⟩
      go_wp2_with fail
      go_ret
      exact ⟨ret_bool (by rw [HP.out]; simp), rfl⟩
  · have q1 : ((s.length : Int) == 4) = false := beq_no (by omega)
    have HP := Lib.hid (show scriptB s = false by unfold scriptB; rw [decide_eq_false h4]; rfl)
    clear h4
    go_enter Tryd.func50, Tryd.ntmps50
    go_wp2_with fail
    go_ret
    exact ⟨ret_bool (by rw [HP.out]), rfl⟩
set_option maxRecDepth 100000 in
set_option maxHeartbeats 1000000 in
theorem region_any (s : List UInt8) (w : World) (hs : s.length ≤ 4000000000) :
    Calls Tryd.prog 44 #[.string ⟨s.toArray⟩] w fun e w' => e = .returned (.bool (regionB s)) ∧ w = w' := by
  have CH := Lib.hid fun w => made_high s 2 2 w hs
  have CD := Lib.hid fun w => made_digit s 3 3 w hs
  have HP := Lib.hid (show regionB s = (onlyB s HIGH 2 2 || onlyB s DIG 3 3) from rfl)
  generalize regionB s = B at *
  generalize onlyB s HIGH 2 2 = x at *
  generalize onlyB s DIG 3 3 = y at *
  cases x
  · go_enter Tryd.func44, Tryd.ntmps44
    go_wp2_with fail
    refine (CH.out _).mono ?_
    rintro e w' ⟨rfl, rfl⟩
    go_wp2_with fail
    refine (CD.out _).mono ?_
    rintro e w' ⟨rfl, rfl⟩
    go_wp2_with fail
    go_ret
    exact ⟨ret_bool (by rw [HP.out]; simp), rfl⟩
  · go_enter Tryd.func44, Tryd.ntmps44
    go_wp2_with fail
    refine (CH.out _).mono ?_
    rintro e w' ⟨rfl, rfl⟩
    go_wp2_with fail
    go_ret
    exact ⟨ret_bool (by rw [HP.out]; simp), rfl⟩
theorem contains_any (l : List (List UInt8)) (b off k cap : Nat) (x : List UInt8) (w : World) (hk : k ≤ l.length) (hl : k ≤ 9223372036854775807) (hc : ∀ (j : Nat) x, l[j]? = some x → w.cell? ⟨b, off + j, none⟩ = some (.string ⟨x.toArray⟩)) :
    Calls Tryd.prog 52 #[.slice (some ⟨b, off, none⟩) k cap, .string ⟨x.toArray⟩] w fun e w' => e = .returned (.bool ((l.take k).contains x)) ∧ w = w' := by
  have c := Tryd.slices_Contains_string b off k cap (l.map fun x => ⟨x.toArray⟩) ⟨x.toArray⟩ w (by rw [List.length_map]; exact hk) hl (fun j hj => by
    rw [List.length_map] at hj
    rw [hc j l[j] (List.getElem?_eq_getElem hj), List.getD_eq_getElem?_getD, List.getElem?_map, List.getElem?_eq_getElem hj]; rfl)
  refine c.mono ?_
  rintro e w' ⟨rfl, rfl⟩
  refine ⟨ret_bool ?_, rfl⟩
  rw [Bool.eq_iff_iff, Lib.containsS_iff, List.contains_iff_mem, ← List.map_take, List.mem_map]
  constructor
  · rintro ⟨y, hy, e⟩
    have : y = x := by have := congrArg (fun z : ByteArray => z.data.toList) e; simpa using this
    exact this ▸ hy
  · exact fun h => ⟨x, h, rfl⟩

set_option maxRecDepth 100000 in
set_option maxHeartbeats 1000000 in
theorem check_bad_l (l s r : List UInt8) (V : Value) (w : World) (bl : l.length + s.length + r.length ≤ 1000000000) (hl : onlyB l LOW 2 3 = false) :
    Calls Tryd.prog 16 #[.agg #[.string ⟨l.toArray⟩, .string ⟨s.toArray⟩, .string ⟨r.toArray⟩, V]] w fun e w' => e = .returned (errV 3) ∧ Below w.heap.size w w' := by
  have CL := Lib.hid fun w => made_low l 2 3 w (by omega)
  rw [hl] at CL
  go_enter Tryd.func16, Tryd.ntmps16
  go_wp2_with fail
  refine (CL.out _).mono ?_
  rintro e w' ⟨rfl, rfl⟩
  go_wp2_with fail
  go_ret
  exact ⟨rfl, blw_alloc _ _⟩

set_option maxRecDepth 100000 in
set_option maxHeartbeats 1000000 in
theorem check_bad_s (l s r : List UInt8) (V : Value) (w : World) (bl : l.length + s.length + r.length ≤ 1000000000) (hl : onlyB l LOW 2 3 = true) (hs : s ≠ []) (hS : scriptB s = false) :
    Calls Tryd.prog 16 #[.agg #[.string ⟨l.toArray⟩, .string ⟨s.toArray⟩, .string ⟨r.toArray⟩, V]] w fun e w' => e = .returned (errV 3) ∧ Below w.heap.size w w' := by
  have CL := Lib.hid fun w => made_low l 2 3 w (by omega)
  rw [hl] at CL
  have es1 : (s == []) = false := by cases s with | nil => exact absurd rfl hs | cons => rfl
  have es2 : s.isEmpty = false := by cases s with | nil => exact absurd rfl hs | cons => rfl
  have CS := Lib.hid fun w => script_any s w (by omega)
  rw [hS] at CS
  go_enter Tryd.func16, Tryd.ntmps16
  go_wp2_with fail
  refine (CL.out _).mono ?_
  rintro e w' ⟨rfl, rfl⟩
  go_wp2_with fail
  refine (CS.out _).mono ?_
  rintro e w' ⟨rfl, rfl⟩
  go_wp2_with fail
  go_ret
  exact ⟨rfl, blw_alloc _ _⟩

set_option maxRecDepth 100000 in
set_option maxHeartbeats 1000000 in
theorem check_bad_re (l s r : List UInt8) (V : Value) (w : World) (bl : l.length + s.length + r.length ≤ 1000000000) (hl : onlyB l LOW 2 3 = true) (hs : s = []) (hr : r ≠ []) (hR : regionB r = false) :
    Calls Tryd.prog 16 #[.agg #[.string ⟨l.toArray⟩, .string ⟨s.toArray⟩, .string ⟨r.toArray⟩, V]] w fun e w' => e = .returned (errV 3) ∧ Below w.heap.size w w' := by
  have CL := Lib.hid fun w => made_low l 2 3 w (by omega)
  rw [hl] at CL
  subst hs
  have er1 : (r == []) = false := by cases r with | nil => exact absurd rfl hr | cons => rfl
  have er2 : r.isEmpty = false := by cases r with | nil => exact absurd rfl hr | cons => rfl
  have CR := Lib.hid fun w => region_any r w (by omega)
  rw [hR] at CR
  go_enter Tryd.func16, Tryd.ntmps16
  go_wp2_with fail
  refine (CL.out _).mono ?_
  rintro e w' ⟨rfl, rfl⟩
  go_wp2_with fail
  refine (CR.out _).mono ?_
  rintro e w' ⟨rfl, rfl⟩
  go_wp2_with fail
  go_ret
  exact ⟨rfl, blw_alloc _ _⟩

set_option maxRecDepth 100000 in
set_option maxHeartbeats 1000000 in
theorem check_bad_ry (l s r : List UInt8) (V : Value) (w : World) (bl : l.length + s.length + r.length ≤ 1000000000) (hl : onlyB l LOW 2 3 = true) (hs : s ≠ []) (hS : scriptB s = true) (hr : r ≠ []) (hR : regionB r = false) :
    Calls Tryd.prog 16 #[.agg #[.string ⟨l.toArray⟩, .string ⟨s.toArray⟩, .string ⟨r.toArray⟩, V]] w fun e w' => e = .returned (errV 3) ∧ Below w.heap.size w w' := by
  have CL := Lib.hid fun w => made_low l 2 3 w (by omega)
  rw [hl] at CL
  have es1 : (s == []) = false := by cases s with | nil => exact absurd rfl hs | cons => rfl
  have es2 : s.isEmpty = false := by cases s with | nil => exact absurd rfl hs | cons => rfl
  have CS := Lib.hid fun w => script_any s w (by omega)
  rw [hS] at CS
  have er1 : (r == []) = false := by cases r with | nil => exact absurd rfl hr | cons => rfl
  have er2 : r.isEmpty = false := by cases r with | nil => exact absurd rfl hr | cons => rfl
  have CR := Lib.hid fun w => region_any r w (by omega)
  rw [hR] at CR
  go_enter Tryd.func16, Tryd.ntmps16
  go_wp2_with fail
  refine (CL.out _).mono ?_
  rintro e w' ⟨rfl, rfl⟩
  go_wp2_with fail
  refine (CS.out _).mono ?_
  rintro e w' ⟨rfl, rfl⟩
  go_wp2_with fail
  refine (CR.out _).mono ?_
  rintro e w' ⟨rfl, rfl⟩
  go_wp2_with fail
  go_ret
  exact ⟨rfl, blw_alloc _ _⟩

set_option maxRecDepth 100000 in
set_option maxHeartbeats 1000000 in
theorem check_none_ee (l s r : List UInt8) (a : Option Addr) (cap : Nat) (w : World) (bl : l.length + s.length + r.length ≤ 1000000000) (hl : onlyB l LOW 2 3 = true) (hs : s = []) (hr : r = []) :
    Calls Tryd.prog 16 #[.agg #[.string ⟨l.toArray⟩, .string ⟨s.toArray⟩, .string ⟨r.toArray⟩, .slice a 0 cap]] w fun e w' => e = .returned .nilIface ∧ Below w.heap.size w w' := by
  have CL := Lib.hid fun w => made_low l 2 3 w (by omega)
  rw [hl] at CL
  subst hs
  subst hr
  go_enter Tryd.func16, Tryd.ntmps16
  go_wp2_with fail
  refine (CL.out _).mono ?_
  rintro e w' ⟨rfl, rfl⟩
  go_wp2_with fail
  refine wp_loop_rounds 1 ?_
  rw [rounds_succ]
  go_wp2_with fail
  go_ret
  exact ⟨rfl, blw_alloc _ _⟩

set_option maxRecDepth 100000 in
set_option maxHeartbeats 2000000 in
theorem check_some_ee (l s r : List UInt8) (vs : List (List UInt8)) (b off cap : Nat) (w : World) (bl : l.length + s.length + r.length ≤ 1000000000) (bv : ∀ x ∈ vs, x.length ≤ 1000000000)
    (h0 : 0 < vs.length) (hcap : vs.length ≤ cap) (hcm : cap ≤ maxLen) (hcell : ∀ (j : Nat) x, vs[j]? = some x → w.cell? ⟨b, off + j, none⟩ = some (.string ⟨x.toArray⟩)) (hl : onlyB l LOW 2 3 = true) (hs : s = []) (hr : r = []) :
    Calls Tryd.prog 16 #[.agg #[.string ⟨l.toArray⟩, .string ⟨s.toArray⟩, .string ⟨r.toArray⟩, .slice (some ⟨b, off, none⟩) vs.length cap]] w fun e w' => e = .returned (errE (vf [] vs)) ∧ Below w.heap.size w w' := by
  have CL := Lib.hid fun w => made_low l 2 3 w (by omega)
  rw [hl] at CL
  subst hs
  subst hr
  have HB := Lib.hid bv
  have hbw : b < w.heap.size := World.block_lt_of_cell? w _ (hcell 0 _ (List.getElem?_eq_getElem h0))
  have HC := Lib.hid (show ∀ (j : Nat) x, vs[j]? = some x → (w.alloc (.cells #[.string ⟨l.toArray⟩, .string ⟨#[]⟩, .string ⟨#[]⟩, .slice (some ⟨b, off, none⟩) vs.length cap] 24)).cell? ⟨b, off + j, none⟩ = some (.string ⟨x.toArray⟩) from fun j x hx => cell_keep (hcell j x hx) (blw_alloc w _))
  unfold maxLen at hcm
  clear hcell bv bl hl
  go_enter Tryd.func16, Tryd.ntmps16
  go_wp2_with fail
  refine (CL.out _).mono ?_
  rintro e w' ⟨rfl, rfl⟩
  go_wp2_with fail
  go_loop [3, 4, 35] (fun _ _ i => ∃ k : Nat, i = .int .i64 k ∧ k ≤ vs.length ∧ Hid (vf [] vs = vf (vs.take k) (vs.drop k))) (fun _ _ i => vs.length - (RowKit.intOf i).toNat)
  case atStart => exact ⟨0, rfl, Nat.zero_le _, Lib.hid (by simp)⟩
  case round =>
    obtain ⟨k, rfl, hk, HI⟩ := hrel
    by_cases hlt : k < vs.length
    · obtain ⟨x, hx⟩ : ∃ x, vs[k]? = some x := ⟨vs[k], List.getElem?_eq_getElem hlt⟩
      have xb := HB.out x (List.mem_of_getElem? hx)
      have xc := HC.out k x hx
      have CB := Lib.hid fun w => made_both x 5 8 w (by omega)
      have hd : vs.drop k = x :: vs.drop (k + 1) := by rw [List.drop_eq_getElem_cons hlt]; congr 1; exact (List.getElem?_eq_some_iff.1 hx).2
      have ht : vs.take (k + 1) = vs.take k ++ [x] := by rw [List.take_add_one, hx]; rfl
      have HI2 := Lib.hid (show vf [] vs = if onlyB x (LOW ++ DIG) 5 8 = false then 3 else if (vs.take k).contains x then 5 else vf (vs.take (k + 1)) (vs.drop (k + 1)) by rw [HI.out, hd, ht]; rfl)
      have CC := Lib.hid (contains_any vs b off k cap x _ (by omega) (by omega) HC.out)
      clear hd ht hx HI
      generalize onlyB x (LOW ++ DIG) 5 8 = B at *
      generalize (vs.take k).contains x = D at *
      cases B
      · have HF := Lib.hid (show vf [] vs = 3 by rw [HI2.out]; rfl)
        clear HI2 CC
        go_wp2_with fail
        refine (CB.out _).mono ?_
        rintro e w' ⟨rfl, rfl⟩
        go_wp2_with fail
        go_ret
        exact ⟨ret_err HF.out (by omega), blw_alloc _ _⟩
      · cases D
        · have HF := Lib.hid (show vf [] vs = vf (vs.take (k + 1)) (vs.drop (k + 1)) by rw [HI2.out]; rfl)
          clear HI2
          go_wp2_with fail
          refine (CB.out _).mono ?_
          rintro e w' ⟨rfl, rfl⟩
          go_wp2_with fail
          refine (CC.out).mono ?_
          rintro e w' ⟨rfl, rfl⟩
          go_wp2_with fail
          first | (go_round; case rel => exact ⟨k + 1, by go_num, by omega, HF⟩; case measure => simp [RowKit.intOf]; omega) | exact ⟨⟨k + 1, by go_num, by omega, HF⟩, by simp [RowKit.intOf]; omega⟩
        · have HF := Lib.hid (show vf [] vs = 5 by rw [HI2.out]; rfl)
          clear HI2
          go_wp2_with fail
          refine (CB.out _).mono ?_
          rintro e w' ⟨rfl, rfl⟩
          go_wp2_with fail
          refine (CC.out).mono ?_
          rintro e w' ⟨rfl, rfl⟩
          go_wp2_with fail
          go_ret
          exact ⟨ret_err HF.out (by omega), blw_alloc _ _⟩
    · have HF := Lib.hid (show vf [] vs = if 3 < vs.length then 4 else 0 by rw [HI.out, List.take_of_length_le (by omega), List.drop_of_length_le (by omega)]; rfl)
      clear HI
      by_cases h3 : 3 < vs.length
      · have HG := Lib.hid (show vf [] vs = 4 by rw [HF.out, if_pos h3])
        have q1 : decide ((3 : Int) < (vs.length : Int)) = true := dec_yes (by omega)
        clear HF
        go_wp2_with fail
        go_ret
        exact ⟨ret_err HG.out (by omega), blw_alloc _ _⟩
      · have HG := Lib.hid (show vf [] vs = 0 by rw [HF.out, if_neg h3])
        have q1 : decide ((3 : Int) < (vs.length : Int)) = false := dec_no (by omega)
        clear HF
        go_wp2_with fail
        go_ret
        exact ⟨ret_noerr HG.out, blw_alloc _ _⟩

set_option maxRecDepth 100000 in
set_option maxHeartbeats 1000000 in
theorem check_none_ey (l s r : List UInt8) (a : Option Addr) (cap : Nat) (w : World) (bl : l.length + s.length + r.length ≤ 1000000000) (hl : onlyB l LOW 2 3 = true) (hs : s = []) (hr : r ≠ []) (hR : regionB r = true) :
    Calls Tryd.prog 16 #[.agg #[.string ⟨l.toArray⟩, .string ⟨s.toArray⟩, .string ⟨r.toArray⟩, .slice a 0 cap]] w fun e w' => e = .returned .nilIface ∧ Below w.heap.size w w' := by
  have CL := Lib.hid fun w => made_low l 2 3 w (by omega)
  rw [hl] at CL
  subst hs
  have er1 : (r == []) = false := by cases r with | nil => exact absurd rfl hr | cons => rfl
  have er2 : r.isEmpty = false := by cases r with | nil => exact absurd rfl hr | cons => rfl
  have CR := Lib.hid fun w => region_any r w (by omega)
  rw [hR] at CR
  go_enter Tryd.func16, Tryd.ntmps16
  go_wp2_with fail
  refine (CL.out _).mono ?_
  rintro e w' ⟨rfl, rfl⟩
  go_wp2_with fail
  refine (CR.out _).mono ?_
  rintro e w' ⟨rfl, rfl⟩
  go_wp2_with fail
  refine wp_loop_rounds 1 ?_
  rw [rounds_succ]
  go_wp2_with fail
  go_ret
  exact ⟨rfl, blw_alloc _ _⟩

set_option maxRecDepth 100000 in
set_option maxHeartbeats 2000000 in
theorem check_some_ey (l s r : List UInt8) (vs : List (List UInt8)) (b off cap : Nat) (w : World) (bl : l.length + s.length + r.length ≤ 1000000000) (bv : ∀ x ∈ vs, x.length ≤ 1000000000)
    (h0 : 0 < vs.length) (hcap : vs.length ≤ cap) (hcm : cap ≤ maxLen) (hcell : ∀ (j : Nat) x, vs[j]? = some x → w.cell? ⟨b, off + j, none⟩ = some (.string ⟨x.toArray⟩)) (hl : onlyB l LOW 2 3 = true) (hs : s = []) (hr : r ≠ []) (hR : regionB r = true) :
    Calls Tryd.prog 16 #[.agg #[.string ⟨l.toArray⟩, .string ⟨s.toArray⟩, .string ⟨r.toArray⟩, .slice (some ⟨b, off, none⟩) vs.length cap]] w fun e w' => e = .returned (errE (vf [] vs)) ∧ Below w.heap.size w w' := by
  have CL := Lib.hid fun w => made_low l 2 3 w (by omega)
  rw [hl] at CL
  subst hs
  have er1 : (r == []) = false := by cases r with | nil => exact absurd rfl hr | cons => rfl
  have er2 : r.isEmpty = false := by cases r with | nil => exact absurd rfl hr | cons => rfl
  have CR := Lib.hid fun w => region_any r w (by omega)
  rw [hR] at CR
  have HB := Lib.hid bv
  have hbw : b < w.heap.size := World.block_lt_of_cell? w _ (hcell 0 _ (List.getElem?_eq_getElem h0))
  have HC := Lib.hid (show ∀ (j : Nat) x, vs[j]? = some x → (w.alloc (.cells #[.string ⟨l.toArray⟩, .string ⟨#[]⟩, .string ⟨r.toArray⟩, .slice (some ⟨b, off, none⟩) vs.length cap] 24)).cell? ⟨b, off + j, none⟩ = some (.string ⟨x.toArray⟩) from fun j x hx => cell_keep (hcell j x hx) (blw_alloc w _))
  unfold maxLen at hcm
  clear hcell bv bl hl
  go_enter Tryd.func16, Tryd.ntmps16
  go_wp2_with fail
  refine (CL.out _).mono ?_
  rintro e w' ⟨rfl, rfl⟩
  go_wp2_with fail
  refine (CR.out _).mono ?_
  rintro e w' ⟨rfl, rfl⟩
  go_wp2_with fail
  go_loop [3, 4, 35] (fun _ _ i => ∃ k : Nat, i = .int .i64 k ∧ k ≤ vs.length ∧ Hid (vf [] vs = vf (vs.take k) (vs.drop k))) (fun _ _ i => vs.length - (RowKit.intOf i).toNat)
  case atStart => exact ⟨0, rfl, Nat.zero_le _, Lib.hid (by simp)⟩
  case round =>
    obtain ⟨k, rfl, hk, HI⟩ := hrel
    by_cases hlt : k < vs.length
    · obtain ⟨x, hx⟩ : ∃ x, vs[k]? = some x := ⟨vs[k], List.getElem?_eq_getElem hlt⟩
      have xb := HB.out x (List.mem_of_getElem? hx)
      have xc := HC.out k x hx
      have CB := Lib.hid fun w => made_both x 5 8 w (by omega)
      have hd : vs.drop k = x :: vs.drop (k + 1) := by rw [List.drop_eq_getElem_cons hlt]; congr 1; exact (List.getElem?_eq_some_iff.1 hx).2
      have ht : vs.take (k + 1) = vs.take k ++ [x] := by rw [List.take_add_one, hx]; rfl
      have HI2 := Lib.hid (show vf [] vs = if onlyB x (LOW ++ DIG) 5 8 = false then 3 else if (vs.take k).contains x then 5 else vf (vs.take (k + 1)) (vs.drop (k + 1)) by rw [HI.out, hd, ht]; rfl)
      have CC := Lib.hid (contains_any vs b off k cap x _ (by omega) (by omega) HC.out)
      clear hd ht hx HI
      generalize onlyB x (LOW ++ DIG) 5 8 = B at *
      generalize (vs.take k).contains x = D at *
      cases B
      · have HF := Lib.hid (show vf [] vs = 3 by rw [HI2.out]; rfl)
        clear HI2 CC
        go_wp2_with fail
        refine (CB.out _).mono ?_
        rintro e w' ⟨rfl, rfl⟩
        go_wp2_with fail
        go_ret
        exact ⟨ret_err HF.out (by omega), blw_alloc _ _⟩
      · cases D
        · have HF := Lib.hid (show vf [] vs = vf (vs.take (k + 1)) (vs.drop (k + 1)) by rw [HI2.out]; rfl)
          clear HI2
          go_wp2_with fail
          refine (CB.out _).mono ?_
          rintro e w' ⟨rfl, rfl⟩
          go_wp2_with fail
          refine (CC.out).mono ?_
          rintro e w' ⟨rfl, rfl⟩
          go_wp2_with fail
          first | (go_round; case rel => exact ⟨k + 1, by go_num, by omega, HF⟩; case measure => simp [RowKit.intOf]; omega) | exact ⟨⟨k + 1, by go_num, by omega, HF⟩, by simp [RowKit.intOf]; omega⟩
        · have HF := Lib.hid (show vf [] vs = 5 by rw [HI2.out]; rfl)
          clear HI2
          go_wp2_with fail
          refine (CB.out _).mono ?_
          rintro e w' ⟨rfl, rfl⟩
          go_wp2_with fail
          refine (CC.out).mono ?_
          rintro e w' ⟨rfl, rfl⟩
          go_wp2_with fail
          go_ret
          exact ⟨ret_err HF.out (by omega), blw_alloc _ _⟩
    · have HF := Lib.hid (show vf [] vs = if 3 < vs.length then 4 else 0 by rw [HI.out, List.take_of_length_le (by omega), List.drop_of_length_le (by omega)]; rfl)
      clear HI
      by_cases h3 : 3 < vs.length
      · have HG := Lib.hid (show vf [] vs = 4 by rw [HF.out, if_pos h3])
        have q1 : decide ((3 : Int) < (vs.length : Int)) = true := dec_yes (by omega)
        clear HF
        go_wp2_with fail
        go_ret
        exact ⟨ret_err HG.out (by omega), blw_alloc _ _⟩
      · have HG := Lib.hid (show vf [] vs = 0 by rw [HF.out, if_neg h3])
        have q1 : decide ((3 : Int) < (vs.length : Int)) = false := dec_no (by omega)
        clear HF
        go_wp2_with fail
        go_ret
        exact ⟨ret_noerr HG.out, blw_alloc _ _⟩

set_option maxRecDepth 100000 in
set_option maxHeartbeats 1000000 in
theorem check_none_ye (l s r : List UInt8) (a : Option Addr) (cap : Nat) (w : World) (bl : l.length + s.length + r.length ≤ 1000000000) (hl : onlyB l LOW 2 3 = true) (hs : s ≠ []) (hS : scriptB s = true) (hr : r = []) :
    Calls Tryd.prog 16 #[.agg #[.string ⟨l.toArray⟩, .string ⟨s.toArray⟩, .string ⟨r.toArray⟩, .slice a 0 cap]] w fun e w' => e = .returned .nilIface ∧ Below w.heap.size w w' := by
  have CL := Lib.hid fun w => made_low l 2 3 w (by omega)
  rw [hl] at CL
  have es1 : (s == []) = false := by cases s with | nil => exact absurd rfl hs | cons => rfl
  have es2 : s.isEmpty = false := by cases s with | nil => exact absurd rfl hs | cons => rfl
  have CS := Lib.hid fun w => script_any s w (by omega)
  rw [hS] at CS
  subst hr
  go_enter Tryd.func16, Tryd.ntmps16
  go_wp2_with fail
  refine (CL.out _).mono ?_
  rintro e w' ⟨rfl, rfl⟩
  go_wp2_with fail
  refine (CS.out _).mono ?_
  rintro e w' ⟨rfl, rfl⟩
  go_wp2_with fail
  refine wp_loop_rounds 1 ?_
  rw [rounds_succ]
  go_wp2_with fail
  go_ret
  exact ⟨rfl, blw_alloc _ _⟩

set_option maxRecDepth 100000 in
set_option maxHeartbeats 2000000 in
theorem check_some_ye (l s r : List UInt8) (vs : List (List UInt8)) (b off cap : Nat) (w : World) (bl : l.length + s.length + r.length ≤ 1000000000) (bv : ∀ x ∈ vs, x.length ≤ 1000000000)
    (h0 : 0 < vs.length) (hcap : vs.length ≤ cap) (hcm : cap ≤ maxLen) (hcell : ∀ (j : Nat) x, vs[j]? = some x → w.cell? ⟨b, off + j, none⟩ = some (.string ⟨x.toArray⟩)) (hl : onlyB l LOW 2 3 = true) (hs : s ≠ []) (hS : scriptB s = true) (hr : r = []) :
    Calls Tryd.prog 16 #[.agg #[.string ⟨l.toArray⟩, .string ⟨s.toArray⟩, .string ⟨r.toArray⟩, .slice (some ⟨b, off, none⟩) vs.length cap]] w fun e w' => e = .returned (errE (vf [] vs)) ∧ Below w.heap.size w w' := by
  have CL := Lib.hid fun w => made_low l 2 3 w (by omega)
  rw [hl] at CL
  have es1 : (s == []) = false := by cases s with | nil => exact absurd rfl hs | cons => rfl
  have es2 : s.isEmpty = false := by cases s with | nil => exact absurd rfl hs | cons => rfl
  have CS := Lib.hid fun w => script_any s w (by omega)
  rw [hS] at CS
  subst hr
  have HB := Lib.hid bv
  have hbw : b < w.heap.size := World.block_lt_of_cell? w _ (hcell 0 _ (List.getElem?_eq_getElem h0))
  have HC := Lib.hid (show ∀ (j : Nat) x, vs[j]? = some x → (w.alloc (.cells #[.string ⟨l.toArray⟩, .string ⟨s.toArray⟩, .string ⟨#[]⟩, .slice (some ⟨b, off, none⟩) vs.length cap] 24)).cell? ⟨b, off + j, none⟩ = some (.string ⟨x.toArray⟩) from fun j x hx => cell_keep (hcell j x hx) (blw_alloc w _))
  unfold maxLen at hcm
  clear hcell bv bl hl
  go_enter Tryd.func16, Tryd.ntmps16
  go_wp2_with fail
  refine (CL.out _).mono ?_
  rintro e w' ⟨rfl, rfl⟩
  go_wp2_with fail
  refine (CS.out _).mono ?_
  rintro e w' ⟨rfl, rfl⟩
  go_wp2_with fail
  go_loop [3, 4, 35] (fun _ _ i => ∃ k : Nat, i = .int .i64 k ∧ k ≤ vs.length ∧ Hid (vf [] vs = vf (vs.take k) (vs.drop k))) (fun _ _ i => vs.length - (RowKit.intOf i).toNat)
  case atStart => exact ⟨0, rfl, Nat.zero_le _, Lib.hid (by simp)⟩
  case round =>
    obtain ⟨k, rfl, hk, HI⟩ := hrel
    by_cases hlt : k < vs.length
    · obtain ⟨x, hx⟩ : ∃ x, vs[k]? = some x := ⟨vs[k], List.getElem?_eq_getElem hlt⟩
      have xb := HB.out x (List.mem_of_getElem? hx)
      have xc := HC.out k x hx
      have CB := Lib.hid fun w => made_both x 5 8 w (by omega)
      have hd : vs.drop k = x :: vs.drop (k + 1) := by rw [List.drop_eq_getElem_cons hlt]; congr 1; exact (List.getElem?_eq_some_iff.1 hx).2
      have ht : vs.take (k + 1) = vs.take k ++ [x] := by rw [List.take_add_one, hx]; rfl
      have HI2 := Lib.hid (show vf [] vs = if onlyB x (LOW ++ DIG) 5 8 = false then 3 else if (vs.take k).contains x then 5 else vf (vs.take (k + 1)) (vs.drop (k + 1)) by rw [HI.out, hd, ht]; rfl)
      have CC := Lib.hid (contains_any vs b off k cap x _ (by omega) (by omega) HC.out)
      clear hd ht hx HI
      generalize onlyB x (LOW ++ DIG) 5 8 = B at *
      generalize (vs.take k).contains x = D at *
      cases B
      · have HF := Lib.hid (show vf [] vs = 3 by rw [HI2.out]; rfl)
        clear HI2 CC
        go_wp2_with fail
        refine (CB.out _).mono ?_
        rintro e w' ⟨rfl, rfl⟩
        go_wp2_with fail
        go_ret
        exact ⟨ret_err HF.out (by omega), blw_alloc _ _⟩
      · cases D
        · have HF := Lib.hid (show vf [] vs = vf (vs.take (k + 1)) (vs.drop (k + 1)) by rw [HI2.out]; rfl)
          clear HI2
          go_wp2_with fail
          refine (CB.out _).mono ?_
          rintro e w' ⟨rfl, rfl⟩
          go_wp2_with fail
          refine (CC.out).mono ?_
          rintro e w' ⟨rfl, rfl⟩
          go_wp2_with fail
          first | (go_round; case rel => exact ⟨k + 1, by go_num, by omega, HF⟩; case measure => simp [RowKit.intOf]; omega) | exact ⟨⟨k + 1, by go_num, by omega, HF⟩, by simp [RowKit.intOf]; omega⟩
        · have HF := Lib.hid (show vf [] vs = 5 by rw [HI2.out]; rfl)
          clear HI2
          go_wp2_with fail
          refine (CB.out _).mono ?_
          rintro e w' ⟨rfl, rfl⟩
          go_wp2_with fail
          refine (CC.out).mono ?_
          rintro e w' ⟨rfl, rfl⟩
          go_wp2_with fail
          go_ret
          exact ⟨ret_err HF.out (by omega), blw_alloc _ _⟩
    · have HF := Lib.hid (show vf [] vs = if 3 < vs.length then 4 else 0 by rw [HI.out, List.take_of_length_le (by omega), List.drop_of_length_le (by omega)]; rfl)
      clear HI
      by_cases h3 : 3 < vs.length
      · have HG := Lib.hid (show vf [] vs = 4 by rw [HF.out, if_pos h3])
        have q1 : decide ((3 : Int) < (vs.length : Int)) = true := dec_yes (by omega)
        clear HF
        go_wp2_with fail
        go_ret
        exact ⟨ret_err HG.out (by omega), blw_alloc _ _⟩
      · have HG := Lib.hid (show vf [] vs = 0 by rw [HF.out, if_neg h3])
        have q1 : decide ((3 : Int) < (vs.length : Int)) = false := dec_no (by omega)
        clear HF
        go_wp2_with fail
        go_ret
        exact ⟨ret_noerr HG.out, blw_alloc _ _⟩

set_option maxRecDepth 100000 in
set_option maxHeartbeats 1000000 in
theorem check_none_yy (l s r : List UInt8) (a : Option Addr) (cap : Nat) (w : World) (bl : l.length + s.length + r.length ≤ 1000000000) (hl : onlyB l LOW 2 3 = true) (hs : s ≠ []) (hS : scriptB s = true) (hr : r ≠ []) (hR : regionB r = true) :
    Calls Tryd.prog 16 #[.agg #[.string ⟨l.toArray⟩, .string ⟨s.toArray⟩, .string ⟨r.toArray⟩, .slice a 0 cap]] w fun e w' => e = .returned .nilIface ∧ Below w.heap.size w w' := by
  have CL := Lib.hid fun w => made_low l 2 3 w (by omega)
  rw [hl] at CL
  have es1 : (s == []) = false := by cases s with | nil => exact absurd rfl hs | cons => rfl
  have es2 : s.isEmpty = false := by cases s with | nil => exact absurd rfl hs | cons => rfl
  have CS := Lib.hid fun w => script_any s w (by omega)
  rw [hS] at CS
  have er1 : (r == []) = false := by cases r with | nil => exact absurd rfl hr | cons => rfl
  have er2 : r.isEmpty = false := by cases r with | nil => exact absurd rfl hr | cons => rfl
  have CR := Lib.hid fun w => region_any r w (by omega)
  rw [hR] at CR
  go_enter Tryd.func16, Tryd.ntmps16
  go_wp2_with fail
  refine (CL.out _).mono ?_
  rintro e w' ⟨rfl, rfl⟩
  go_wp2_with fail
  refine (CS.out _).mono ?_
  rintro e w' ⟨rfl, rfl⟩
  go_wp2_with fail
  refine (CR.out _).mono ?_
  rintro e w' ⟨rfl, rfl⟩
  go_wp2_with fail
  refine wp_loop_rounds 1 ?_
  rw [rounds_succ]
  go_wp2_with fail
  go_ret
  exact ⟨rfl, blw_alloc _ _⟩

set_option maxRecDepth 100000 in
set_option maxHeartbeats 2000000 in
theorem check_some_yy (l s r : List UInt8) (vs : List (List UInt8)) (b off cap : Nat) (w : World) (bl : l.length + s.length + r.length ≤ 1000000000) (bv : ∀ x ∈ vs, x.length ≤ 1000000000)
    (h0 : 0 < vs.length) (hcap : vs.length ≤ cap) (hcm : cap ≤ maxLen) (hcell : ∀ (j : Nat) x, vs[j]? = some x → w.cell? ⟨b, off + j, none⟩ = some (.string ⟨x.toArray⟩)) (hl : onlyB l LOW 2 3 = true) (hs : s ≠ []) (hS : scriptB s = true) (hr : r ≠ []) (hR : regionB r = true) :
    Calls Tryd.prog 16 #[.agg #[.string ⟨l.toArray⟩, .string ⟨s.toArray⟩, .string ⟨r.toArray⟩, .slice (some ⟨b, off, none⟩) vs.length cap]] w fun e w' => e = .returned (errE (vf [] vs)) ∧ Below w.heap.size w w' := by
  have CL := Lib.hid fun w => made_low l 2 3 w (by omega)
  rw [hl] at CL
  have es1 : (s == []) = false := by cases s with | nil => exact absurd rfl hs | cons => rfl
  have es2 : s.isEmpty = false := by cases s with | nil => exact absurd rfl hs | cons => rfl
  have CS := Lib.hid fun w => script_any s w (by omega)
  rw [hS] at CS
  have er1 : (r == []) = false := by cases r with | nil => exact absurd rfl hr | cons => rfl
  have er2 : r.isEmpty = false := by cases r with | nil => exact absurd rfl hr | cons => rfl
  have CR := Lib.hid fun w => region_any r w (by omega)
  rw [hR] at CR
  have HB := Lib.hid bv
  have hbw : b < w.heap.size := World.block_lt_of_cell? w _ (hcell 0 _ (List.getElem?_eq_getElem h0))
  have HC := Lib.hid (show ∀ (j : Nat) x, vs[j]? = some x → (w.alloc (.cells #[.string ⟨l.toArray⟩, .string ⟨s.toArray⟩, .string ⟨r.toArray⟩, .slice (some ⟨b, off, none⟩) vs.length cap] 24)).cell? ⟨b, off + j, none⟩ = some (.string ⟨x.toArray⟩) from fun j x hx => cell_keep (hcell j x hx) (blw_alloc w _))
  unfold maxLen at hcm
  clear hcell bv bl hl
  go_enter Tryd.func16, Tryd.ntmps16
  go_wp2_with fail
  refine (CL.out _).mono ?_
  rintro e w' ⟨rfl, rfl⟩
  go_wp2_with fail
  refine (CS.out _).mono ?_
  rintro e w' ⟨rfl, rfl⟩
  go_wp2_with fail
  refine (CR.out _).mono ?_
  rintro e w' ⟨rfl, rfl⟩
  go_wp2_with fail
  go_loop [3, 4, 35] (fun _ _ i => ∃ k : Nat, i = .int .i64 k ∧ k ≤ vs.length ∧ Hid (vf [] vs = vf (vs.take k) (vs.drop k))) (fun _ _ i => vs.length - (RowKit.intOf i).toNat)
  case atStart => exact ⟨0, rfl, Nat.zero_le _, Lib.hid (by simp)⟩
  case round =>
    obtain ⟨k, rfl, hk, HI⟩ := hrel
    by_cases hlt : k < vs.length
    · obtain ⟨x, hx⟩ : ∃ x, vs[k]? = some x := ⟨vs[k], List.getElem?_eq_getElem hlt⟩
      have xb := HB.out x (List.mem_of_getElem? hx)
      have xc := HC.out k x hx
      have CB := Lib.hid fun w => made_both x 5 8 w (by omega)
      have hd : vs.drop k = x :: vs.drop (k + 1) := by rw [List.drop_eq_getElem_cons hlt]; congr 1; exact (List.getElem?_eq_some_iff.1 hx).2
      have ht : vs.take (k + 1) = vs.take k ++ [x] := by rw [List.take_add_one, hx]; rfl
      have HI2 := Lib.hid (show vf [] vs = if onlyB x (LOW ++ DIG) 5 8 = false then 3 else if (vs.take k).contains x then 5 else vf (vs.take (k + 1)) (vs.drop (k + 1)) by rw [HI.out, hd, ht]; rfl)
      have CC := Lib.hid (contains_any vs b off k cap x _ (by omega) (by omega) HC.out)
      clear hd ht hx HI
      generalize onlyB x (LOW ++ DIG) 5 8 = B at *
      generalize (vs.take k).contains x = D at *
      cases B
      · have HF := Lib.hid (show vf [] vs = 3 by rw [HI2.out]; rfl)
        clear HI2 CC
        go_wp2_with fail
        refine (CB.out _).mono ?_
        rintro e w' ⟨rfl, rfl⟩
        go_wp2_with fail
        go_ret
        exact ⟨ret_err HF.out (by omega), blw_alloc _ _⟩
      · cases D
        · have HF := Lib.hid (show vf [] vs = vf (vs.take (k + 1)) (vs.drop (k + 1)) by rw [HI2.out]; rfl)
          clear HI2
          go_wp2_with fail
          refine (CB.out _).mono ?_
          rintro e w' ⟨rfl, rfl⟩
          go_wp2_with fail
          refine (CC.out).mono ?_
          rintro e w' ⟨rfl, rfl⟩
          go_wp2_with fail
          first | (go_round; case rel => exact ⟨k + 1, by go_num, by omega, HF⟩; case measure => simp [RowKit.intOf]; omega) | exact ⟨⟨k + 1, by go_num, by omega, HF⟩, by simp [RowKit.intOf]; omega⟩
        · have HF := Lib.hid (show vf [] vs = 5 by rw [HI2.out]; rfl)
          clear HI2
          go_wp2_with fail
          refine (CB.out _).mono ?_
          rintro e w' ⟨rfl, rfl⟩
          go_wp2_with fail
          refine (CC.out).mono ?_
          rintro e w' ⟨rfl, rfl⟩
          go_wp2_with fail
          go_ret
          exact ⟨ret_err HF.out (by omega), blw_alloc _ _⟩
    · have HF := Lib.hid (show vf [] vs = if 3 < vs.length then 4 else 0 by rw [HI.out, List.take_of_length_le (by omega), List.drop_of_length_le (by omega)]; rfl)
      clear HI
      by_cases h3 : 3 < vs.length
      · have HG := Lib.hid (show vf [] vs = 4 by rw [HF.out, if_pos h3])
        have q1 : decide ((3 : Int) < (vs.length : Int)) = true := dec_yes (by omega)
        clear HF
        go_wp2_with fail
        go_ret
        exact ⟨ret_err HG.out (by omega), blw_alloc _ _⟩
      · have HG := Lib.hid (show vf [] vs = 0 by rw [HF.out, if_neg h3])
        have q1 : decide ((3 : Int) < (vs.length : Int)) = false := dec_no (by omega)
        clear HF
        go_wp2_with fail
        go_ret
        exact ⟨ret_noerr HG.out, blw_alloc _ _⟩
end Go.Proofs.YtlhleojigcnjeaaDoor
