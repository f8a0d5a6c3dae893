/- The law CoverTells, proved where what it reads is of bulk at most 1048576: the call returns true of every input, and turns nothing that was there. Conditions: the row's own (the listed variables hold what the program's text lays; the card ties them). -/
import Derived.Test.YtainindkndjkbaaGreatDoorCvC
import Derived.Test.YtainindkndjkbaaGreatDoorCvB
import Derived.Test.YtainindkndjkbaaGreatDoorDcm
import Derived.Test.YtainindkndjkbaaGreatDoorProg
import Derived.Test.YtainindkndjkbaaGreatDoorRead
import Derived.Test.YtainindkndjkbaaGreatDoorDrew
import Derived.Test.YtainindkndjkbaaGreatDoorStr
import Derived.Test.YtainindkndjkbaaGreatDoorErrs
import Derived.BigQuiet
import Derived.OwnWalk
import Derived.Test.YtainindkndjkbaaGreatDoorCvD
import Derived.Test.YtainindkndjkbaaGreatDoorAs
import Derived.Test.YtainindkndjkbaaGreatDoorRows
import Derived.Test.YtainindkndjkbaaGreatDoorMsgA
import Derived.OpenShut
import Derived.Deep.Slices
import Derived.Deep.Fields
import Derived.ChangeSame
import Derived.Test.YtainindkndjkbaaGreatDoorReadO
import Derived.Test.YtainindkndjkbaaGreatDoorCvA
import Derived.LaidSub
import Derived.MakeChecks
import Derived.Test.YtainindkndjkbaaGreatDoorCards
import Derived.Test.YtainindkndjkbaaGreatDoorTie
import Derived.Deep.DeepHandedRow
import Derived.Deep.DeepWitnessRowRef
import Derived.Stop.Joined
import Derived.Test.YtainindkndjkbaaGreatDoorLaid
import Derived.Test.YtainindkndjkbaaGreatDoorFrame
import Derived.Test.YtainindkndjkbaaGreatDoorPow
import Derived.Test.YtainindkndjkbaaGreatDoorAgg5
import Derived.Test.YtainindkndjkbaaGreatDoorHan
namespace Go.Proofs.YtainindkndjkbaaGreatDoor
open Go.RowKit Ms

set_option maxRecDepth 100000 in
set_option maxHeartbeats 2000000 in
theorem nof_any {f : Nat} {v : Value} {m : List Nd} (w : World) (hw : MW w) (h : MsgAt f w v m) (hl : m.length ≤ 2000000) :
    Calls Tryz.prog 22 #[v] w fun e w' => ∃ u, e = .returned (.tuple #[u, errN (namE f m)]) ∧ w'.ownsRow w.heap.size 57 3 u (lstN f m).length (nflat (lstN f m)) ∧ Below w.heap.size w w' := by
  have CK := Lib.hid (mwhole_any w hw h hl)
  have HN := Lib.hid (show namE f m = if msgE f m ≠ 0 then msgE f m else if (allN f [] m).any (fun n => n.2.1 && n.2.2) then 7 else 0 from rfl)
  have HL := Lib.hid (show lstN f m = if namE f m = 0 then allN f [] m else [] from rfl)
  have CA := Lib.hid fun (wx : World) p u hp hb hc => nall_any f v m w wx p u [] h hl hp hb hc
  have HC := Lib.hid (fun h => cnt_small (f := f) (m := m) h)
  obtain ⟨a, n, c, rfl⟩ := h.isSlice
  clear h hw hl
  generalize lstN f m = LS at *
  generalize namE f m = NE at *
  generalize msgE f m = ME at *
  generalize allN f [] m = AL at *
  by_cases h0 : ME = 0
  case neg =>
    obtain rfl : NE = ME := by rw [HN.out, if_pos h0]
    obtain rfl : LS = [] := by rw [HL.out, if_neg h0]
    have HE := Lib.hid (show errN NE = errV NE from if_neg h0)
    rw [HE.out] at CK
    clear h0 HN HL HC CA
    go_enter Tryz.func22, Tryz.ntmps22
    go_wp2_with fail
    refine CK.out.mono ?_
    rintro e w1 ⟨rfl, hb⟩
    have W1 := Lib.hid hb
    clear hb CK
    go_wp2_with fail
    go_ret2
    exact ⟨_, by rw [HE.out]; rfl, ⟨rfl, .inl ⟨rfl, rfl⟩⟩, W1.out⟩
  subst h0
  have hcn := HC.out rfl
  rw [show errN 0 = .nilIface from rfl] at CK
  replace HN := Lib.hid (show NE = if AL.any (fun n => n.2.1 && n.2.2) then 7 else 0 from HN.out)
  go_enter Tryz.func22, Tryz.ntmps22
  go_wp2_with fail
  refine CK.out.mono ?_
  rintro e w1 ⟨rfl, hb⟩
  have W1 := Lib.hid hb
  have hsz := hb.size
  have P1 := Lib.hid (show NI w.heap.size w1.heap.size (.slice none 0 0) [] (w1.alloc (.cells #[.slice none 0 0] 53)) from ⟨Boxed.made _ _ _, World.ownsRow_nil _ _ _ _, by simp [Value.ownBlock], hsz⟩)
  clear hb CK
  go_wp2_with fail
  refine (CA.out _ _ _ P1.out (W1.out.alloc hsz _) (by simp; omega)).mono ?_
  rintro e w2 ⟨rfl, ⟨u, hu⟩, hb⟩
  have W2 := Lib.hid hb
  have P2 := Lib.hid hu
  obtain ⟨ua, uc, rfl⟩ := hu.isSlice
  have u0 : w2.cell? ⟨w1.heap.size, 0, none⟩ = some (.slice ua AL.length uc) := hu.box.cell 0 _ rfl
  have CH := Lib.hid (has_need AL (fun n => n.2.1 && n.2.2) 49 #[] of1_at (.slice ua AL.length uc) w2 (needs_of_row hu.row) (Lib.hid fun y _ wx _ => of1_any y wx))
  have hs2 := hb.size
  clear hu hb CA P1 W1 HC
  generalize w1.heap.size = p at *
  generalize (AL.any fun n => n.2.1 && n.2.2) = Z at *
  go_wp2_with fail
  refine CH.out.mono ?_
  rintro e w3 ⟨rfl, hb⟩
  have P3 := Lib.hid (P2.out.below hb)
  have W3 := Lib.hid (W2.out.trans (hb.mono hs2))
  have u1 : w3.cell? ⟨p, 0, none⟩ = some (.slice ua AL.length uc) := P3.out.box.cell 0 _ rfl
  clear hb CH P2 W2 u0
  cases Z with
  | true =>
    obtain rfl : NE = 7 := HN.out
    obtain rfl : LS = [] := HL.out
    go_wp2_with fail
    go_ret2
    exact ⟨_, rfl, ⟨rfl, .inl ⟨rfl, rfl⟩⟩, W3.out⟩
  | false =>
    obtain rfl : NE = 0 := HN.out
    obtain rfl : LS = AL := HL.out
    go_wp2_with fail
    go_ret2
    exact ⟨_, rfl, P3.out.row, W3.out⟩
end Go.Proofs.YtainindkndjkbaaGreatDoor
namespace Go.Proofs.YtainindkndjkbaaGreatDoor
open Go.RowKit Ms

set_option maxRecDepth 100000 in
set_option maxHeartbeats 2000000 in
theorem nOf_any {f : Nat} {v : Value} {m : List Nd} (w : World) (hw : MW w) (h : MsgAt f w v m) (hl : m.length ≤ 2000000) :
    Calls Tryz.prog 6 #[v] w fun e w' => ∃ u, e = .returned (.tuple #[u, errN (namE f m)]) ∧ w'.ownsRow w.heap.size 39 5 u (lstN f m).length (nafl (lstN f m)) ∧ Below w.heap.size w w' := by
  obtain ⟨iN, hiN, hN0, hN1, hN2⟩ := info_parts infoArg
  have CK := Lib.hid (nof_any w hw h hl)
  have HL := Lib.hid (show lstN f m = if namE f m = 0 then allN f [] m else [] from rfl)
  have HLL := Lib.hid (lstN_len f m)
  obtain ⟨a, n, c, rfl⟩ := h.isSlice
  clear h hw hl
  generalize lstN f m = LS at *
  generalize namE f m = NE at *
  by_cases h0 : NE = 0
  case neg =>
    obtain rfl : LS = [] := by rw [HL.out, if_neg h0]
    have HE := Lib.hid (show errN NE = errV NE from if_neg h0)
    rw [HE.out] at CK
    clear h0 HL
    go_enter Tryz.func6, Tryz.ntmps6
    go_wp2_with fail
    refine CK.out.mono ?_
    rintro e w1 ⟨u, rfl, hr, hb⟩
    have W1 := Lib.hid hb
    obtain ⟨ua, uc, rfl⟩ : ∃ ua uc, u = .slice ua 0 uc := by
      rcases hr.2 with ⟨rfl, _⟩ | ⟨g, cap, cur, rfl, _⟩
      · exact ⟨none, 0, rfl⟩
      · exact ⟨_, _, rfl⟩
    clear hb CK hr
    go_wp2_with fail
    go_ret2
    exact ⟨_, by rw [HE.out]; rfl, ⟨rfl, .inl ⟨rfl, rfl⟩⟩, W1.out⟩
  subst h0
  rw [show errN 0 = .nilIface from rfl] at CK ⊢
  clear HL
  have hll := HLL.out
  clear HLL
  go_enter Tryz.func6, Tryz.ntmps6
  go_wp2_with fail
  refine CK.out.mono ?_
  rintro e w1 ⟨u, rfl, hr, hb⟩
  have W1 := Lib.hid hb
  have hsz := hb.size
  obtain ⟨A, cap, rfl, _, hel⟩ := (needs_of_row hr).spread
  have HX := Lib.hid hel
  clear hb CK hr hel
  generalize hN : LS.length = N at *
  go_wp2_with fail
  go_loopw [6, 19] (fun vo vi wr => ∃ (i : Nat) (oa : Option Addr) (oc : Nat), vi = .int .i64 (i : Int) ∧ vo = .slice oa i oc ∧ i ≤ N ∧ Hid (wr.ownsRow w1.heap.size 39 5 (.slice oa i oc) i (nafl (LS.take i))) ∧ Hid (Below w1.heap.size w1 wr)) (fun _ vi _ => N - (RowKit.intOf vi).toNat)
  case atStart => exact ⟨0, none, 0, rfl, rfl, Nat.zero_le _, Lib.hid ⟨rfl, .inl ⟨rfl, rfl⟩⟩, Lib.hid (Below.refl _ _)⟩
  case round =>
    obtain ⟨i, oa, oc, rfl, rfl, hi, HO, HB⟩ := hrel
    by_cases hlt : i < N
    · have hi' : (i : Int) < (N : Int) := by omega
      obtain ⟨x, hxi⟩ : ∃ x, LS[i]? = some x := ⟨LS[i]'(by omega), List.getElem?_eq_getElem (by omega)⟩
      obtain ⟨b, off, rfl, p0, p1, p2⟩ := HX.out i x hxi
      have g0 := cell_keep p0 HB.out
      have g1 := cell_keep p1 HB.out
      have g2 := cell_keep p2 HB.out
      have lb := World.block_lt_of_cell? _ _ g0
      have HTK := Lib.hid (show nafl (LS.take (i + 1)) = nafl (LS.take i) ++ acells (ofN x) by rw [List.take_add_one, hxi]; exact nafl_add _ _)
      have wi : IntKind.i64.wrap ((i : Int) + 1) = (i : Int) + 1 := IntWalk.i64_in _ (by omega)
      obtain ⟨t, bn, bt⟩ := x
      have hown := HO.out
      have hbs := HB.out.size
      clear p0 p1 p2 hxi
      go_wp2_with (at_builtin; refine wpList_append_own_at _ rfl _ _ 23 rfl w1.heap.size 39 iN _ 5 56 Tryz.underlying23 hiN hN0 hN1 hN2 rfl (by decide) _ i (nafl (LS.take i)) rfl ((hown.alloc _).alloc _) ⟨wr.heap.size + 1, 0, none⟩ 1 1 (acells (ofN (t, bn, bt))) rfl rfl (ncells_at _ (acells (ofN (t, bn, bt))) _ _ (by simp)) (acells_one _) (by unfold maxLen; omega) (by omega) (by simp; omega) ?_; intro v' w3 hown' hgrow _ _; have HO3 := Lib.hid hown'; have HB3 := Lib.hid (((HB.out.alloc hbs _).alloc (by simp; omega) _).grown hgrow (by simp; omega) (fun k hk => (hown.lt k hk).1)); clear hown hown' hgrow HO HB; obtain ⟨va', vc', rfl⟩ := mrow_slice HO3.out)
      go_roundw
      case rel => exact ⟨i + 1, va', vc', by go_num, rfl, by omega, by rw [HTK.out]; exact HO3, HB3⟩
      case measure => simp [RowKit.intOf]; omega
    · have hi' : ¬ (i : Int) < (N : Int) := by omega
      have ei : i = N := by omega
      subst ei
      have HO2 := HO.out
      rw [List.take_of_length_le (by omega)] at HO2
      have HO3 := Lib.hid HO2
      clear HO HO2
      go_wp2_with fail
      go_ret2
      exact ⟨_, rfl, nrow_mono HO3.out hsz, blw_trans W1.out HB.out⟩
end Go.Proofs.YtainindkndjkbaaGreatDoor
namespace Go.Proofs.YtainindkndjkbaaGreatDoor
open Go.RowKit
namespace Ms
/-- is the number none? -/
def badA (a : Ag) : Bool := !decide (Dcm.okD a.co a.sc)
def hasA (l : List Ag) (t : List UInt8) : Bool := l.any fun a => a.name == t
/-- what is wrong with the args by themselves -/
def argE : List Ag → List Ag → Int
  | _, [] => 0
  | d, a :: r => if !nameB a.name then 3 else if a.num && badA a then 1 else if hasA d a.name then 5 else argE (d ++ [a]) r
/-- with the needs -/
def askE (args : List Ag) : List Need → Int
  | [] => 0
  | n :: r => match args.find? (fun a => a.name == n.1) with
    | none => 2
    | some a => if (n.2.1 && !a.num) || (n.2.2 && a.num) then 7 else askE args r
/-- with all -/
def fitE (f : Nat) (m : List Nd) (args : List Ag) : Int := if namE f m ≠ 0 then namE f m else if argE [] args ≠ 0 then argE [] args else askE args (allN f [] m)
end Ms
end Go.Proofs.YtainindkndjkbaaGreatDoor
namespace Go.Proofs.YtainindkndjkbaaGreatDoor
open Go.RowKit
namespace Ms
/-- all are names -/
def OkN (l : List Need) : Prop := ∀ n ∈ l, nameB n.1 = true
theorem okN_map {l k : List Need} (h : OkN l) (e : k.map (·.1) = l.map (·.1)) : OkN k := by
  intro n hn
  have : n.1 ∈ k.map (·.1) := List.mem_map.2 ⟨n, hn, rfl⟩
  rw [e] at this
  obtain ⟨x, hx, ex⟩ := List.mem_map.1 this
  rw [← ex]; exact h x hx
theorem okN_add {l : List Need} (h : OkN l) (x : Nd) (hx : ¬ (x.kind = 1 ∨ x.kind = 6) → nameB x.text = true) : OkN (addN l x) := by
  unfold addN
  split
  · exact h
  · rename_i hk
    refine okN_map (l := grownN l x.text) ?_ (map_mod _ _ _ _)
    unfold grownN
    split
    · exact h
    · intro n hn
      rcases List.mem_append.1 hn with hn | hn
      · exact h n hn
      · obtain rfl : n = (x.text, false, false) := by simpa using hn
        exact hx hk
theorem okN_go {F : List Need → List Nd → List Need} : ∀ (bs : List (List Nd)) (l : List Need), (∀ b ∈ bs, ∀ l, OkN l → OkN (F l b)) → OkN l → OkN (goN F l bs)
  | [], _, _, h => h
  | b :: r, l, hF, h => okN_go r (F l b) (fun b hb => hF b (by simp [hb])) (hF b (by simp) l h)
theorem csE_bodies {G : Bool → List Nd → Int} {x : Nd} {mark : Bool} : ∀ (l : List (List UInt8 × List Nd)) (seen : List (List UInt8)), csE G x mark seen l = 0 → ∀ y ∈ l, G (mark || decide (x.kind = 4)) y.2 = 0
  | [], _, _, y, hy => by simp at hy
  | z :: r, seen, h, y, hy => by
    unfold csE at h
    split at h
    · cases h
    · split at h
      · cases h
      · split at h
        · rename_i h1; exact absurd h h1
        · rename_i h1
          rcases List.mem_cons.1 hy with rfl | hy
          · exact Decidable.not_not.1 h1
          · exact csE_bodies r _ h y hy
theorem ndE_name {G : Bool → List Nd → Int} {x : Nd} {prev : Option Int} {mark : Bool} (h : ndE G x prev mark = 0) : ¬ (x.kind = 1 ∨ x.kind = 6) → nameB x.text = true := by
  intro hk
  unfold ndE at h
  split at h
  · cases h
  · rename_i h1
    have hf : fineB x prev mark = true := by simpa using h1
    unfold fineB at hf
    rw [if_neg (fun e => hk (.inl e))] at hf
    split at hf
    · exact hf
    · have : ¬ x.kind = 6 := fun e => hk (.inr e)
      rw [decide_eq_false this] at hf
      cases hf
theorem ndE_cases {G : Bool → List Nd → Int} {x : Nd} {prev : Option Int} {mark : Bool} (h : ndE G x prev mark = 0) : ∀ y ∈ casesOf x, G (mark || decide (x.kind = 4)) y.2 = 0 := by
  unfold ndE at h
  unfold casesOf
  split at h
  · cases h
  · split at h
    · cases h
    · split
      · rename_i hk
        rw [if_pos hk] at h
        exact csE_bodies _ _ h
      · intro y hy; simp at hy
theorem okN_all : ∀ (f : Nat) (m : List Nd) (mark : Bool) (prev : Option Int), (match f with | 0 => True | g + 1 => msE (chk g) mark prev m = 0) → ∀ l, OkN l → OkN (allN f l m)
  | 0, _, _, _, _, _, h => h
  | f + 1, m, mark, prev, hc, l, h => by
    induction m generalizing l prev with
    | nil => exact h
    | cons x r ih =>
      have hc' : msE (chk f) mark prev (x :: r) = 0 := hc
      unfold msE at hc'
      split at hc'
      · rename_i h1; exact absurd hc' h1
      · rename_i h1
        have h0 := Decidable.not_not.1 h1
        refine ih (some x.kind) hc' _ (okN_go _ _ (fun b hb l hl => ?_) (okN_add h x (ndE_name h0)))
        obtain ⟨y, hy, rfl⟩ := List.mem_map.1 hb
        have hG := ndE_cases h0 y hy
        cases f with
        | zero => exact hl
        | succ g => exact okN_all (g + 1) y.2 (mark || decide (x.kind = 4)) none hG l hl
theorem namE_zero {f : Nat} {m : List Nd} (h : namE f m = 0) : msgE f m = 0 ∧ ((allN f [] m).any fun n => n.2.1 && n.2.2) = false ∧ lstN f m = allN f [] m := by
  have hl : lstN f m = allN f [] m := by unfold lstN; rw [if_pos h]
  unfold namE at h
  split at h
  · rename_i h1; exact absurd h h1
  · rename_i h1
    refine ⟨Decidable.not_not.1 h1, ?_, hl⟩
    split at h
    · cases h
    · rename_i h2; simpa using h2
theorem names_ok {f : Nat} {m : List Nd} (h : namE f m = 0) : OkN (allN f [] m) := by
  have h1 := (namE_zero h).1
  unfold msgE at h1
  split at h1
  · cases h1
  · cases f with
    | zero => intro n hn; simp [allN] at hn
    | succ g => exact okN_all (g + 1) m false none h1 [] (by intro n hn; simp at hn)
theorem names_dist (f : Nat) (m : List Nd) : Dist (allN f [] m) := dist_all f [] m (by simp [Dist])
theorem argE_ok : ∀ (A d : List Ag), (∀ a ∈ A, nameB a.name = true ∧ (a.num && badA a) = false) → (A.map (·.name)).Nodup → (∀ a ∈ A, hasA d a.name = false) → argE d A = 0
  | [], _, _, _, _ => rfl
  | a :: r, d, h1, h2, h3 => by
    have ha := h1 a (by simp)
    rw [List.map_cons, List.nodup_cons] at h2
    unfold argE
    rw [ha.1, ha.2, h3 a (by simp)]
    show argE (d ++ [a]) r = 0
    refine argE_ok r (d ++ [a]) (fun b hb => h1 b (by simp [hb])) h2.2 (fun b hb => ?_)
    unfold hasA
    rw [List.any_append]
    have e1 : (d.any fun x => x.name == b.name) = false := h3 b (by simp [hb])
    rw [e1]
    have : (a.name == b.name) = false := by
      rw [beq_eq_false_iff_ne]
      intro e
      exact h2.1 (List.mem_map.2 ⟨b, hb, e.symm⟩)
    simp [this]
/-- so is a need met -/
def Met (A : List Ag) (n : Need) : Prop := A.find? (fun a => a.name == n.1) = some (ofN n) ∧ (n.2.1 && n.2.2) = false
theorem askE_cons (A : List Ag) (n : Need) (r : List Need) : askE A (n :: r) = match A.find? (fun a => a.name == n.1) with
    | none => 2
    | some a => if (n.2.1 && !a.num) || (n.2.2 && a.num) then 7 else askE A r := rfl
theorem askE_met {A : List Ag} (l k : List Need) (h : ∀ n ∈ l, Met A n) : askE A (l ++ k) = askE A k := by
  induction l with
  | nil => rfl
  | cons n r ih =>
    have hn := h n (by simp)
    show askE A (n :: (r ++ k)) = _
    rw [askE_cons, hn.1]
    show (if (n.2.1 && !n.2.1 || n.2.2 && n.2.1) = true then 7 else askE A (r ++ k)) = _
    rw [if_neg (by have := hn.2; cases h1 : n.2.1 <;> cases h2 : n.2.2 <;> simp_all)]
    exact ih fun n hn => h n (List.mem_cons_of_mem _ hn)
theorem find_own : ∀ {l : List Need}, Dist l → ∀ {n : Need}, n ∈ l → ∀ z, (l.map ofN ++ z).find? (fun a => a.name == n.1) = some (ofN n)
  | [], _, _, hn, _ => by cases hn
  | x :: r, h, n, hn, z => by
    rw [show Dist (x :: r) = List.Nodup (x.1 :: r.map (·.1)) from rfl, List.nodup_cons] at h
    rw [List.map_cons, List.cons_append, List.find?_cons]
    rcases List.mem_cons.1 hn with rfl | hm
    · have : ((ofN n).name == n.1) = true := by show (n.1 == n.1) = true; simp
      rw [this]
    · have : ((ofN x).name == n.1) = false := by
        rw [beq_eq_false_iff_ne]
        intro e
        exact h.1 (List.mem_map.2 ⟨n, hm, e.symm⟩)
      rw [this]
      exact find_own h.2 hm z
theorem own_fine {l : List Need} (h : OkN l) : ∀ a ∈ l.map ofN, nameB a.name = true ∧ (a.num && badA a) = false := by
  intro a ha
  obtain ⟨n, hn, rfl⟩ := List.mem_map.1 ha
  refine ⟨h n hn, ?_⟩
  have : badA (ofN n) = false := rfl
  rw [this]; simp
theorem own_names (l : List Need) : (l.map ofN).map (·.name) = l.map (·.1) := by rw [List.map_map]; rfl
theorem any_not {l : List Need} (h : (l.any fun n => n.2.1 && n.2.2) = false) : ∀ n ∈ l, (n.2.1 && n.2.2) = false := by
  intro n hn
  cases hc : n.2.1 && n.2.2 with
  | false => rfl
  | true =>
    have : (l.any fun n => n.2.1 && n.2.2) = true := List.any_eq_true.2 ⟨n, hn, hc⟩
    rw [this] at h; cases h
/-- all of them fit, and so they do with more of another name -/
theorem fit_more {f : Nat} {m : List Nd} (h : namE f m = 0) (z : List Ag) (hz : ∀ a ∈ z, nameB a.name = true ∧ (a.num && badA a) = false) (hd : ((allN f [] m).map (·.1) ++ z.map (·.name)).Nodup) : fitE f m ((allN f [] m).map ofN ++ z) = 0 := by
  have h1 := namE_zero h
  unfold fitE
  rw [if_neg (by simp [h]), if_neg ?_]
  · have := askE_met (A := (allN f [] m).map ofN ++ z) (allN f [] m) [] fun n hn => ⟨find_own (names_dist f m) hn z, any_not h1.2.1 n hn⟩
    rw [List.append_nil] at this
    rw [this]; rfl
  · rw [Decidable.not_not]
    refine argE_ok _ [] (fun a ha => ?_) (by rw [List.map_append, own_names]; exact hd) (fun a _ => rfl)
    rcases List.mem_append.1 ha with ha | ha
    · exact own_fine (names_ok h) a ha
    · exact hz a ha
theorem fit_own {f : Nat} {m : List Nd} (h : namE f m = 0) : fitE f m ((allN f [] m).map ofN) = 0 := by
  have := fit_more h [] (by simp) (by simpa using names_dist f m)
  rwa [List.append_nil] at this
/-- without one of them they do not -/
theorem fit_less {f : Nat} {m : List Nd} (h : namE f m = 0) {i : Nat} (hi : i < (allN f [] m).length) : fitE f m (((allN f [] m).map ofN).take i ++ ((allN f [] m).map ofN).drop (i + 1)) = 2 := by
  have h1 := namE_zero h
  have hd := names_dist f m
  have ho := names_ok h
  generalize hL : allN f [] m = L at *
  obtain ⟨x, hx⟩ : ∃ x, L[i]? = some x := ⟨L[i], List.getElem?_eq_getElem hi⟩
  have e : L = L.take i ++ x :: L.drop (i + 1) := by
    obtain ⟨hi', ex⟩ := List.getElem?_eq_some_iff.1 hx
    rw [← ex, ← List.drop_eq_getElem_cons hi', List.take_append_drop]
  rw [← List.map_take, ← List.map_drop]
  generalize L.take i = A at *
  generalize L.drop (i + 1) = B at *
  subst e
  unfold Dist at hd
  rw [List.map_append, List.map_cons, List.nodup_append, List.nodup_cons] at hd
  obtain ⟨d1, ⟨d2, d3⟩, d4⟩ := hd
  unfold fitE
  rw [if_neg (by simp [h]), if_neg ?_]
  · rw [hL, askE_met A (x :: B) fun n hn => ⟨find_own d1 hn _, any_not h1.2.1 n (by simp [hn])⟩]
    have : (A.map ofN ++ B.map ofN).find? (fun a => a.name == x.1) = none := by
      rw [List.find?_eq_none]
      intro a ha e
      have e' : a.name = x.1 := by simpa using e
      rcases List.mem_append.1 ha with ha | ha
      · obtain ⟨n, hn, rfl⟩ := List.mem_map.1 ha
        exact d4 n.1 (List.mem_map.2 ⟨n, hn, rfl⟩) x.1 (by simp) e'
      · obtain ⟨n, hn, rfl⟩ := List.mem_map.1 ha
        exact d2 (List.mem_map.2 ⟨n, hn, e'⟩)
    unfold askE
    rw [this]
  · rw [Decidable.not_not, ← List.map_append]
    refine argE_ok _ [] (own_fine fun n hn => ho n (by rcases List.mem_append.1 hn with h | h <;> simp [h])) ?_ (fun a _ => rfl)
    rw [own_names, List.map_append, List.nodup_append]
    exact ⟨d1, d3, fun a ha b hb => d4 a ha b (by simp [hb])⟩
theorem find_idx {α : Type} (p : α → Bool) : ∀ l : List α, l.find? p = l[l.findIdx p]?
  | [] => rfl
  | a :: l => by cases h : p a <;> simp [List.find?_cons, List.findIdx_cons, h, find_idx p l]
/-- the place of a name -/
def idxA (l : List Ag) (t : List UInt8) : Int := if l.findIdx (fun a => a.name == t) < l.length then (l.findIdx (fun a => a.name == t) : Int) else -1
theorem idxA_lt (l : List Ag) (t : List UInt8) : idxA l t < 0 ↔ hasA l t = false := by
  have e := List.findIdx_lt_length (xs := l) (p := fun a => a.name == t)
  unfold idxA hasA
  constructor
  · intro h
    split at h
    · omega
    · rename_i h1
      rw [e] at h1
      cases hc : l.any fun a => a.name == t with
      | false => rfl
      | true => exact absurd (List.any_eq_true.1 hc) h1
  · intro h
    rw [if_neg]
    · omega
    · intro h1
      rw [List.any_eq_true.2 (e.1 h1)] at h; cases h
theorem idxA_find (l : List Ag) (t : List UInt8) : (hasA l t = false ∧ l.find? (fun a => a.name == t) = none ∧ idxA l t = -1) ∨ ∃ (k : Nat) (a : Ag), l[k]? = some a ∧ l.find? (fun a => a.name == t) = some a ∧ idxA l t = (k : Int) ∧ k < l.length := by
  by_cases h : l.findIdx (fun a => a.name == t) < l.length
  · exact .inr ⟨l.findIdx (fun a => a.name == t), l[l.findIdx (fun a => a.name == t)], List.getElem?_eq_getElem h, (find_idx _ l).trans (List.getElem?_eq_getElem h), by unfold idxA; rw [if_pos h], h⟩
  · have h0 : idxA l t = -1 := by unfold idxA; rw [if_neg h]
    have h1 := (idxA_lt l t).1 (by omega)
    refine .inl ⟨h1, ?_, h0⟩
    rw [List.find?_eq_none]
    intro a ha e
    unfold hasA at h1
    rw [List.any_eq_true.2 ⟨a, ha, e⟩] at h1; cases h1
end Ms
end Go.Proofs.YtainindkndjkbaaGreatDoor
namespace Go.Proofs.YtainindkndjkbaaGreatDoor
open Go.RowKit Ms
namespace Ms
def appM : List Nd := [.mk 4 [110] 0 [([111, 110, 101], [.mk 1 [111, 110, 101, 32, 97, 112, 112, 108, 101] 0 []]), ([111, 116, 104, 101, 114], [.mk 6 [] 0 [], .mk 1 [32, 97, 112, 112, 108, 101, 115] 0 []])]]
theorem app_names : namE 2 appM = 0 ∧ lstN 2 appM = [([110], true, false)] := by decide +kernel
end Ms
theorem app_at {W : World} {p0 p2 p4 p5 : Nat} (h0 : Boxed W p0 #[.int .i64 1, .string ⟨#[111, 110, 101, 32, 97, 112, 112, 108, 101]⟩, .int .i64 0, .slice none 0 0])
    (h2 : Boxed W p2 #[.int .i64 6, .string ⟨#[]⟩, .int .i64 0, .slice none 0 0, .int .i64 1, .string ⟨#[32, 97, 112, 112, 108, 101, 115]⟩, .int .i64 0, .slice none 0 0])
    (h4 : Boxed W p4 #[.string ⟨#[111, 110, 101]⟩, .slice (some ⟨p0, 0, none⟩) 1 1, .string ⟨#[111, 116, 104, 101, 114]⟩, .slice (some ⟨p2, 0, none⟩) 2 2])
    (h5 : Boxed W p5 #[.int .i64 4, .string ⟨#[110]⟩, .int .i64 0, .slice (some ⟨p4, 0, none⟩) 2 2]) : MsgAt 2 W (.slice (some ⟨p5, 0, none⟩) 1 1) appM := by
  refine .inr ⟨p5, 0, 1, rfl, by decide, by decide, by decide, fun j x hx => ?_⟩
  match j, hx with
  | 0, hx =>
    obtain rfl := Option.some.inj hx
    refine ⟨some ⟨p4, 0, none⟩, 2, 2, h5.cell 0 _ rfl, h5.cell 1 _ rfl, h5.cell 2 _ rfl, h5.cell 3 _ rfl, ?_, by decide, by decide⟩
    refine .inr ⟨p4, 0, 2, rfl, by decide, by decide, by decide, fun j y hy => ?_⟩
    match j, hy with
    | 0, hy =>
      obtain rfl := Option.some.inj hy
      refine ⟨some ⟨p0, 0, none⟩, 1, 1, h4.cell 0 _ rfl, h4.cell 1 _ rfl, ?_, by decide, by decide⟩
      refine .inr ⟨p0, 0, 1, rfl, by decide, by decide, by decide, fun j z hz => ?_⟩
      match j, hz with
      | 0, hz =>
        obtain rfl := Option.some.inj hz
        exact ⟨none, 0, 0, h0.cell 0 _ rfl, h0.cell 1 _ rfl, h0.cell 2 _ rfl, h0.cell 3 _ rfl, .inl ⟨rfl, none, 0, rfl⟩, by decide, by decide⟩
    | 1, hy =>
      obtain rfl := Option.some.inj hy
      refine ⟨some ⟨p2, 0, none⟩, 2, 2, h4.cell 2 _ rfl, h4.cell 3 _ rfl, ?_, by decide, by decide⟩
      refine .inr ⟨p2, 0, 2, rfl, by decide, by decide, by decide, fun j z hz => ?_⟩
      match j, hz with
      | 0, hz =>
        obtain rfl := Option.some.inj hz
        exact ⟨none, 0, 0, h2.cell 0 _ rfl, h2.cell 1 _ rfl, h2.cell 2 _ rfl, h2.cell 3 _ rfl, .inl ⟨rfl, none, 0, rfl⟩, by decide, by decide⟩
      | 1, hz =>
        obtain rfl := Option.some.inj hz
        exact ⟨none, 0, 0, h2.cell 4 _ rfl, h2.cell 5 _ rfl, h2.cell 6 _ rfl, h2.cell 7 _ rfl, .inl ⟨rfl, none, 0, rfl⟩, by decide, by decide⟩
theorem boxed_here {W : World} {p : Nat} (vs : Array Value) (t : TypeId) (h : p = W.heap.size) : Boxed (W.alloc (.cells vs t)) p vs := by subst h; exact Boxed.made W vs t
set_option maxRecDepth 100000 in
set_option maxHeartbeats 2000000 in
theorem apples_any (w : World) : Calls Tryz.prog 7 #[] w fun e w' => ∃ v, e = .returned v ∧ MsgAt 2 w' v appM ∧ Below w.heap.size w w' := by
  go_enter Tryz.func7, Tryz.ntmps7
  go_wp2_with fail
  go_ret
  refine ⟨_, rfl, ?_, ?_⟩
  · refine app_at (p0 := w.heap.size) (p2 := w.heap.size + 1 + 1) (p4 := w.heap.size + 1 + 1 + 1 + 1) (p5 := w.heap.size + 1 + 1 + 1 + 1 + 1) ?_ ?_ ?_ ?_
    · exact (((((boxed_here _ _ rfl).alloc _).alloc _).alloc _).alloc _).alloc _
    · exact (((boxed_here _ _ (by simp)).alloc _).alloc _).alloc _
    · exact (boxed_here _ _ (by simp)).alloc _
    · exact boxed_here _ _ (by simp)
  · exact (((((blw_alloc w _).alloc (by simp) _).alloc (by simp; omega) _).alloc (by simp; omega) _).alloc (by simp; omega) _).alloc (by simp; omega) _
end Go.Proofs.YtainindkndjkbaaGreatDoor
namespace Go.Proofs.YtainindkndjkbaaGreatDoor
open Go.RowKit

set_option maxRecDepth 100000 in
set_option maxHeartbeats 1000000 in
theorem texts_far (a b : Option Addr) (n m ca cb : Nat) (w : World) (h : n ≠ m) :
    Calls Tryz.prog 20 #[.slice a n ca, .slice b m cb] w fun e w' => e = .returned (.bool false) ∧ Drew w w' := by
  have q1 : ((n : Int) == (m : Int)) = false := beq_no (by omega)
  have q2 : ((n : Int) != (m : Int)) = true := by rw [bne, q1]; rfl
  clear h
  go_enter Tryz.func20, Tryz.ntmps20
  go_wp2
  go_ret
  exact ⟨rfl, Drew.refl _⟩
set_option maxRecDepth 100000 in
set_option maxHeartbeats 1000000 in
theorem texts_none (a b : Option Addr) (ca cb : Nat) (w : World) :
    Calls Tryz.prog 20 #[.slice a 0 ca, .slice b 0 cb] w fun e w' => e = .returned (.bool true) ∧ Drew w w' := by
  go_enter Tryz.func20, Tryz.ntmps20
  go_wp2_with fail
  refine wp_loop_rounds 1 ?_
  rw [rounds_succ]
  go_wp2_with fail
  go_ret
  exact ⟨rfl, Drew.refl _⟩
set_option maxRecDepth 100000 in
set_option maxHeartbeats 1000000 in
theorem texts_some (la lb : List (List UInt8)) (n b off cap b' off' cap' : Nat) (w : World) (hla : la.length = n) (hlb : lb.length = n) (h1 : n ≤ cap) (h2 : cap ≤ maxLen)
    (hc : ∀ (j : Nat) x, la[j]? = some x → w.cell? ⟨b, off + j, none⟩ = some (.string ⟨x.toArray⟩)) (hc' : ∀ (j : Nat) x, lb[j]? = some x → w.cell? ⟨b', off' + j, none⟩ = some (.string ⟨x.toArray⟩)) :
    Calls Tryz.prog 20 #[.slice (some ⟨b, off, none⟩) n cap, .slice (some ⟨b', off', none⟩) n cap'] w fun e w' => e = .returned (.bool (decide (la = lb))) ∧ Drew w w' := by
  generalize HPOST : decide (la = lb) = POST
  have HP := Lib.hid HPOST
  have HC := Lib.hid hc
  have HC' := Lib.hid hc'
  have HA := Lib.hid hla
  have HB := Lib.hid hlb
  unfold maxLen at h2
  clear HPOST hc hc' hla hlb
  go_enter Tryz.func20, Tryz.ntmps20
  go_wp2_with fail
  go_loopw [5] (fun i wr => ∃ k : Nat, i = .int .i64 k ∧ k ≤ n ∧ Hid (Drew w wr) ∧ Hid (la.take k = lb.take k)) (fun i _ => n - (RowKit.intOf i).toNat)
  case atStart => exact ⟨0, rfl, Nat.zero_le _, Drew.refl _, Lib.hid rfl⟩
  case round =>
    obtain ⟨k, rfl, hk, HD, HE⟩ := hrel
    by_cases hlt : k < n
    · obtain ⟨x, hx⟩ : ∃ x, la[k]? = some x := ⟨la[k]'(by have := HA.out; omega), List.getElem?_eq_getElem (by have := HA.out; omega)⟩
      obtain ⟨y, hy⟩ : ∃ y, lb[k]? = some y := ⟨lb[k]'(by have := HB.out; omega), List.getElem?_eq_getElem (by have := HB.out; omega)⟩
      have xc := cell_keep (HC.out k x hx) HD.out.below
      have yc := cell_keep (HC'.out k y hy) HD.out.below
      have HX := Lib.hid hx
      have HY := Lib.hid hy
      clear hx hy
      have k0 : (0 : Int) ≤ (k : Int) := by omega
      have k1 : (k : Int) < (n : Int) := by omega
      by_cases e : x = y
      · subst e
        have HE2 := Lib.hid (show la.take (k + 1) = lb.take (k + 1) by rw [List.take_add_one, List.take_add_one, HX.out, HY.out, HE.out])
        go_wp2_with fail
        go_quiet (fail)
        go_wp2_with fail
        go_roundw
        case rel => exact ⟨k + 1, by go_num, by omega, Lib.hid (HD.out.drewN _), HE2⟩
        case measure => simp [RowKit.intOf]; omega
      · have q1 : (x == y) = false := beq_eq_false_iff_ne.2 e
        have q2 : (x != y) = true := by rw [bne, q1]; rfl
        have HF := Lib.hid (show POST = false by
          rw [← HP.out]
          refine decide_eq_false fun g => e ?_
          have := HX.out
          rw [g, HY.out] at this
          exact (Option.some.inj this).symm)
        clear e
        go_wp2_with fail
        go_quiet (fail)
        go_wp2_with fail
        go_ret
        exact ⟨ret_bool HF.out.symm, HD.out.drewN _⟩
    · have HF := Lib.hid (show POST = true by
        rw [← HP.out]
        have h := HE.out
        have a := HA.out
        have b := HB.out
        rw [List.take_of_length_le (by omega), List.take_of_length_le (by omega)] at h
        exact decide_eq_true h)
      go_wp2_with fail
      go_ret
      exact ⟨ret_bool HF.out.symm, HD.out⟩
theorem StrsAt.len {w : World} {v : Value} {l : List (List UInt8)} (h : StrsAt w v l) (hl : l.length ≤ maxLen) : ∃ a cap, v = .slice a l.length cap := by
  rcases h with ⟨rfl, a, cap, rfl⟩ | ⟨b, off, cap, rfl, _⟩
  · exact ⟨a, cap, rfl⟩
  · exact ⟨_, cap, rfl⟩
theorem texts_any (la lb : List (List UInt8)) (va vb : Value) (w : World) (ha : StrsAt w va la) (hb : StrsAt w vb lb) (na : la.length ≤ maxLen) (nb : lb.length ≤ maxLen) :
    Calls Tryz.prog 20 #[va, vb] w fun e w' => e = .returned (.bool (decide (la = lb))) ∧ Drew w w' := by
  by_cases hl : la.length = lb.length
  · rcases ha with ⟨rfl, a, ca, rfl⟩ | ⟨b, off, cap, rfl, h0, h1, h2, hc⟩
    · obtain rfl : lb = [] := List.length_eq_zero_iff.1 hl.symm
      obtain ⟨a', ca', rfl⟩ := hb.len nb
      exact texts_none a a' ca ca' w
    · rcases hb with ⟨rfl, a, ca, rfl⟩ | ⟨b', off', cap', rfl, h0', _, _, hc'⟩
      · simp at hl; rw [hl] at h0; simp at h0
      · rw [hl] at h1 ⊢
        exact texts_some la lb _ b off cap b' off' cap' w hl rfl h1 h2 hc hc'
  · obtain ⟨a, ca, rfl⟩ := ha.len na
    obtain ⟨b, cb, rfl⟩ := hb.len nb
    rw [decide_eq_false (fun e => hl (by rw [e]))]
    exact texts_far a b _ _ ca cb w hl
end Go.Proofs.YtainindkndjkbaaGreatDoor
namespace Rul
open Go Go.Lib Go.Proofs.YtainindkndjkbaaGreatDoor
def few3R : Rule := [[⟨110, 0, false, [(3, 3)]⟩]]
def few3S : List UInt8 := [110, 32, 61, 32, 51]
theorem few3_p : parseOk few3S = true ∧ ruleP few3S = few3R := by
  have := parse_text (r := few3R) (by decide)
  rwa [show ruleT few3R = few3S by decide +kernel] at this
theorem few3_ok : setOk [[], [], [], few3S, []] = true := by
  have h1 : textOk few3S = true := by unfold textOk; rw [few3_p.1, Bool.or_true]
  have h0 : textOk [] = true := rfl
  simp [setOk, h1, h0]
end Rul
namespace Go.Proofs.YtainindkndjkbaaGreatDoor
open Go.RowKit Ms
namespace Ms
theorem app_cov : covE 2 appM [[], [], [], Rul.few3S, []] = 0 := by
  have h1 : msgE 2 appM = 0 := by decide +kernel
  unfold covE
  rw [h1, Rul.few3_ok]
  rfl
theorem app_miss : missL 2 appM [[], [], [], Rul.few3S, []] = [[110, 46, 102, 101, 119]] := by
  unfold missL
  rw [if_pos app_cov]
  decide +kernel
end Ms
theorem errNo_C (k : Int) : ErrNo (errN k) k := by
  unfold errN
  split
  · rename_i h; subst h; exact ErrNo.nil
  · exact ErrNo.no k

set_option maxRecDepth 100000 in
set_option maxHeartbeats 8000000 in
theorem ctell_any {f : Nat} {v : Value} {m : List Nd} (t0 t1 t2 t3 t4 : List UInt8) (w : World) (hw : MW w) (hT : TR w) (hH : HanW w) (h : MsgAt f w v m) (hl : m.length ≤ 2000000) (ht : ∀ t ∈ [t0, t1, t2, t3, t4], t.length ≤ 100000000) :
    Calls Tryz.prog 5 #[v, .agg #[.string ⟨t0.toArray⟩, .string ⟨t1.toArray⟩, .string ⟨t2.toArray⟩, .string ⟨t3.toArray⟩, .string ⟨t4.toArray⟩]] w fun e w' => e = .returned (.bool true) ∧ Below w.heap.size w w' := by
  have CO1 := Lib.hid fun wx v1 (hb : Below w.heap.size w wx) (h1 : MsgAt 2 wx v1 appM) => miss_any [] [] [] Rul.few3S [] wx (hw.below hb) (hT.below hb) h1 (by decide) (by decide)
  have CO := Lib.hid fun wx (hb : Below w.heap.size w wx) => miss_any t0 t1 t2 t3 t4 wx (hw.below hb) (hT.below hb) (msg_below h hb) hl ht
  have CI := Lib.hid fun wx (hb : Below w.heap.size w wx) => idle_any t0 t1 t2 t3 t4 wx (hw.below hb) (hT.below hb) (msg_below h hb) hl ht
  have CQ := Lib.hid fun wx (hb : Below w.heap.size w wx) => mfault_any wx (msg_below h hb) hl
  have CF := Lib.hid fun (wx : World) => setfault_any t0 t1 t2 t3 t4 wx ht
  have CA := Lib.hid fun wx (hb : Below w.heap.size w wx) (hc : cnt f m ≤ 60) => qmiss_any t0 t1 t2 t3 t4 f v m wx (msg_below h hb) hl (by omega)
  have CB := Lib.hid fun wx (hb : Below w.heap.size w wx) (hc : cnt f m ≤ 60) => qidle_any t0 t1 t2 t3 t4 f v m wx (msg_below h hb) hl (by omega)
  have CE := Lib.hid fun (k : Int) wx (hb : Below w.heap.size w wx) => sameErr_yes (errNo_C k) wx (hH.below hb)
  have CS := Lib.hid fun (l : List (List UInt8)) (a b : Value) wx (h1 : StrsAt wx a l) (h2 : StrsAt wx b l) (hll : l.length ≤ 1000000000) => (texts_any l l a b wx h1 h2 (by unfold maxLen; omega) (by unfold maxLen; omega)).mono fun e w' h => (show e = .returned (.bool true) ∧ Below wx.heap.size wx w' from ⟨h.1.trans (ret_bool (by simp)), h.2.below⟩)
  have HE := Lib.hid (show covE f m [t0, t1, t2, t3, t4] = if msgE f m ≠ 0 then msgE f m else if Rul.setOk [t0, t1, t2, t3, t4] = true then 0 else 3 from rfl)
  have HLM := Lib.hid (show missL f m [t0, t1, t2, t3, t4] = if covE f m [t0, t1, t2, t3, t4] = 0 then eachM (missN [t0, t1, t2, t3, t4]) (fun _ _ => []) f m else [] from rfl)
  have HLI := Lib.hid (show idleL f m [t0, t1, t2, t3, t4] = if covE f m [t0, t1, t2, t3, t4] = 0 then eachM (fun _ => []) (idleN [t0, t1, t2, t3, t4]) f m else [] from rfl)
  have HC := Lib.hid (fun (h0 : covE f m [t0, t1, t2, t3, t4] = 0) => cnt_small (f := f) (m := m) (covE_zero h0))
  obtain ⟨a, n, c, rfl⟩ := h.isSlice
  have B0 := Lib.hid (Boxed.made w #[.string ⟨t0.toArray⟩, .string ⟨t1.toArray⟩, .string ⟨t2.toArray⟩, .string ⟨t3.toArray⟩, .string ⟨t4.toArray⟩] 44)
  have W0 := Lib.hid (blw_alloc w (.cells #[.string ⟨t0.toArray⟩, .string ⟨t1.toArray⟩, .string ⟨t2.toArray⟩, .string ⟨t3.toArray⟩, .string ⟨t4.toArray⟩] 44))
  clear h hl ht hw hH hT
  generalize missL f m [t0, t1, t2, t3, t4] = LM at *
  generalize idleL f m [t0, t1, t2, t3, t4] = LI at *
  generalize covE f m [t0, t1, t2, t3, t4] = NE at *
  generalize msgE f m = ME at *
  generalize eachM (missN [t0, t1, t2, t3, t4]) (fun _ _ => []) f m = AM at *
  generalize eachM (fun _ => []) (idleN [t0, t1, t2, t3, t4]) f m = AI at *
  generalize Rul.setOk [t0, t1, t2, t3, t4] = Z at *
  go_enter Tryz.func5, Tryz.ntmps5
  go_wp2_with fail
  refine (apples_any _).mono ?_
  rintro e w1 ⟨v1, rfl, hm, hb⟩
  have W1 := Lib.hid (blw_trans W0.out hb)
  have B1 := Lib.hid (B0.out.below hb)
  have CO1h := Lib.hid (CO1.out w1 v1 W1.out hm)
  obtain ⟨a1, n1, c1, rfl⟩ := hm.isSlice
  rw [app_cov, app_miss] at CO1h
  unfold Rul.few3S at CO1h
  clear hb hm CO1 W0 B0
  go_wp2_with fail
  refine CO1h.out.mono ?_
  rintro e w2 ⟨u1, rfl, hr, hb⟩
  have W2 := Lib.hid (blw_trans W1.out hb)
  have B2 := Lib.hid (B1.out.below hb)
  rw [show errN 0 = .nilIface from rfl]
  obtain ⟨g, cap1, rfl⟩ := nrow_some hr (by decide)
  have G1 : w2.cell? ⟨g, 0, none⟩ = some (.string ⟨#[110, 46, 102, 101, 119]⟩) := nrow_cells hr rfl
  have hcp : 1 ≤ cap1 := (by rcases hr.2 with ⟨e, _⟩ | ⟨_, _, _, e, _, _, h, _⟩; cases e; injection e with _ _ e; subst e; exact h)
  rw [show ([[110, 46, 102, 101, 119]] : List (List UInt8)).length = 1 from rfl]
  clear hr hb CO1h W1 B1
  go_wp2_with fail
  refine (CQ.out w2 W2.out).mono ?_
  rintro e w3 ⟨rfl, hb⟩
  have W3 := Lib.hid (blw_trans W2.out hb)
  have V3 := Lib.hid hb
  have B3 := Lib.hid (B2.out.below hb)
  clear hb CQ W2 B2
  by_cases hM : ME = 0
  case neg =>
    have HN := Lib.hid (show NE = ME by rw [HE.out, if_pos hM])
    have h0 : NE ≠ 0 := by rw [HN.out]; exact hM
    obtain rfl : LM = [] := by rw [HLM.out, if_neg h0]
    obtain rfl : LI = [] := by rw [HLI.out, if_neg h0]
    have HNN := HN.out
    subst HNN
    have b0 : (NE == 0) = false := beq_no h0
    clear h0 hM HE HLM HLI HC CA CB CF
    have RM := Lib.hid (show StrsAt w3 (.slice none 0 0) [] from .inl ⟨rfl, none, 0, rfl⟩)
    have RI := Lib.hid (show StrsAt w3 (.slice none 0 0) [] from .inl ⟨rfl, none, 0, rfl⟩)
    have RM3 := RM
    have RI3 := RI
    clear RM RI
    have s0 := B3.out.cell 0 _ rfl
    have s1 := B3.out.cell 1 _ rfl
    have s2 := B3.out.cell 2 _ rfl
    have s3 := B3.out.cell 3 _ rfl
    have s4 := B3.out.cell 4 _ rfl
    have sl := B3.out.lt
    go_wp2_with fail
    refine (CO.out w3 W3.out).mono ?_
    rintro e w4 ⟨u, rfl, hr, hb⟩
    have W4 := Lib.hid (blw_trans W3.out hb)
    have V4 := Lib.hid (blw_trans V3.out hb)
    have B4 := Lib.hid (B3.out.below hb)
    have RM4 := Lib.hid (StrsAt.below RM3.out hb)
    have RI4 := Lib.hid (StrsAt.below RI3.out hb)
    obtain ⟨ua, uc, rfl⟩ := mrow_slice hr
    have RA4 := Lib.hid (StrsAt.of_row hr)
    clear hb W3 V3 B3 RM3 RI3 hr CO s0 s1 s2 s3 s4 sl
    go_wp2_with fail
    refine (CE.out NE w4 W4.out).mono ?_
    rintro e w5 ⟨rfl, hb⟩
    have W5 := Lib.hid (blw_trans W4.out hb)
    have V5 := Lib.hid (blw_trans V4.out hb)
    have B5 := Lib.hid (B4.out.below hb)
    have RM5 := Lib.hid (StrsAt.below RM4.out hb)
    have RI5 := Lib.hid (StrsAt.below RI4.out hb)
    have RA5 := Lib.hid (StrsAt.below RA4.out hb)
    clear hb W4 V4 B4 RM4 RI4 RA4 
    go_wp2_with fail
    refine (CS.out [] _ _ w5 RA5.out RM5.out (by simp)).mono ?_
    rintro e w6 ⟨rfl, hb⟩
    have W6 := Lib.hid (blw_trans W5.out hb)
    have V6 := Lib.hid (blw_trans V5.out hb)
    have B6 := Lib.hid (B5.out.below hb)
    have RI6 := Lib.hid (StrsAt.below RI5.out hb)
    clear hb W5 V5 B5 RI5 RA5 RM5
    have s0 := B6.out.cell 0 _ rfl
    have s1 := B6.out.cell 1 _ rfl
    have s2 := B6.out.cell 2 _ rfl
    have s3 := B6.out.cell 3 _ rfl
    have s4 := B6.out.cell 4 _ rfl
    have sl := B6.out.lt
    go_wp2_with fail
    refine (CI.out w6 W6.out).mono ?_
    rintro e w7 ⟨u, rfl, hr, hb⟩
    have W7 := Lib.hid (blw_trans W6.out hb)
    have V7 := Lib.hid (blw_trans V6.out hb)
    have B7 := Lib.hid (B6.out.below hb)
    have RI7 := Lib.hid (StrsAt.below RI6.out hb)
    obtain ⟨ub, ud, rfl⟩ := mrow_slice hr
    have RA7 := Lib.hid (StrsAt.of_row hr)
    clear hb W6 V6 B6 RI6 hr CI s0 s1 s2 s3 s4 sl
    go_wp2_with fail
    refine (CE.out NE w7 W7.out).mono ?_
    rintro e w8 ⟨rfl, hb⟩
    have W8 := Lib.hid (blw_trans W7.out hb)
    have V8 := Lib.hid (blw_trans V7.out hb)
    have B8 := Lib.hid (B7.out.below hb)
    have RI8 := Lib.hid (StrsAt.below RI7.out hb)
    have RA8 := Lib.hid (StrsAt.below RA7.out hb)
    clear hb W7 V7 B7 RI7 RA7 
    go_wp2_with fail
    refine (CS.out [] _ _ w8 RA8.out RI8.out (by simp)).mono ?_
    rintro e w9 ⟨rfl, hb⟩
    have W9 := Lib.hid (blw_trans W8.out hb)
    have G2 := cell_keep (cell_keep G1 V8.out) hb
    clear hb W8 V8 B8 RA8 RI8 CS CE G1
    go_wp2_with fail
    go_ret
    exact ⟨rfl, W9.out⟩
  subst hM
  have s0 := B3.out.cell 0 _ rfl
  have s1 := B3.out.cell 1 _ rfl
  have s2 := B3.out.cell 2 _ rfl
  have s3 := B3.out.cell 3 _ rfl
  have s4 := B3.out.cell 4 _ rfl
  have sl := B3.out.lt
  go_wp2_with fail
  refine (CF.out w3).mono ?_
  rintro e w4 ⟨rfl, hb⟩
  have W4 := Lib.hid (blw_trans W3.out hb)
  have V4 := Lib.hid (blw_trans V3.out hb)
  have B4 := Lib.hid (B3.out.below hb)
  clear hb W3 V3 B3  
  clear s0 s1 s2 s3 s4 sl CF
  cases Z with
  | false =>
    obtain rfl : NE = 3 := HE.out
    obtain rfl : LM = [] := HLM.out
    obtain rfl : LI = [] := HLI.out
    clear HE HLM HLI HC CA CB
    have RM := Lib.hid (show StrsAt w4 (.slice none 0 0) [] from .inl ⟨rfl, none, 0, rfl⟩)
    have RI := Lib.hid (show StrsAt w4 (.slice none 0 0) [] from .inl ⟨rfl, none, 0, rfl⟩)
    have RM4 := RM
    have RI4 := RI
    clear RM RI
    have s0 := B4.out.cell 0 _ rfl
    have s1 := B4.out.cell 1 _ rfl
    have s2 := B4.out.cell 2 _ rfl
    have s3 := B4.out.cell 3 _ rfl
    have s4 := B4.out.cell 4 _ rfl
    have sl := B4.out.lt
    go_wp2_with fail
    refine (CO.out w4 W4.out).mono ?_
    rintro e w5 ⟨u, rfl, hr, hb⟩
    have W5 := Lib.hid (blw_trans W4.out hb)
    have V5 := Lib.hid (blw_trans V4.out hb)
    have B5 := Lib.hid (B4.out.below hb)
    have RM5 := Lib.hid (StrsAt.below RM4.out hb)
    have RI5 := Lib.hid (StrsAt.below RI4.out hb)
    obtain ⟨ua, uc, rfl⟩ := mrow_slice hr
    have RA5 := Lib.hid (StrsAt.of_row hr)
    clear hb W4 V4 B4 RM4 RI4 hr CO s0 s1 s2 s3 s4 sl
    go_wp2_with fail
    refine (CE.out 3 w5 W5.out).mono ?_
    rintro e w6 ⟨rfl, hb⟩
    have W6 := Lib.hid (blw_trans W5.out hb)
    have V6 := Lib.hid (blw_trans V5.out hb)
    have B6 := Lib.hid (B5.out.below hb)
    have RM6 := Lib.hid (StrsAt.below RM5.out hb)
    have RI6 := Lib.hid (StrsAt.below RI5.out hb)
    have RA6 := Lib.hid (StrsAt.below RA5.out hb)
    clear hb W5 V5 B5 RM5 RI5 RA5 
    go_wp2_with fail
    refine (CS.out [] _ _ w6 RA6.out RM6.out (by simp)).mono ?_
    rintro e w7 ⟨rfl, hb⟩
    have W7 := Lib.hid (blw_trans W6.out hb)
    have V7 := Lib.hid (blw_trans V6.out hb)
    have B7 := Lib.hid (B6.out.below hb)
    have RI7 := Lib.hid (StrsAt.below RI6.out hb)
    clear hb W6 V6 B6 RI6 RA6 RM6
    have s0 := B7.out.cell 0 _ rfl
    have s1 := B7.out.cell 1 _ rfl
    have s2 := B7.out.cell 2 _ rfl
    have s3 := B7.out.cell 3 _ rfl
    have s4 := B7.out.cell 4 _ rfl
    have sl := B7.out.lt
    go_wp2_with fail
    refine (CI.out w7 W7.out).mono ?_
    rintro e w8 ⟨u, rfl, hr, hb⟩
    have W8 := Lib.hid (blw_trans W7.out hb)
    have V8 := Lib.hid (blw_trans V7.out hb)
    have B8 := Lib.hid (B7.out.below hb)
    have RI8 := Lib.hid (StrsAt.below RI7.out hb)
    obtain ⟨ub, ud, rfl⟩ := mrow_slice hr
    have RA8 := Lib.hid (StrsAt.of_row hr)
    clear hb W7 V7 B7 RI7 hr CI s0 s1 s2 s3 s4 sl
    go_wp2_with fail
    refine (CE.out 3 w8 W8.out).mono ?_
    rintro e w9 ⟨rfl, hb⟩
    have W9 := Lib.hid (blw_trans W8.out hb)
    have V9 := Lib.hid (blw_trans V8.out hb)
    have B9 := Lib.hid (B8.out.below hb)
    have RI9 := Lib.hid (StrsAt.below RI8.out hb)
    have RA9 := Lib.hid (StrsAt.below RA8.out hb)
    clear hb W8 V8 B8 RI8 RA8 
    go_wp2_with fail
    refine (CS.out [] _ _ w9 RA9.out RI9.out (by simp)).mono ?_
    rintro e w10 ⟨rfl, hb⟩
    have W10 := Lib.hid (blw_trans W9.out hb)
    have G2 := cell_keep (cell_keep G1 V9.out) hb
    clear hb W9 V9 B9 RA9 RI9 CS CE G1
    go_wp2_with fail
    go_ret
    exact ⟨rfl, W10.out⟩
  | true =>
    obtain rfl : NE = 0 := HE.out
    obtain rfl : LM = AM := HLM.out
    obtain rfl : LI = AI := HLI.out
    have hc := HC.out (by trivial)
    clear HE HLM HLI HC
    have s0 := B4.out.cell 0 _ rfl
    have s1 := B4.out.cell 1 _ rfl
    have s2 := B4.out.cell 2 _ rfl
    have s3 := B4.out.cell 3 _ rfl
    have s4 := B4.out.cell 4 _ rfl
    have sl := B4.out.lt
    go_wp2_with fail
    refine (CA.out w4 W4.out hc).mono ?_
    rintro e w5 ⟨u, rfl, hr, hlm, hb⟩
    have W5 := Lib.hid (blw_trans W4.out hb)
    have V5 := Lib.hid (blw_trans V4.out hb)
    have B5 := Lib.hid (B4.out.below hb)
    obtain ⟨ma, mc, rfl⟩ := mrow_slice hr
    have RM5 := Lib.hid (StrsAt.of_row hr)
    clear hb W4 V4 B4  hr CA s0 s1 s2 s3 s4 sl
    have s0 := B5.out.cell 0 _ rfl
    have s1 := B5.out.cell 1 _ rfl
    have s2 := B5.out.cell 2 _ rfl
    have s3 := B5.out.cell 3 _ rfl
    have s4 := B5.out.cell 4 _ rfl
    have sl := B5.out.lt
    go_wp2_with fail
    refine (CB.out w5 W5.out hc).mono ?_
    rintro e w6 ⟨u, rfl, hr, hli, hb⟩
    have W6 := Lib.hid (blw_trans W5.out hb)
    have V6 := Lib.hid (blw_trans V5.out hb)
    have B6 := Lib.hid (B5.out.below hb)
    have RM6 := Lib.hid (StrsAt.below RM5.out hb)
    obtain ⟨na, nc, rfl⟩ := mrow_slice hr
    have RI6 := Lib.hid (StrsAt.of_row hr)
    clear hb W5 V5 B5 RM5 hr CB s0 s1 s2 s3 s4 sl
    have RM := RM6
    have RI := RI6
    clear RM6 RI6
    have RM6 := RM
    have RI6 := RI
    clear RM RI
    have s0 := B6.out.cell 0 _ rfl
    have s1 := B6.out.cell 1 _ rfl
    have s2 := B6.out.cell 2 _ rfl
    have s3 := B6.out.cell 3 _ rfl
    have s4 := B6.out.cell 4 _ rfl
    have sl := B6.out.lt
    go_wp2_with fail
    refine (CO.out w6 W6.out).mono ?_
    rintro e w7 ⟨u, rfl, hr, hb⟩
    have W7 := Lib.hid (blw_trans W6.out hb)
    have V7 := Lib.hid (blw_trans V6.out hb)
    have B7 := Lib.hid (B6.out.below hb)
    have RM7 := Lib.hid (StrsAt.below RM6.out hb)
    have RI7 := Lib.hid (StrsAt.below RI6.out hb)
    obtain ⟨ua, uc, rfl⟩ := mrow_slice hr
    have RA7 := Lib.hid (StrsAt.of_row hr)
    clear hb W6 V6 B6 RM6 RI6 hr CO s0 s1 s2 s3 s4 sl
    go_wp2_with fail
    refine (CE.out 0 w7 W7.out).mono ?_
    rintro e w8 ⟨rfl, hb⟩
    have W8 := Lib.hid (blw_trans W7.out hb)
    have V8 := Lib.hid (blw_trans V7.out hb)
    have B8 := Lib.hid (B7.out.below hb)
    have RM8 := Lib.hid (StrsAt.below RM7.out hb)
    have RI8 := Lib.hid (StrsAt.below RI7.out hb)
    have RA8 := Lib.hid (StrsAt.below RA7.out hb)
    clear hb W7 V7 B7 RM7 RI7 RA7 
    go_wp2_with fail
    refine (CS.out LM _ _ w8 RA8.out RM8.out (by omega)).mono ?_
    rintro e w9 ⟨rfl, hb⟩
    have W9 := Lib.hid (blw_trans W8.out hb)
    have V9 := Lib.hid (blw_trans V8.out hb)
    have B9 := Lib.hid (B8.out.below hb)
    have RI9 := Lib.hid (StrsAt.below RI8.out hb)
    clear hb W8 V8 B8 RI8 RA8 RM8
    have s0 := B9.out.cell 0 _ rfl
    have s1 := B9.out.cell 1 _ rfl
    have s2 := B9.out.cell 2 _ rfl
    have s3 := B9.out.cell 3 _ rfl
    have s4 := B9.out.cell 4 _ rfl
    have sl := B9.out.lt
    go_wp2_with fail
    refine (CI.out w9 W9.out).mono ?_
    rintro e w10 ⟨u, rfl, hr, hb⟩
    have W10 := Lib.hid (blw_trans W9.out hb)
    have V10 := Lib.hid (blw_trans V9.out hb)
    have B10 := Lib.hid (B9.out.below hb)
    have RI10 := Lib.hid (StrsAt.below RI9.out hb)
    obtain ⟨ub, ud, rfl⟩ := mrow_slice hr
    have RA10 := Lib.hid (StrsAt.of_row hr)
    clear hb W9 V9 B9 RI9 hr CI s0 s1 s2 s3 s4 sl
    go_wp2_with fail
    refine (CE.out 0 w10 W10.out).mono ?_
    rintro e w11 ⟨rfl, hb⟩
    have W11 := Lib.hid (blw_trans W10.out hb)
    have V11 := Lib.hid (blw_trans V10.out hb)
    have B11 := Lib.hid (B10.out.below hb)
    have RI11 := Lib.hid (StrsAt.below RI10.out hb)
    have RA11 := Lib.hid (StrsAt.below RA10.out hb)
    clear hb W10 V10 B10 RI10 RA10 
    go_wp2_with fail
    refine (CS.out LI _ _ w11 RA11.out RI11.out (by omega)).mono ?_
    rintro e w12 ⟨rfl, hb⟩
    have W12 := Lib.hid (blw_trans W11.out hb)
    have G2 := cell_keep (cell_keep G1 V11.out) hb
    clear hb W11 V11 B11 RA11 RI11 CS CE G1
    go_wp2_with fail
    go_ret
    exact ⟨rfl, W12.out⟩
end Go.Proofs.YtainindkndjkbaaGreatDoor
namespace Go.Proofs.YtainindkndjkbaaGreatDoor
open Go.RowKit Go.WideShapes Go.ChangeShapes Go.Deep Ms

theorem bulk_mem {H : Type} {x : DataW H} : ∀ {l : List (DataW H)}, x ∈ l → Rows.uptoBulk x ≤ Rows.uptoBulkAll l
  | y :: l, h => by
    rcases List.mem_cons.1 h with rfl | h
    · simp only [Rows.uptoBulkAll]; omega
    · have := bulk_mem h
      simp only [Rows.uptoBulkAll]; omega
theorem bulk_pos {H : Type} (d : DataW H) : 1 ≤ Rows.uptoBulk d := by
  cases d with
  | lit x => cases x <;> simp [Rows.uptoBulk]
  | _ => simp [Rows.uptoBulk]
theorem bulk_len {H : Type} : ∀ l : List (DataW H), l.length ≤ Rows.uptoBulkAll l
  | [] => by simp
  | d :: l => by
    have := bulk_len l
    have := bulk_pos d
    simp only [Rows.uptoBulkAll, List.length_cons]; omega
theorem list_by' {α : Type} {Q : Nat → α → Prop} : ∀ (n : Nat), (∀ i, i < n → ∃ t, Q i t) → ∃ L : List α, L.length = n ∧ ∀ i t, L[i]? = some t → Q i t
  | 0, _ => ⟨[], rfl, fun i t h => by simp at h⟩
  | n + 1, h => by
    obtain ⟨L, hl, hq⟩ := list_by' n fun i hi => h i (by omega)
    obtain ⟨t, ht⟩ := h n (by omega)
    refine ⟨L ++ [t], by simp [hl], fun i x hx => ?_⟩
    by_cases hi : i < n
    · rw [List.getElem?_append_left (by omega)] at hx; exact hq i x hx
    · rw [List.getElem?_append_right (by omega)] at hx
      have hk : i - L.length < 1 := (List.getElem?_eq_some_iff.1 hx).1
      obtain rfl : i = n := by omega
      rw [hl, Nat.sub_self] at hx
      obtain rfl : t = x := by simpa using hx
      exact ht
section
variable {H : Type} {enc : TypeId × Value → H} {P : Program} {w : World} {base : Nat} {sp : Nat → Bool} {held : Bool}
/-- a slice whose elements are smaller readings -/
theorem sl_less {α : Type} {fuel m : Nat} {t e : TypeId} {C : World → Nat → Nat → α → Prop} (K : Nat) (ht : P.underlying t = some (.slice e)) (hC : P.cellsOf e = m) (hm : 0 < m)
    (el : ∀ (b off : Nat) (cs : List Value) (n : Nat) (y : DataW H × List MemPlace), (∀ i, i < m → w.cell? ⟨b, off + i, none⟩ = cs[i]?) → cs.length = m → DataW.trod enc P w base sp held n e cs = some y → Rows.uptoBulk y.1 < K → ∃ x : α, C w b off x)
    {v : Value} {y : DataW H × List MemPlace} (h : DataW.trod enc P w base sp held fuel t [v] = some y) (hK : Rows.uptoBulk y.1 ≤ K) :
    ∃ a n c l, v = .slice a n c ∧ SlAt m C w (.slice a n c) l ∧ l.length < Rows.uptoBulk y.1 := by
  have hpos := bulk_pos y.1
  rcases open_slice ht h with ⟨hcs, _⟩ | ⟨a', len, cap, mm, nn, D, Pl, hcs, _, hl, hcm, hmm, hx, hi⟩
  · exact ⟨none, 0, 0, [], by simpa using hcs, .inl ⟨rfl, none, 0, rfl⟩, by simp; omega⟩
  · have e1 : v = .slice (some a') len cap := by simpa using hcs
    have hd : y.1 = .slice ((List.range len).map D) ((List.range (mm - len)).map fun j => D (len + j)) := congrArg Prod.fst hx
    by_cases hz : len = 0
    · subst hz
      exact ⟨some a', 0, cap, [], e1, .inl ⟨rfl, _, _, rfl⟩, by simp; omega⟩
    have hlm : len ≤ mm := by rw [hmm]; split <;> omega
    rw [hC] at hi
    obtain ⟨b, off, spot⟩ := a'
    have hsp : spot = none := by
      obtain ⟨cs0, q0, _⟩ := hi 0 (by omega)
      obtain ⟨_, q1, q2⟩ := World.cells?_some q0
      have q3 := q2 0 hm
      rw [List.getElem?_eq_getElem (by omega)] at q3
      simpa [Addr.add] using World.cell?_spot q3
    subst hsp
    have hbd : ∀ i, i < len → Rows.uptoBulk (D i) < K := by
      intro i hil
      have : D i ∈ (List.range len).map D := List.mem_map.2 ⟨i, by simpa using hil, rfl⟩
      have := bulk_mem this
      rw [hd] at hK
      simp only [Rows.uptoBulk] at hK
      omega
    obtain ⟨L, hL, hQ⟩ := list_by' (Q := fun i x => C w b (off + i * m) x) len fun i hil => by
      obtain ⟨cs', q0, q1⟩ := hi i (by omega)
      obtain ⟨_, q2, q3⟩ := World.cells?_some q0
      rw [Go.WideShapes.add_plain] at q3
      exact el b (off + i * m) cs' nn _ (fun j hj => by have := q3 j hj; rwa [Go.WideShapes.add_plain] at this) q2 q1 (hbd i hil)
    refine ⟨_, len, cap, L, e1, .inr ⟨b, off, cap, by rw [hL], by omega, by omega, hcm, fun j x hx => hQ j x hx⟩, ?_⟩
    have := bulk_len ((List.range len).map D)
    rw [hd, hL]
    simp only [Rows.uptoBulk]
    simp at this
    omega
section
variable {sN sC tN tC : TypeId} {f0 f1 f2 f3 g0 g1 : Field}
/-- a node that came in, and all that hangs on it: as deep as it is great -/
theorem node_up (hsN : P.underlying sN = some (.slice tN)) (hsC : P.underlying sC = some (.slice tC)) (htN : P.underlying tN = some (.struct #[f0, f1, f2, f3])) (htC : P.underlying tC = some (.struct #[g0, g1]))
    (cN : P.cellsOf tN = 4) (cC : P.cellsOf tC = 2) (k0 : P.underlying f0.type = some (.int .i64)) (k1 : P.underlying f1.type = some .string) (k2 : P.underlying f2.type = some (.int .i64)) (k3 : f3.type = sC) (j0 : P.underlying g0.type = some .string) (j1 : g1.type = sN)
    (hN : oneCellFields P #[f0, f1, f2, f3] = true) (hC : oneCellFields P #[g0, g1] = true) :
    ∀ K, K ≤ 1048576 → ∀ (b off : Nat) (cs : List Value) (n : Nat) (y : DataW H × List MemPlace), (∀ i, i < 4 → w.cell? ⟨b, off + i, none⟩ = cs[i]?) → cs.length = 4 → DataW.trod enc P w base sp held n tN cs = some y → Rows.uptoBulk y.1 ≤ K → ∃ x : Nd, NdC K w b off x := by
  intro K
  induction K with
  | zero => intro _ b off cs n y _ _ _ hK; have := bulk_pos y.1; omega
  | succ K ih =>
    intro hK' b off cs n y h1 h2 h hK
    obtain ⟨ys, n', _, hy, _, hyl, hf⟩ := DataW.trod_struct htN h
    obtain ⟨c0, c1, c2, c3, rfl⟩ : ∃ c0 c1 c2 c3, cs = [c0, c1, c2, c3] := by
      match cs, h2 with
      | [c0, c1, c2, c3], _ => exact ⟨c0, c1, c2, c3, rfl⟩
    obtain ⟨y0, y1, y2, y3, rfl⟩ : ∃ a0 a1 a2 a3, ys = [a0, a1, a2, a3] := by
      match ys, hyl with
      | [a0, a1, a2, a3], _ => exact ⟨a0, a1, a2, a3, rfl⟩
    have r0 : DataW.trod enc P w base sp held n' f0.type [c0] = some y0 := by have := hf 0 f0 rfl; rwa [(hone_of hN 0 f0 rfl).1, (hone_of hN 0 f0 rfl).2] at this
    have r1 : DataW.trod enc P w base sp held n' f1.type [c1] = some y1 := by have := hf 1 f1 rfl; rwa [(hone_of hN 1 f1 rfl).1, (hone_of hN 1 f1 rfl).2] at this
    have r2 : DataW.trod enc P w base sp held n' f2.type [c2] = some y2 := by have := hf 2 f2 rfl; rwa [(hone_of hN 2 f2 rfl).1, (hone_of hN 2 f2 rfl).2] at this
    have r3 : DataW.trod enc P w base sp held n' f3.type [c3] = some y3 := by have := hf 3 f3 rfl; rwa [(hone_of hN 3 f3 rfl).1, (hone_of hN 3 f3 rfl).2] at this
    rw [k3] at r3
    have hb : Rows.uptoBulk y1.1 + Rows.uptoBulk y3.1 ≤ K := by
      rw [hy] at hK
      simp only [List.map_cons, List.map_nil, Rows.uptoBulk, Rows.uptoBulkAll] at hK
      omega
    obtain ⟨a0, e0, _⟩ := DataW.trod_int k0 r0
    obtain ⟨t1, e1, ey1, _⟩ := DataW.trod_string k1 r1
    obtain ⟨a2, e2, _⟩ := DataW.trod_int k2 r2
    obtain rfl : c0 = .int .i64 a0 := by simpa using e0
    obtain rfl : c1 = .string t1 := by simpa using e1
    obtain rfl : c2 = .int .i64 a2 := by simpa using e2
    have hp1 := bulk_pos y1.1
    obtain ⟨a, m, c, l, rfl, hs, hl⟩ := sl_less (w := w) (C := fun w b k (y : List UInt8 × List Nd) => ∃ a n c, w.cell? ⟨b, k, none⟩ = some (.string ⟨y.1.toArray⟩) ∧ w.cell? ⟨b, k + 1, none⟩ = some (.slice a n c) ∧ SlAt 4 (NdC K) w (.slice a n c) y.2 ∧ y.1.length ≤ 2000000 ∧ y.2.length ≤ 2000000) K hsC cC (by omega) (fun b off cs n y u1 u2 u uK => by
      obtain ⟨ys, n', _, hy, _, hyl, hf⟩ := DataW.trod_struct htC u
      obtain ⟨c0, c1, rfl⟩ : ∃ c0 c1, cs = [c0, c1] := by
        match cs, u2 with
        | [c0, c1], _ => exact ⟨c0, c1, rfl⟩
      obtain ⟨y0, y1, rfl⟩ : ∃ a0 a1, ys = [a0, a1] := by
        match ys, hyl with
        | [a0, a1], _ => exact ⟨a0, a1, rfl⟩
      have r0 : DataW.trod enc P w base sp held n' g0.type [c0] = some y0 := by have := hf 0 g0 rfl; rwa [(hone_of hC 0 g0 rfl).1, (hone_of hC 0 g0 rfl).2] at this
      have r1 : DataW.trod enc P w base sp held n' g1.type [c1] = some y1 := by have := hf 1 g1 rfl; rwa [(hone_of hC 1 g1 rfl).1, (hone_of hC 1 g1 rfl).2] at this
      rw [j1] at r1
      have hb : Rows.uptoBulk y0.1 + Rows.uptoBulk y1.1 < K := by
        rw [hy] at uK
        simp only [List.map_cons, List.map_nil, Rows.uptoBulk, Rows.uptoBulkAll] at uK
        omega
      obtain ⟨t0, e0, ey0, _⟩ := DataW.trod_string j0 r0
      obtain rfl : c0 = .string t0 := by simpa using e0
      obtain ⟨a, m, c, l, rfl, hs, hl⟩ := sl_less (w := w) (C := NdC K) K hsN cN (by omega) (fun b off cs n y q1 q2 q qK => ih (by omega) b off cs n y q1 q2 q (by omega)) r1 (by omega)
      have ht : t0.data.toList.length + 1 ≤ Rows.uptoBulk y0.1 := by rw [ey0]; simp [Rows.uptoBulk]
      exact ⟨(t0.data.toList, l), a, m, c, u1 0 (by omega), u1 1 (by omega), hs, by show t0.data.toList.length ≤ _; omega, by show l.length ≤ _; omega⟩) r3 (by omega)
    have ht : t1.data.toList.length + 1 ≤ Rows.uptoBulk y1.1 := by rw [ey1]; simp [Rows.uptoBulk]
    exact ⟨.mk a0 t1.data.toList a2 l, a, m, c, h1 0 (by omega), h1 1 (by omega), h1 2 (by omega), h1 3 (by omega), hs, by show t1.data.toList.length ≤ _; omega, by show l.length ≤ _; omega⟩
theorem msg_open (hsN : P.underlying sN = some (.slice tN)) (hsC : P.underlying sC = some (.slice tC)) (htN : P.underlying tN = some (.struct #[f0, f1, f2, f3])) (htC : P.underlying tC = some (.struct #[g0, g1]))
    (cN : P.cellsOf tN = 4) (cC : P.cellsOf tC = 2) (k0 : P.underlying f0.type = some (.int .i64)) (k1 : P.underlying f1.type = some .string) (k2 : P.underlying f2.type = some (.int .i64)) (k3 : f3.type = sC) (j0 : P.underlying g0.type = some .string) (j1 : g1.type = sN)
    (hN : oneCellFields P #[f0, f1, f2, f3] = true) (hC : oneCellFields P #[g0, g1] = true) {fuel : Nat} {a : Option Addr} {n c : Nat} {d : DataW H} {p : List MemPlace} (h : DataW.trod enc P w base sp held fuel sN (Value.slice a n c).cells.toList = some (d, p)) (hK : Rows.uptoBulk d ≤ 1048576) :
    ∃ m : List Nd, MsgAt 1048576 w (.slice a n c) m ∧ m.length < Rows.uptoBulk d := by
  obtain ⟨a', n', c', l, e, hs, hl⟩ := sl_less (w := w) (C := NdC 1048576) 1048576 hsN cN (by omega) (fun b off cs n y q1 q2 q qK => node_up hsN hsC htN htC cN cC k0 k1 k2 k3 j0 j1 hN hC 1048576 (Nat.le_refl _) b off cs n y q1 q2 q (by omega)) (v := .slice a n c) (y := (d, p)) (by simpa [Value.cells] using h) hK
  rw [← e] at hs
  exact ⟨l, hs, hl⟩
end
section
variable {s t u : TypeId} {f0 f1 f2 f3 g0 g1 : Field}
/-- args that came in -/
theorem args_open (hs : P.underlying s = some (.slice t)) (ht : P.underlying t = some (.struct #[f0, f1, f2, f3])) (hc : P.cellsOf t = 5) (k0 : P.underlying f0.type = some .string) (k1 : P.underlying f1.type = some .bool) (k2 : P.underlying f2.type = some (.struct #[g0, g1])) (k3 : P.underlying f3.type = some .string)
    (j0 : P.underlying g0.type = some (.int .i64)) (j1 : P.underlying g1.type = some (.int .i64)) (o0 : f0.offset = 0 ∧ P.cellsOf f0.type = 1) (o1 : f1.offset = 1 ∧ P.cellsOf f1.type = 1) (o2 : f2.offset = 2 ∧ P.cellsOf f2.type = 2) (o3 : f3.offset = 4 ∧ P.cellsOf f3.type = 1) (hG : oneCellFields P #[g0, g1] = true)
    {fuel : Nat} {a : Option Addr} {n c : Nat} {d : DataW H} {p : List MemPlace} (h : DataW.trod enc P w base sp held fuel s (Value.slice a n c).cells.toList = some (d, p)) (hK : Rows.uptoBulk d ≤ 1048576) :
    ∃ l : List Ag, ArgsAt w (.slice a n c) l ∧ l.length < Rows.uptoBulk d ∧ ∀ x ∈ l, x.name.length ≤ 1048576 := by
  have h' : DataW.trod enc P w base sp held fuel s [.slice a n c] = some (d, p) := by simpa [Value.cells] using h
  obtain ⟨a', n', c', l, e, hs, hl⟩ := sl_less (enc := enc) (P := P) (base := base) (sp := sp) (held := held) (fuel := fuel) (e := t) (t := s) (w := w) (C := fun w b k (x : Ag) => ArgC w b k x ∧ x.name.length ≤ 1048576) 1048576 hs hc (by omega) (fun b off cs n y q1 q2 q qK => by
    obtain ⟨ys, n', _, hy, _, hyl, hf⟩ := DataW.trod_struct ht q
    obtain ⟨c0, c1, c2, c3, c4, rfl⟩ : ∃ c0 c1 c2 c3 c4, cs = [c0, c1, c2, c3, c4] := by
      match cs, q2 with
      | [c0, c1, c2, c3, c4], _ => exact ⟨c0, c1, c2, c3, c4, rfl⟩
    obtain ⟨y0, y1, y2, y3, rfl⟩ : ∃ a0 a1 a2 a3, ys = [a0, a1, a2, a3] := by
      match ys, hyl with
      | [a0, a1, a2, a3], _ => exact ⟨a0, a1, a2, a3, rfl⟩
    have r0 : DataW.trod enc P w base sp held n' f0.type [c0] = some y0 := by have := hf 0 f0 rfl; rwa [o0.1, o0.2] at this
    have r1 : DataW.trod enc P w base sp held n' f1.type [c1] = some y1 := by have := hf 1 f1 rfl; rwa [o1.1, o1.2] at this
    have r2 : DataW.trod enc P w base sp held n' f2.type [c2, c3] = some y2 := by have := hf 2 f2 rfl; rwa [o2.1, o2.2] at this
    have r3 : DataW.trod enc P w base sp held n' f3.type [c4] = some y3 := by have := hf 3 f3 rfl; rwa [o3.1, o3.2] at this
    have hb : Rows.uptoBulk y0.1 ≤ 1048576 := by
      rw [hy] at qK
      simp only [List.map_cons, List.map_nil, Rows.uptoBulk, Rows.uptoBulkAll] at qK
      omega
    obtain ⟨zs, n2, _, _, _, hzl, hg⟩ := DataW.trod_struct k2 r2
    obtain ⟨z0, z1, rfl⟩ : ∃ a0 a1, zs = [a0, a1] := by
      match zs, hzl with
      | [a0, a1], _ => exact ⟨a0, a1, rfl⟩
    have s0 : DataW.trod enc P w base sp held n2 g0.type [c2] = some z0 := by have := hg 0 g0 rfl; rwa [(hone_of hG 0 g0 rfl).1, (hone_of hG 0 g0 rfl).2] at this
    have s1 : DataW.trod enc P w base sp held n2 g1.type [c3] = some z1 := by have := hg 1 g1 rfl; rwa [(hone_of hG 1 g1 rfl).1, (hone_of hG 1 g1 rfl).2] at this
    obtain ⟨t0, e0, ey0, _⟩ := DataW.trod_string k0 r0
    obtain ⟨b1, e1, _⟩ := DataW.trod_bool k1 r1
    obtain ⟨i2, e2, _⟩ := DataW.trod_int j0 s0
    obtain ⟨i3, e3, _⟩ := DataW.trod_int j1 s1
    obtain ⟨t4, e4, _⟩ := DataW.trod_string k3 r3
    obtain rfl : c0 = .string t0 := by simpa using e0
    obtain rfl : c1 = .bool b1 := by simpa using e1
    obtain rfl : c2 = .int .i64 i2 := by simpa using e2
    obtain rfl : c3 = .int .i64 i3 := by simpa using e3
    obtain rfl : c4 = .string t4 := by simpa using e4
    have ht : t0.data.toList.length + 1 ≤ Rows.uptoBulk y0.1 := by rw [ey0]; simp [Rows.uptoBulk]
    exact ⟨⟨t0.data.toList, b1, i2, i3, t4.data.toList⟩, ⟨q1 0 (by omega), q1 1 (by omega), q1 2 (by omega), q1 3 (by omega), q1 4 (by omega)⟩, by show t0.data.toList.length ≤ _; omega⟩) (v := .slice a n c) (y := (d, p)) h' hK
  rw [← e] at hs
  refine ⟨l, by rcases hs with h | ⟨b, off, cap, h1, h2, h3, h4, h5⟩; exact .inl h; exact .inr ⟨b, off, cap, h1, h2, h3, h4, fun j x hx => (h5 j x hx).1⟩, hl, fun x hx => ?_⟩
  obtain ⟨j, hj, ej⟩ := List.getElem_of_mem hx
  obtain ⟨A, cap, _, _, hh⟩ := hs.spread
  obtain ⟨b, off, _, hq⟩ := hh j x (by rw [List.getElem?_eq_getElem hj, ej])
  exact hq.2
end
end
end Go.Proofs.YtainindkndjkbaaGreatDoor
namespace Go.Proofs.YtainindkndjkbaaGreatDoor
open Go.RowKit Go.WideShapes Go.ChangeShapes Go.Deep Ms

theorem gKd : Tryz.prog.globalNamed "linguister/msg.kinds" = some 2 := by kernel_rfl
theorem gKdT : (Tryz.prog.globals[2]?).map (·.type) = some 45 := by kernel_rfl
theorem kdW_of {L : List (String × DataW Unit)} {W : World} (h : laidMetH Tryz.prog L W) (hf : L.filter (fun x => x.1 == "linguister/msg.kinds") = [("linguister/msg.kinds", Rows.laid_linguister_msg_kinds)]) : KdW W := by
  have g := laidMetH.filter (fun x => x.1 == "linguister/msg.kinds") h
  rw [hf, MakeChecks.laidMetH_plain _ _ _ (by kernel_rfl)] at g
  obtain ⟨ps, ⟨gg, t, cs, fuel, p, q, hg, ht, hvar, hd, _, _⟩, _⟩ := g
  obtain rfl := Option.some.inj (gKd.symm.trans hg)
  obtain rfl := Option.some.inj (gKdT.symm.trans ht)
  obtain ⟨a, n, c, e⟩ : ∃ a n c, cs.toList = [Value.slice a n c] := by
    rcases open_slice Tryz.underlying45 hd with ⟨hcs, _⟩ | ⟨a', len, cap, _, _, _, _, hcs, _⟩
    · exact ⟨_, _, _, hcs⟩
    · exact ⟨_, _, _, hcs⟩
  rw [e] at hd
  obtain ⟨l, hl, hD⟩ := strs_open (a := a) (n := n) (c := c) Tryz.underlying45 Tryz.underlying9 (by kernel_rfl) (by simpa [Value.cells] using hd)
  have el : l = Ms.six := by
    rcases hD with ⟨e, _⟩ | ⟨sp, e⟩
    · cases e
    · simp only [Rows.laid_linguister_msg_kinds] at e
      injection e with e _
      have e2 : l.map (fun x => (.lit (.string x) : DataW Unit)) = Ms.six.map (fun x => (.lit (.string x) : DataW Unit)) := e.symm
      exact (List.map_inj_right (fun a b h => by injection h with h; injection h)).1 e2
  subst el
  refine ⟨a, n, c, ?_, hl⟩
  have hv := World.var?_cell gKd hvar 0
  rw [hv]
  have : cs = #[Value.slice a n c] := by
    cases cs with | mk l => simp at e; rw [e]
  rw [this]; rfl

theorem cellsNode : Tryz.prog.cellsOf 60 = 4 := by kernel_rfl
theorem cellsCase : Tryz.prog.cellsOf 62 = 2 := by kernel_rfl
theorem cellsArg : Tryz.prog.cellsOf 39 = 5 := by kernel_rfl
section
variable {H : Type} {enc : TypeId × Value → H} {w : World} {base : Nat} {sp : Nat → Bool} {held : Bool} {fuel : Nat} {a : Option Addr} {n c : Nat} {d : DataW H} {p : List MemPlace}
theorem nodes_open (h : DataW.trod enc Tryz.prog w base sp held fuel 22 (Value.slice a n c).cells.toList = some (d, p)) (hK : Rows.uptoBulk d ≤ 1048576) : ∃ m : List Nd, MsgAt 1048576 w (.slice a n c) m ∧ m.length < Rows.uptoBulk d :=
  msg_open Tryz.underlying22 Tryz.underlying58 Tryz.underlying60 Tryz.underlying62 cellsNode cellsCase Tryz.underlying3 Tryz.underlying9 Tryz.underlying3 rfl Tryz.underlying9 rfl (by kernel_rfl) (by kernel_rfl) h hK
theorem argl_open (h : DataW.trod enc Tryz.prog w base sp held fuel 23 (Value.slice a n c).cells.toList = some (d, p)) (hK : Rows.uptoBulk d ≤ 1048576) : ∃ l : List Ag, ArgsAt w (.slice a n c) l ∧ l.length < Rows.uptoBulk d ∧ ∀ x ∈ l, x.name.length ≤ 1048576 :=
  args_open Tryz.underlying23 Tryz.underlying39 cellsArg Tryz.underlying9 Tryz.underlying4 Tryz.underlying37 Tryz.underlying9 Tryz.underlying3 Tryz.underlying3 ⟨rfl, by kernel_rfl⟩ ⟨rfl, by kernel_rfl⟩ ⟨rfl, by kernel_rfl⟩ ⟨rfl, by kernel_rfl⟩ (by kernel_rfl) h hK
end
end Go.Proofs.YtainindkndjkbaaGreatDoor
namespace Go.Proofs.YtainindkndjkbaaGreatDoor.lawCoverTells
open Go.ChangeShapes Go.WideShapes Go.ChangeAt Go.RowKit Go.Joins

theorem own : ownKnob Tryz.prog.godebug = none := by kernel_rfl
theorem laidOut : laidOutB Tryz.prog = true := by kernel_rfl
theorem cellsSet : Tryz.prog.cellsOf 44 = 5 := by kernel_rfl

set_option maxRecDepth 100000 in
theorem contract (H : Type) (enc : TypeId × Value → H) (W : World) (base : Nat) (args : Array Value) (ds gs : List (DataW H)) (before : List MemPlace)
    (hval : ∀ (j : Nat) t v, Tryz.f5.params[j]? = some t → args[j]? = some v → Value.okWide Tryz.prog W .any base t v)
    (hW : DataW.Whole enc Tryz.prog Tryz.f5.params.toList Rows.coverTellsSpec.vars false W args.toList ds gs before) (hk : Rows.uptoSmall H (ds ++ gs) = true) (hL : laidMetH Tryz.prog Rows.coverTellsUptoRow.laid W) (hS : W.ShapedOpen Tryz.prog) :
    Calls Tryz.prog 5 args W fun e W' => ∃ v, e = .returned v ∧ Rows.coverTellsSpec.post enc Tryz.prog Tryz.f5 false true false false W args v W' := by
  have hpost : ∀ W', Below W.heap.size W W' → Rows.coverTellsSpec.post enc Tryz.prog Tryz.f5 false true false false W args (.bool true) W' := fun W' hb =>
    law_post (tb := 4) laidOut rfl Tryz.underlying4 rfl (by kernel_rfl) (fun ds h => by match ds, h with | [x0, x1], _ => rfl) hW hb
  obtain ⟨p, q, hA0, hV, _, hfz, hnd⟩ := hW
  have hA : DataW.TrodAll enc Tryz.prog W 0 (fun _ => true) true Tryz.f5.params.toList args.toList ds p := hA0
  obtain ⟨rfl, rfl⟩ := trodVars_none hV
  rw [Tryz.params5] at hA hval
  obtain ⟨v0, vs0, d0, ds0, p0, q0, hargs, rfl, hp0, h0, r0⟩ := trodAll_cons hA
  obtain ⟨v1, vs1, d1, ds1, p1, q1, rfl, rfl, hp1, h1, r1⟩ := trodAll_cons r0
  obtain ⟨rfl, rfl, hp⟩ := trodAll_nil r1
  obtain rfl : args = #[v0, v1] := by cases args; simp_all
  obtain ⟨m_a, m_n, m_c, rfl⟩ := okWide_slice Tryz.underlying22 (hval 0 22 v0 rfl rfl)
  obtain ⟨m_f, m_h⟩ := h0
  obtain ⟨c1_0, c1_1, c1_2, c1_3, c1_4, y1_0, y1_1, y1_2, y1_3, y1_4, m1, rfl, rfl, rfl, hy1_0, hy1_1, hy1_2, hy1_3, hy1_4⟩ := open_agg5 Tryz.underlying44 (by kernel_rfl) cellsSet (hval 1 44 v1 rfl rfl) h1
  obtain ⟨s_zero, e1_0, _, w_s_zero⟩ := DataW.trod_string Tryz.underlying9 hy1_0
  obtain ⟨s_one, e1_1, _, w_s_one⟩ := DataW.trod_string Tryz.underlying9 hy1_1
  obtain ⟨s_two, e1_2, _, w_s_two⟩ := DataW.trod_string Tryz.underlying9 hy1_2
  obtain ⟨s_few, e1_3, _, w_s_few⟩ := DataW.trod_string Tryz.underlying9 hy1_3
  obtain ⟨s_many, e1_4, _, w_s_many⟩ := DataW.trod_string Tryz.underlying9 hy1_4
  simp at e1_0 e1_1 e1_2 e1_3 e1_4
  subst e1_0 e1_1 e1_2 e1_3 e1_4
  clear hA0 hfz hnd hval
  have hm : MaxW W := Go.Proofs.cell_of_shapedOpen_int (zero := #[.int .i64 0]) (t := 3) hS (of_decide_eq_true (by kernel_rfl)) (by kernel_rfl) rfl (by kernel_rfl) (by kernel_rfl) Tryz.underlying3
  have hT : TR W := ⟨powW_of hL (by kernel_rfl), numW_of hL (by kernel_rfl) (by kernel_rfl), hm⟩
  have hM : MW W := ⟨powW_of hL (by kernel_rfl), numW_of hL (by kernel_rfl) (by kernel_rfl), kdW_of hL (by kernel_rfl)⟩
  have hH : HanW W := hanW_of (by repeat (first | exact List.Mem.head _ | refine List.Mem.tail _ ?_)) hL
  have hq : Rows.uptoBulkAll _ ≤ 1048576 := of_decide_eq_true hk
  simp only [List.append_nil, Rows.uptoBulkAll, Rows.uptoBulk, Array.length_toList, *] at hq
  have hz : ∀ x : ByteArray, x.data.size = x.size := fun _ => rfl
  simp only [hz] at hq
  have hsz : s_zero.size + s_one.size + s_two.size + s_few.size + s_many.size ≤ 1048576 := by omega
  obtain ⟨ms, m_at, m_len⟩ := nodes_open m_h (by omega)
  refine Calls.mono (?_ : Calls Tryz.prog 5 #[.slice m_a m_n m_c, .agg #[.string s_zero, .string s_one, .string s_two, .string s_few, .string s_many]] W fun e w' => e = .returned (.bool true) ∧ Below W.heap.size W w') fun e W' ⟨he, hb⟩ => ⟨_, he, hpost W' hb⟩
  obtain ⟨l0, rfl⟩ : ∃ l : List UInt8, s_zero = ⟨l.toArray⟩ := ⟨s_zero.data.toList, rfl⟩
  obtain ⟨l1, rfl⟩ : ∃ l : List UInt8, s_one = ⟨l.toArray⟩ := ⟨s_one.data.toList, rfl⟩
  obtain ⟨l2, rfl⟩ : ∃ l : List UInt8, s_two = ⟨l.toArray⟩ := ⟨s_two.data.toList, rfl⟩
  obtain ⟨l3, rfl⟩ : ∃ l : List UInt8, s_few = ⟨l.toArray⟩ := ⟨s_few.data.toList, rfl⟩
  obtain ⟨l4, rfl⟩ : ∃ l : List UInt8, s_many = ⟨l.toArray⟩ := ⟨s_many.data.toList, rfl⟩
  simp only [size_mkl] at hsz
  exact ctell_any l0 l1 l2 l3 l4 W hM hT hH m_at (by omega) (by intro t ht; simp at ht; rcases ht with rfl | rfl | rfl | rfl | rfl <;> omega)

theorem start_met (os : Os) : laidMetH Tryz.prog Rows.coverTellsUptoRow.laid (((World.doorLaid Tryz.prog 84 os).layVars Tryz.prog (Rows.coverTellsUptoRow.laid.filter fun x => x.2.handleName?.isNone)).forCall (fun _ _ => 0) ⟨#[], #[.slice none 0 0, .agg #[.string ⟨#[]⟩, .string ⟨#[]⟩, .string ⟨#[]⟩, .string ⟨#[]⟩, .string ⟨#[]⟩]], []⟩).memory :=
  laidMetH_of_parts3 (fuel := 8) (laidMet_over _ (by kernel_rfl) (by kernel_rfl)) (by kernel_rfl) (by kernel_rfl)
theorem start_reads (os : Os) {H : Type} (enc : TypeId × Value → H) : ∃ places, DataW.whole enc Tryz.prog (((World.doorLaid Tryz.prog 84 os).layVars Tryz.prog (Rows.coverTellsUptoRow.laid.filter fun x => x.2.handleName?.isNone)).forCall (fun _ _ => 0) ⟨#[], #[.slice none 0 0, .agg #[.string ⟨#[]⟩, .string ⟨#[]⟩, .string ⟨#[]⟩, .string ⟨#[]⟩, .string ⟨#[]⟩]], []⟩).memory Tryz.f5.params.toList Rows.coverTellsSpec.vars false (#[.slice none 0 0, .agg #[.string ⟨#[]⟩, .string ⟨#[]⟩, .string ⟨#[]⟩, .string ⟨#[]⟩, .string ⟨#[]⟩]] : Array Value).toList 8 = some ([.nil, .agg [.lit (.string []), .lit (.string []), .lit (.string []), .lit (.string []), .lit (.string [])]], [], places) :=
  ⟨[], by kernel_rfl⟩

set_option maxRecDepth 100000 in
theorem lifted (os : Os) (started : os.Started) (H : Type) (enc : TypeId × Value → H) (F : Stop.Interp) :
    ReturnsInHanded {} Tryz.checked os 5 .any ((Rows.OpenSpec.upto Rows.coverTellsSpec).preRow enc Tryz.prog Tryz.f5 Rows.coverTellsUptoRow.domain false Rows.coverTellsUptoRow.laid) (((Rows.OpenSpec.upto Rows.coverTellsSpec).at F).post enc Tryz.prog Tryz.f5 false true false false) := by
  obtain ⟨places, hx⟩ := start_reads os enc
  refine returnsInHanded_of_row (C := Tryz.checked) (s := Rows.OpenSpec.upto Rows.coverTellsSpec) own started (by kernel_rfl) Tryz.func5
    (witness_row_atRef (enc := enc) (C := Tryz.checked) false ((World.doorLaid Tryz.prog 84 os).layVars Tryz.prog (Rows.coverTellsUptoRow.laid.filter fun x => x.2.handleName?.isNone)) #[.slice none 0 0, .agg #[.string ⟨#[]⟩, .string ⟨#[]⟩, .string ⟨#[]⟩, .string ⟨#[]⟩, .string ⟨#[]⟩]] (World.layVars_os _ _ _) (by kernel_rfl) (by kernel_rfl) (by kernel_rfl)
      (OpenSpec.preRow_of_cond 8 hx (by kernel_rfl) (fun k hk => by cases hk; kernel_rfl) (by kernel_rfl) (start_met os))) ?_
  intro W base args ds gs before hval hW _ hcond _ hL hS _
  exact contract H enc W base args ds gs before hval hW (hcond _ rfl) hL hS

theorem said : Rows.CoverTellsUptoSaid :=
  OpenClaim.holds_of_cond 5 Tryz.f5 rfl rfl rfl rfl rfl rfl rfl ⟨rfl, rfl, rfl, rfl, rfl⟩ rfl rfl rfl rfl rfl (by kernel_rfl) Tryz.func5 (by kernel_rfl)
    (of_decide_eq_true (by kernel_rfl)) (by unfold Func.isWrapper; first | (rw [if_pos (by decide +kernel)]; kernel_rfl) | (rw [if_neg (by decide +kernel)]; exact ⟨rfl, rfl⟩))
    (fun os started H enc _ F => by rw [OpenClaim.pre_eq_preRow]; exact lifted os started H enc F)

theorem plain (f : FuncId) (fn : Func) (hf : Tryz.pinned.checked.prog.funcNamed "linguister/linguisterlaw3.CoverTells" = some f) (hfn : Tryz.pinned.checked.prog.funcs[f]? = some fn) :
    true = Tryz.pinned.checked.prog.looks [] ∧ ∀ (j : Nat) t, fn.params[j]? = some t → Tryz.pinned.checked.prog.wantsStandIn t = false := by
  obtain rfl : f = 5 := Option.some.inj ((show Tryz.prog.funcNamed "linguister/linguisterlaw3.CoverTells" = some 5 by kernel_rfl).symm.trans hf) |>.symm
  obtain rfl : fn = Tryz.f5 := (Option.some.inj (Tryz.func5.symm.trans hfn)).symm
  refine ⟨by kernel_rfl, fun j t ht => ?_⟩
  rw [Tryz.params5] at ht
  have hm : t ∈ [22, 44] := by simpa using Array.mem_of_getElem? ht
  have hall : ([22, 44].all fun u => !Tryz.prog.wantsStandIn u) = true := by kernel_rfl
  exact (show Tryz.prog.wantsStandIn t = false by simpa using List.all_eq_true.1 hall t hm)

theorem proved : Rows.CoverTellsUptoCardSaid :=
  Claim7.holds_tied_plain_at .later [] _ _ _ _ said (fun _ h => by cases h) (by kernel_rfl) (fun _ h => by cases h) coverTellsUpto_row_tie rfl ⟨rfl, rfl⟩ (by kernel_rfl) rfl plain (by kernel_rfl)
#print axioms proved
end Go.Proofs.YtainindkndjkbaaGreatDoor.lawCoverTells
