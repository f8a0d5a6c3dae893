/- strings.LastIndexAny at any text and the signs of patterns: the last byte that is one. Conditions: the text is short; the tables of package utf8 are there. -/
import Derived.Test.YtjakpdfonnpchaaDoorNia
import Derived.Test.YtjakpdfonnpchaaDoorLastFar
import Derived.Test.YtjakpdfonnpchaaDoorStr
namespace Go.Proofs.YtjakpdfonnpchaaDoor
open Go.RowKit
/-- none of the signs from i on -/
def NoBehind (l : List UInt8) (i : Nat) : Prop := ∀ (j : Nat) (b : UInt8), i ≤ j → l[j]? = some b → sgn.contains b = false
/-- where the last one is -/
def LastAt (l : List UInt8) (V : Int) : Prop := (V = -1 ∧ NoBehind l 0) ∨ ∃ (i : Nat) (b : UInt8), V = (i : Int) ∧ l[i]? = some b ∧ sgn.contains b = true ∧ NoBehind l (i + 1)
theorem NoBehind.end (l : List UInt8) : NoBehind l l.length := fun j b h1 h2 => by
  have := (List.getElem?_eq_some_iff.1 h2).1
  omega
theorem NoBehind.step {l : List UInt8} {i : Nat} {b : UInt8} (h : NoBehind l (i + 1)) (hb : l[i]? = some b) (hn : sgn.contains b = false) : NoBehind l i := fun j c h1 h2 => by
  by_cases e : j = i
  · subst e
    rw [hb] at h2
    injection h2 with h2
    rw [← h2]; exact hn
  · exact h j c (by omega) h2
theorem NoBehind.far {l : List UInt8} {i n : Nat} (h : NoBehind l i) (hf : ∀ j, i - n ≤ j → j < i → 128 ≤ (l.getD j 0).toNat) : NoBehind l (i - n) := fun j b h1 h2 => by
  by_cases e : i ≤ j
  · exact h j b e h2
  · have := hf j h1 (by omega)
    rw [List.getD, h2] at this
    exact sgn_far this
theorem idx_sgn (x : UInt8) : sgn.contains x = decide (0 ≤ Lib.indexByte (⟨#[35, 48, 44, 46]⟩ : ByteArray).data.toList x) := Lib.contains_iff_indexByte sgn x
theorem nir_byte (x : UInt8) (w : World) (h : x.toNat < 128) :
    Calls Tryd.prog 22 #[.string ⟨#[35, 48, 44, 46]⟩, .int .i32 (x.toNat : Int)] w fun e w' => e = .returned (.int .i64 (Lib.indexByte (⟨#[35, 48, 44, 46]⟩ : ByteArray).data.toList x)) ∧ Below w.heap.size w w' := by
  have C := Tryd.strings_IndexRune_ascii ⟨#[35, 48, 44, 46]⟩ (x.toNat : Int) w (by omega) (by omega)
  rw [show ((x.toNat : Int)).toNat.toUInt8 = x by simp] at C
  exact C.mono fun _ _ h => ⟨h.1, by rw [h.2]; exact Below.refl _ _⟩
set_option maxRecDepth 100000 in
set_option maxHeartbeats 2000000 in
theorem nla_one (x : UInt8) (w : World) :
    Calls Tryd.prog 14 #[.string ⟨[x].toArray⟩, .string ⟨#[35, 48, 44, 46]⟩] w fun e w' => ∃ V, e = .returned (.int .i64 V) ∧ LastAt [x] V ∧ Below w.heap.size w w' := by
  have IX := fun w => index_str (P := Tryd.prog) 9 Tryd.underlying9 [x] .i64 0 x rfl w
  have hx := x.toNat_lt
  have hy : (⟨#[x]⟩ : ByteArray)[0]'(by show 0 < 1; decide) = x := rfl
  have hw : wrap32 (x.toNat : Int) = (x.toNat : Int) := by unfold wrap32; omega
  have hen : ∀ (h : sgn.contains x = false), LastAt [x] (-1) := fun h => .inl ⟨rfl, (NoBehind.end [x]).step (i := 0) rfl h⟩
  have hyes : ∀ (h : sgn.contains x = true), LastAt [x] 0 := fun h => .inr ⟨0, x, rfl, rfl, h, NoBehind.end [x]⟩
  have HE := Lib.hid hen
  have HY := Lib.hid hyes
  clear hen hyes
  by_cases hlo : x.toNat < 128
  · have CA := Lib.hid fun wy => nir_byte x wy hlo
    have hc := idx_sgn x
    generalize Lib.indexByte (⟨#[35, 48, 44, 46]⟩ : ByteArray).data.toList x = V at *
    have k1 : decide (128 ≤ (x.toNat : Int)) = false := decide_eq_false (by omega)
    have k2 : ¬ (128 : Int) ≤ (x.toNat : Int) := by omega
    have k3 : ¬ 128 ≤ x.toNat := by omega
    cases hin : sgn.contains x with
    | false =>
      rw [hin] at hc
      have v0 : decide (0 ≤ V) = false := hc.symm
      have HR := Lib.hid (HE.out hin)
      clear hc hin HE HY
      go_enter Tryd.func14, Tryd.ntmps14
      go_wp2_with fail
      refine (CA.out _).mono ?_
      rintro e w2 ⟨rfl, hb⟩
      go_wp2_with fail
      go_ret
      exact ⟨_, rfl, HR.out, hb⟩
    | true =>
      rw [hin] at hc
      have v0 : decide (0 ≤ V) = true := hc.symm
      have HR := Lib.hid (HY.out hin)
      clear hc hin HE HY
      go_enter Tryd.func14, Tryd.ntmps14
      go_wp2_with fail
      refine (CA.out _).mono ?_
      rintro e w2 ⟨rfl, hb⟩
      go_wp2_with fail
      go_ret
      exact ⟨_, rfl, HR.out, hb⟩
  · have HR := Lib.hid (HE.out (sgn_far (by omega)))
    have k1 : decide (128 ≤ (x.toNat : Int)) = true := decide_eq_true (by omega)
    have k2 : (128 : Int) ≤ (x.toNat : Int) := by omega
    have k3 : 128 ≤ x.toNat := by omega
    clear HE HY
    go_enter Tryd.func14, Tryd.ntmps14
    go_wp2_with fail
    refine (nir_err _).mono ?_
    rintro e w2 ⟨rfl, hb⟩
    go_wp2_with fail
    go_ret
    exact ⟨_, rfl, HR.out, hb⟩
set_option maxRecDepth 100000 in
set_option maxHeartbeats 4000000 in
theorem nla_short (s : List UInt8) (w : World) (hT : Lib.Utf8Tabs 2 3 w) (h8 : s.length ≤ 8) (h1 : s.length ≠ 1) :
    Calls Tryd.prog 14 #[.string ⟨s.toArray⟩, .string ⟨#[35, 48, 44, 46]⟩] w fun e w' => ∃ V, e = .returned (.int .i64 V) ∧ LastAt s V ∧ Below w.heap.size w w' := by
  have CD := Lib.hid fun (i : Nat) (hi : i ≤ s.length) (wx : World) (hb : Below w.heap.size w wx) => Tryd.utf8_DecodeLastRuneInString ⟨(s.take i).toArray⟩ wx (by show (s.take i).toArray.size ≤ _; simp; omega) (Utf8Tabs_below hT hb)
  obtain ⟨n, hn⟩ : ∃ n, s.length = n := ⟨_, rfl⟩
  have HN := Lib.hid hn
  have h8z : decide ((8 : Int) < (n : Int)) = false := decide_eq_false (by omega)
  have e1 : ((n : Int) == 1) = false := beq_no (by omega)
  have SL := fun (i : Nat) (h : i ≤ s.length) w => slice_to (P := Tryd.prog) 9 Tryd.underlying9 s .i64 i h w
  have hsz : (⟨s.toArray⟩ : ByteArray).size = n := by rw [← hn]; show s.toArray.size = _; simp
  have hsz2 : s.toArray.size = n := by rw [← hn]; simp
  have HE := Lib.hid (NoBehind.end s)
  rw [hn] at HE
  clear hT h1
  have h8' : n ≤ 8 := by omega
  clear h8
  go_enter Tryd.func14, Tryd.ntmps14
  go_wp2_with (go_at_call 23; refine (Any.strings_shouldUseASCIISet { Tryd.lays153 with } _ _).mono ?_; rintro e w' ⟨rfl, hw⟩; rw [hw, h8z])
  go_loopw [13, 14, 15] (fun a _ _ wx => ∃ i : Nat, a = .int .i64 (i : Int) ∧ i ≤ n ∧ Hid (NoBehind s i) ∧ Hid (Below w.heap.size w wx)) (fun a _ _ _ => (RowKit.intOf a).toNat)
  case atStart => exact ⟨n, rfl, Nat.le_refl _, HE, Lib.hid (Below.refl _ _)⟩
  case round =>
    rename World => wx
    obtain ⟨i, rfl, hi, HB, HW⟩ := hrel
    by_cases h0 : i = 0
    · subst h0
      go_wp2_with fail
      go_ret
      exact ⟨_, rfl, .inl ⟨rfl, HB.out⟩, HW.out⟩
    · have hp : (0 : Int) < (i : Int) := by omega
      have hp' : 0 < i := by omega
      have hil : i ≤ s.length := by have := HN.out; omega
      have SLi := SL i hil
      have CDi := Lib.hid (CD.out i hil wx HW.out)
      obtain ⟨x, hx⟩ : ∃ x, s[i - 1]? = some x := ⟨s[i - 1]'(by omega), List.getElem?_eq_getElem (by omega)⟩
      have htl : (s.take i).length = i := by rw [List.length_take]; omega
      have hne : s.take i ≠ [] := fun e => by rw [e] at htl; simp at htl; omega
      have hlast : (s.take i).getD ((s.take i).length - 1) 0 = x := by
        rw [htl, List.getD, List.getElem?_take, if_pos (by omega), hx]; rfl
      have hget : ∀ j, j < i → (s.take i).getD j 0 = s.getD j 0 := fun j hj => by
        rw [List.getD, List.getElem?_take, if_pos hj, List.getD]
      have HX := Lib.hid hx
      by_cases hlo : x.toNat < 128
      · have hd : Lib.decodeLastL (⟨(s.take i).toArray⟩ : ByteArray).data.toList = (x.toNat, 1) := by
          show Lib.decodeLastL (s.take i) = _
          unfold Lib.decodeLastL
          rw [if_neg hne, hlast, if_pos hlo]
        rw [hd] at CDi
        have CA := Lib.hid fun wy => nir_byte x wy hlo
        have hc := idx_sgn x
        generalize Lib.indexByte (⟨#[35, 48, 44, 46]⟩ : ByteArray).data.toList x = V at *
        have hsub : IntKind.i64.wrap ((i : Int) - 1) = ((i - 1 : Nat) : Int) := by rw [IntWalk.i64_in _ (by omega)]; omega
        have hsub' : (i : Int) - 1 = ((i - 1 : Nat) : Int) := by omega
        clear hd hget hlast hne htl hx SL CD HN
        cases hin : sgn.contains x with
        | false =>
          rw [hin] at hc
          have v0 : decide (0 ≤ V) = false := hc.symm
          have HS := Lib.hid (show NoBehind s (i - 1) from NoBehind.step (by rw [show i - 1 + 1 = i by omega]; exact HB.out) HX.out hin)
          clear hc hin
          go_wp2_with fail
          refine CDi.out.mono ?_
          rintro e w2 ⟨rfl, hb⟩
          have W2 := Lib.hid (HW.out.trans (Below.mono hb HW.out.size))
          clear hb
          go_wp2_with fail
          refine (CA.out _).mono ?_
          rintro e w3 ⟨rfl, hb⟩
          have W3 := Lib.hid (W2.out.trans (Below.mono hb W2.out.size))
          clear hb
          go_wp2_with fail
          go_roundw
          case rel => exact ⟨i - 1, by go_num, by omega, HS, W3⟩
          case measure => simp [RowKit.intOf]; omega
        | true =>
          rw [hin] at hc
          have v0 : decide (0 ≤ V) = true := hc.symm
          have HS := Lib.hid (show LastAt s ((i - 1 : Nat) : Int) from .inr ⟨i - 1, x, rfl, HX.out, hin, by rw [show i - 1 + 1 = i by omega]; exact HB.out⟩)
          clear hc hin
          go_wp2_with fail
          refine CDi.out.mono ?_
          rintro e w2 ⟨rfl, hb⟩
          have W2 := Lib.hid (HW.out.trans (Below.mono hb HW.out.size))
          clear hb
          go_wp2_with fail
          refine (CA.out _).mono ?_
          rintro e w3 ⟨rfl, hb⟩
          have W3 := Lib.hid (W2.out.trans (Below.mono hb W2.out.size))
          clear hb
          go_wp2_with fail
          go_ret
          exact ⟨_, rfl, HS.out, W3.out⟩
      · obtain ⟨f1, f2, f3, f4, f5⟩ := last_far (s.take i) hne (by rw [hlast]; omega)
        have ed : Lib.decodeLastL (⟨(s.take i).toArray⟩ : ByteArray).data.toList = Lib.decodeLastL (s.take i) := rfl
        rw [ed] at CDi
        rw [htl] at f4 f5
        generalize (Lib.decodeLastL (s.take i)).1 = c at *
        generalize (Lib.decodeLastL (s.take i)).2 = m at *
        have CF := Lib.hid fun wy => nir_far (c : Int) wy f1 (by omega)
        have HS := Lib.hid (show NoBehind s (i - m) from HB.out.far fun j h1 h2 => by rw [← hget j h2]; exact f5 j h1 h2)
        have hsub : IntKind.i64.wrap ((i : Int) - (m : Int)) = ((i - m : Nat) : Int) := by rw [IntWalk.i64_in _ (by omega)]; omega
        have HF3 := Lib.hid f3
        clear ed hget hlast hne htl hx SL CD HN f1 f2 f3 f5
        go_wp2_with fail
        refine CDi.out.mono ?_
        rintro e w2 ⟨rfl, hb⟩
        have W2 := Lib.hid (HW.out.trans (Below.mono hb HW.out.size))
        clear hb
        go_wp2_with fail
        refine (CF.out _).mono ?_
        rintro e w3 ⟨rfl, hb⟩
        have W3 := Lib.hid (W2.out.trans (Below.mono hb W2.out.size))
        clear hb
        go_wp2_with fail
        go_roundw
        case rel => exact ⟨i - m, by go_num, by omega, HS, W3⟩
        case measure => have := HF3.out; simp [RowKit.intOf]; omega
set_option maxRecDepth 100000 in
set_option maxHeartbeats 4000000 in
theorem nla_long (s : List UInt8) (w : World) (h8 : 8 < s.length) (hs : s.length < 4294967281) :
    Calls Tryd.prog 14 #[.string ⟨s.toArray⟩, .string ⟨#[35, 48, 44, 46]⟩] w fun e w' => ∃ V, e = .returned (.int .i64 V) ∧ LastAt s V ∧ Below w.heap.size w w' := by
  obtain ⟨z1, z2⟩ := Go.zero_of_info (P := Tryd.prog) (t := 51) (v := .agg (Array.replicate 256 (.bool false))) (n := 256) (by kernel_rfl)
  have hM := Any.strings_makeASCIISet { Tryd.lays153 with } z1 z2 ⟨#[35, 48, 44, 46]⟩ w (by decide) (fun j b hb => by
    have hm : b ∈ sgn := List.mem_of_getElem? hb
    clear hb
    revert b; decide +kernel)
  have hsc : (storeCells ⟨w.heap.size + 1, 0, none⟩ (Lib.setCells sgn).toList 0).run Tryd.prog ((w.alloc (.cells (Lib.setCells sgn) 51)).alloc (.cells (Array.replicate 256 (.bool false)) 51)) = .ok () ((w.alloc (.cells (Lib.setCells sgn) 51)).alloc (.cells (Lib.setCells sgn) 51)) := by
    have := run_storeCells_new (P := Tryd.prog) (w.alloc (.cells (Lib.setCells sgn) 51)) 51 (Array.replicate 256 (.bool false)) (Lib.setCells sgn) (by rw [Lib.setCells_size]; exact z2) (by rw [Lib.setCells_size, Array.size_replicate]) (Lib.setCells_one _)
    simpa using this
  have hcellAt : ∀ x : UInt8, ((w.alloc (.cells (Lib.setCells sgn) 51)).alloc (.cells (Lib.setCells sgn) 51)).cell? ⟨w.heap.size + 1, x.toNat, none⟩ = some (.bool (sgn.contains x)) := fun x => by
    rw [World.cell?_alloc_at _ _ _ _ (by simp), Lib.setCells_at]
  have HC := Lib.hid hcellAt
  have hM' : Calls Tryd.prog 24 #[.string ⟨#[35, 48, 44, 46]⟩] w fun e w' => e = .returned (.tuple #[.agg (Lib.setCells sgn), .bool true]) ∧ w' = w.alloc (.cells (Lib.setCells sgn) 51) := hM
  have hsz3 := Lib.setCells_size sgn
  generalize Lib.setCells sgn = SC at *
  obtain ⟨n, hn⟩ : ∃ n, s.length = n := ⟨_, rfl⟩
  have HN := Lib.hid hn
  have h8z : decide ((8 : Int) < (n : Int)) = true := decide_eq_true (by omega)
  have e1 : ((n : Int) == 1) = false := beq_no (by omega)
  have hsz : (⟨s.toArray⟩ : ByteArray).size = n := by rw [← hn]; show s.toArray.size = _; simp
  have hsz2 : s.toArray.size = n := by rw [← hn]; simp
  have HE := Lib.hid (NoBehind.end s)
  rw [hn] at HE hs
  have IX := fun (i : Nat) (x : UInt8) (h : s[i]? = some x) w => index_str (P := Tryd.prog) 9 Tryd.underlying9 s .i64 i x h w
  have hm1 : IntKind.i64.wrap ((n : Int) - 1) = (n : Int) - 1 := IntWalk.i64_in _ (by omega)
  clear hcellAt hM h8
  go_enter Tryd.func14, Tryd.ntmps14
  go_wp2_with (first
    | (go_at_call 23; refine (Any.strings_shouldUseASCIISet { Tryd.lays153 with } _ _).mono ?_; rintro e w' ⟨rfl, hw⟩; rw [hw, h8z])
    | (go_at_call 24; refine hM'.mono ?_; rintro e w' ⟨rfl, hw⟩; rw [hw]))
  clear hM' hsc hsz3 z1 z2
  have HW := Lib.hid (blw_trans (blw_alloc w (.cells SC 51)) (blw_alloc _ (.cells SC 51)))
  generalize (w.alloc (.cells SC 51)).alloc (.cells SC 51) = w0 at *
  go_loopw [8] (fun a wx => ∃ i : Nat, a = .int .i64 ((i : Int) - 1) ∧ i ≤ n ∧ Hid (NoBehind s i) ∧ wx = w0) (fun a _ => (RowKit.intOf a + 1).toNat)
  case atStart => exact ⟨n, rfl, Nat.le_refl _, HE, rfl⟩
  case round =>
    obtain ⟨i, rfl, hi, HB, rfl⟩ := hrel
    by_cases h0 : i = 0
    · subst h0
      go_wp2_with fail
      go_ret
      exact ⟨_, rfl, .inl ⟨rfl, HB.out⟩, HW.out⟩
    · obtain ⟨k, rfl⟩ : ∃ k, i = k + 1 := ⟨i - 1, by omega⟩
      have ek : (((k + 1 : Nat) : Int) - 1) = (k : Int) := by omega
      rw [ek]
      obtain ⟨x, hx⟩ : ∃ x, s[k]? = some x := ⟨s[k]'(by have := HN.out; omega), List.getElem?_eq_getElem (by have := HN.out; omega)⟩
      have IXk := IX k x hx
      have HX := Lib.hid hx
      have hcx := HC.out x
      have hp : (0 : Int) ≤ (k : Int) := by omega
      have hkn : (k : Int) < (n : Int) := by omega
      have hm : IntKind.i64.wrap ((k : Int) - 1) = (k : Int) - 1 := IntWalk.i64_in _ (by omega)
      clear hx IX HC ek h0
      cases hin : sgn.contains x with
      | false =>
        rw [hin] at hcx
        have CC := Lib.hid (Any.asciiSet_contains { Tryd.lays153 with } (w.heap.size + 1) x false _ hcx)
        have HS := Lib.hid (show NoBehind s k from HB.out.step HX.out hin)
        clear hin hcx
        go_wp2_with fail
        refine CC.out.mono ?_
        rintro e w2 ⟨rfl, rfl⟩
        go_wp2_with fail
        go_roundw
        case rel => exact ⟨k, by go_num, by omega, HS, trivial⟩
        case measure => simp [RowKit.intOf]
      | true =>
        rw [hin] at hcx
        have CC := Lib.hid (Any.asciiSet_contains { Tryd.lays153 with } (w.heap.size + 1) x true _ hcx)
        have HS := Lib.hid (show LastAt s ((k : Nat) : Int) from .inr ⟨k, x, rfl, HX.out, hin, HB.out⟩)
        clear hin hcx
        go_wp2_with fail
        refine CC.out.mono ?_
        rintro e w2 ⟨rfl, rfl⟩
        go_wp2_with fail
        go_ret
        exact ⟨_, rfl, HS.out, HW.out⟩
theorem nla_any (s : List UInt8) (w : World) (hT : Lib.Utf8Tabs 2 3 w) (hs : s.length < 4294967281) :
    Calls Tryd.prog 14 #[.string ⟨s.toArray⟩, .string ⟨#[35, 48, 44, 46]⟩] w fun e w' => ∃ V, e = .returned (.int .i64 V) ∧ LastAt s V ∧ Below w.heap.size w w' := by
  by_cases h8 : 8 < s.length
  · exact nla_long s w h8 hs
  by_cases h1 : s.length = 1
  · obtain ⟨x, rfl⟩ := List.length_eq_one_iff.1 h1
    exact nla_one x w
  · exact nla_short s w hT (by omega) h1
end Go.Proofs.YtjakpdfonnpchaaDoor
