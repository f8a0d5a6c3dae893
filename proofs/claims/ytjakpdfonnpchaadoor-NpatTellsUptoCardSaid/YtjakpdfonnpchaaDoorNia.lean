/- strings.IndexAny at any text and the signs of patterns: the first byte that is one. Condition: the text is short. -/
import Derived.Test.YtjakpdfonnpchaaDoorShelfN
import Derived.Test.YtjakpdfonnpchaaDoorNir
import Derived.Test.YtjakpdfonnpchaaDoorDecFar
import Derived.Shelf.Strings.IndexAnyAll
import Derived.Lib.OthersKept
namespace Go.Proofs.YtjakpdfonnpchaaDoor
open Go.RowKit
/-- the signs of patterns -/
def sgn : List UInt8 := [35, 48, 44, 46]
theorem sgn_far {b : UInt8} (h : 128 ≤ b.toNat) : sgn.contains b = false := by
  have key : ∀ n : Nat, n < 256 → 128 ≤ n → sgn.contains (UInt8.ofNat n) = false := by decide +kernel
  have := key b.toNat b.toNat_lt h
  simpa using this
theorem noany_far {s : ByteArray} {i n : Nat} (h : Lib.NoAny s.data.toList sgn i) (hl : i + n ≤ s.size) (hf : ∀ j, i ≤ j → j < i + n → 128 ≤ (s.get! j).toNat) : Lib.NoAny s.data.toList sgn (i + n) := by
  induction n with
  | zero => exact h
  | succ n ih =>
    have hi : i + n < s.size := by omega
    have hx : s.data.toList[i + n]? = some (s[i + n]'hi) := Lib.data_getElem? s (i + n) hi
    have hg : s.get! (i + n) = s[i + n]'hi := by have := get_at s (i + n) hi; simpa using this
    have := hf (i + n) (by omega) (by omega)
    rw [hg] at this
    exact (ih (by omega) fun j h1 h2 => hf j h1 (by omega)).succ hx (sgn_far this)
set_option maxRecDepth 100000 in
set_option maxHeartbeats 2000000 in
theorem nia_short (s : ByteArray) (w : World) (h8 : s.size ≤ 8) :
    Calls Tryd.prog 13 #[.string s, .string ⟨#[35, 48, 44, 46]⟩] w fun e w' => e = .returned (.int .i64 (Lib.indexAny s.data.toList sgn)) ∧ Below w.heap.size w w' := by
  have h8z : decide ((8 : Int) < (s.size : Int)) = false := decide_eq_false (by omega)
  go_enter Tryd.func13, Tryd.ntmps13
  go_wp2_with (go_at_call 23; refine (Any.strings_shouldUseASCIISet { Tryd.lays153 with } _ _).mono ?_; rintro e w' ⟨rfl, hw⟩; rw [hw, h8z])
  go_loopg [9, 10] s.size (fun g _ _ wx => ∃ i : Nat, i + g = s.size ∧ Hid (wx.heap[w.heap.size]? = some (.stringIter s i)) ∧ Hid (Below w.heap.size w wx) ∧ Hid (Lib.NoAny s.data.toList sgn i))
  case atStart => exact ⟨0, by omega, Lib.hid (by show (w.heap.push _)[w.heap.size]? = _; simp), Lib.hid (blw_alloc w _), Lib.hid (Lib.NoAny.zero _ _)⟩
  case round =>
    rename World => wx
    obtain ⟨i, hig, HK, HB, HN⟩ := hrel
    cases gk with
    | zero =>
      obtain rfl : i = s.size := by omega
      have hnx := fun ty => Lib.run_next_end_at (P := Tryd.prog) wx w.heap.size s s.size ty HK.out (by omega)
      go_wp2_with fail
      go_ret
      exact ⟨by rw [Lib.indexAny_none (by rw [← Lib.size_eq]; exact HN.out)]; rfl, HB.out⟩
    | succ g =>
      have hi : i < s.size := by omega
      obtain ⟨x, hx⟩ : ∃ x : UInt8, s[i]'hi = x := ⟨_, rfl⟩
      have hxl : s.data.toList[i]? = some x := by rw [← hx]; exact Lib.data_getElem? s i hi
      have Hx := Lib.hid hxl
      have HG := Lib.hid hig
      by_cases hlo : x.toNat < 128
      · have hnx := fun ty => Lib.run_next_ascii_at (P := Tryd.prog) wx w.heap.size s i ty HK.out hi (by rw [hx]; exact hlo)
        rw [hx] at hnx
        have hback : ((x.toNat : Int)).toNat.toUInt8 = x := by simp
        have CA := Lib.hid fun (wy : World) => Tryd.strings_IndexRune_ascii ⟨#[35, 48, 44, 46]⟩ (x.toNat : Int) wy (by omega) (by omega)
        rw [hback] at CA
        have hcon' : sgn.contains x = decide (0 ≤ Lib.indexByte (⟨#[35, 48, 44, 46]⟩ : ByteArray).data.toList x) := Lib.contains_iff_indexByte sgn x
        have K2 := Lib.hid (Lib.iterAt_heap wx w.heap.size s i (i + 1) HK.out)
        have B2 := Lib.hid (Lib.below_iterAt HB.out (Nat.le_refl _) s (i + 1))
        generalize wx.iterAt w.heap.size s (i + 1) = wz at *
        generalize Lib.indexByte (⟨#[35, 48, 44, 46]⟩ : ByteArray).data.toList x = IX at *
        clear hx hxl hback hlo hig
        cases hin : sgn.contains x with
        | false =>
          rw [hin] at hcon'
          have hlt : decide (0 ≤ IX) = false := hcon'.symm
          clear hcon'
          go_wp2_with fail
          refine (CA.out _).mono ?_
          rintro e w2 ⟨rfl, rfl⟩
          go_wp2_with fail
          go_roundg g
          case measure => omega
          case rel => exact ⟨i + 1, by have := HG.out; omega, K2, B2, Lib.hid (HN.out.succ Hx.out hin)⟩
        | true =>
          rw [hin] at hcon'
          have hge : decide (0 ≤ IX) = true := hcon'.symm
          clear hcon'
          go_wp2_with fail
          refine (CA.out _).mono ?_
          rintro e w2 ⟨rfl, rfl⟩
          go_wp2_with fail
          go_ret
          exact ⟨by rw [Lib.indexAny_hit HN.out Hx.out hin]; rfl, B2.out⟩
      · have hhi : 128 ≤ (s[i]'hi).toNat := by rw [hx]; omega
        obtain ⟨f1, f2, f3⟩ := decode_far s i hi hhi
        obtain ⟨f4, f5⟩ := decode_high s i hi hhi
        have f6 := decode_le s i
        have hnx := fun ty => Lib.run_next_any_at (P := Tryd.prog) wx w.heap.size s i ty HK.out hi
        have K2 := Lib.hid (Lib.iterAt_heap wx w.heap.size s i (i + (Utf8.decode s i).2) HK.out)
        have B2 := Lib.hid (Lib.below_iterAt HB.out (Nat.le_refl _) s (i + (Utf8.decode s i).2))
        generalize wx.iterAt w.heap.size s (i + (Utf8.decode s i).2) = wz at *
        generalize (Utf8.decode s i).1 = c at *
        generalize (Utf8.decode s i).2 = n at *
        have CF := Lib.hid fun (wy : World) => nir_far (c : Int) wy f1 (by omega)
        have HNn := Lib.hid (noany_far HN.out f2 f3)
        have HF2 := Lib.hid f2
        have HF5 := Lib.hid f5
        clear hx hxl hlo hhi f1 f2 f3 f4 f5 f6 hig
        go_wp2_with fail
        refine (CF.out _).mono ?_
        rintro e w2 ⟨rfl, hb⟩
        have K3 := Lib.hid ((hb.block w.heap.size (Array.getElem?_eq_some_iff.1 K2.out).1).trans K2.out)
        have B3 := Lib.hid (B2.out.trans (Below.mono hb B2.out.size))
        clear hb
        go_wp2_with fail
        go_roundg (g + 1 - n)
        case measure => have := HF5.out; omega
        case rel => exact ⟨i + n, by have := HG.out; have := HF2.out; have := HF5.out; omega, K3, B3, HNn⟩
theorem nia_any (s : ByteArray) (w : World) (hs : s.size < 4294967281) :
    Calls Tryd.prog 13 #[.string s, .string ⟨#[35, 48, 44, 46]⟩] w fun e w' => e = .returned (.int .i64 (Lib.indexAny s.data.toList sgn)) ∧ Below w.heap.size w w' := by
  by_cases h8 : s.size ≤ 8
  · exact nia_short s w h8
  · obtain ⟨h1, h2⟩ := Go.zero_of_info (P := Tryd.prog) (t := Tryd.lays153_ren.t 116) (v := .agg (Array.replicate 256 (.bool false))) (n := 256) (by kernel_rfl)
    refine (Any.strings_IndexAny_long Tryd.lays153 h1 h2 s ⟨#[35, 48, 44, 46]⟩ w (by decide) (by omega) hs (by decide) (fun j b hb => ?_)).mono fun e w' h => ⟨h.1, by rw [h.2]; exact blw_trans (blw_alloc w _) (blw_alloc _ _)⟩
    have hm : b ∈ sgn := List.mem_of_getElem? hb
    clear hb
    revert b; decide +kernel
end Go.Proofs.YtjakpdfonnpchaaDoor
