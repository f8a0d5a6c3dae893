/- strconv.Atoi by its contract off the shelf: a number, or an error. Conditions: the library's two errors hold each some value. -/
import Derived.Test.YtaijjffnamjhiaaGreatDoorShelfA
import Derived.Test.YtaijjffnamjhiaaGreatDoorBox
import Derived.WalkSmall
import Derived.Stop.LaidErr
import Derived.LaidSub
import Derived.Test.YtaijjffnamjhiaaGreatDoorRows
import Derived.LaidMore
import Derived.Lib.AtoiAllCases
import Derived.Lib.AtoiErrMem
namespace Go.Proofs.YtaijjffnamjhiaaGreatDoor
open Go.RowKit
theorem gSyn : Tryz.prog.globalNamed "strconv.ErrSyntax" = some 5 := by kernel_rfl
theorem gSynT : (Tryz.prog.globals[5]?).map (·.type) = some 25 := by kernel_rfl
theorem gRng : Tryz.prog.globalNamed "strconv.ErrRange" = some 6 := by kernel_rfl
theorem gRngT : (Tryz.prog.globals[6]?).map (·.type) = some 25 := by kernel_rfl
/-- the two variables hold each some value -/
structure NumW (w : World) : Prop where
  s : ∃ tp p, w.var? Tryz.prog "strconv.ErrSyntax" = some #[.iface tp p]
  r : ∃ tp p, w.var? Tryz.prog "strconv.ErrRange" = some #[.iface tp p]
theorem NumW.below {w w' : World} (h : NumW w) (hb : Below w.heap.size w w') : NumW w' := by
  obtain ⟨⟨t1, p1, h1⟩, ⟨t2, p2, h2⟩⟩ := h
  exact ⟨⟨t1, p1, var?_below hb gSyn (World.block_lt_of_cell? w _ (by have c := World.var?_cell gSyn h1 0; simpa using c)) h1⟩,
    ⟨t2, p2, var?_below hb gRng (World.block_lt_of_cell? w _ (by have c := World.var?_cell gRng h2 0; simpa using c)) h2⟩⟩
theorem atoi_yes (x : List UInt8) (v : Int) (w : World) (hx : x.length ≤ 4000000000) (h : Lib.atoiAll x = .ok v) :
    Calls Tryz.prog 144 #[.string ⟨x.toArray⟩] w fun e w' => e = .returned (.tuple #[.int .i64 v, .nilIface]) ∧ Below w.heap.size w w' := by
  refine (Tryz.strconv_Atoi_ok ⟨x.toArray⟩ (by show x.toArray.size ≤ _; simp; omega) v (by simpa using h) w).mono ?_
  rintro e w' ⟨rfl, rfl | ⟨t, rfl⟩⟩
  · exact ⟨rfl, Below.refl _ _⟩
  · exact ⟨rfl, Lib.bytesWorld_below _ _ _⟩
/-- an error that is none of ours -/
def IsBad (w : World) (e : Ending) (w' : World) : Prop := ∃ u N, e = .returned (.tuple #[.int .i64 u, .iface 254 (.pointer (some ⟨N, 0, none⟩))]) ∧ Below w.heap.size w w'
theorem atoi_no (x : List UInt8) (w : World) (hW : NumW w) (hx : x.length ≤ 4000000000) (h : ∀ v, Lib.atoiAll x ≠ .ok v) :
    Calls Tryz.prog 144 #[.string ⟨x.toArray⟩] w (IsBad w) := by
  obtain ⟨⟨t1, p1, h1⟩, ⟨t2, p2, h2⟩⟩ := hW
  have hs : (⟨x.toArray⟩ : ByteArray).size ≤ 281474976710656 := by show x.toArray.size ≤ _; simp; omega
  cases hq : Lib.atoiAll x with
  | ok v => exact absurd hq (h v)
  | range =>
    refine (Tryz.strconv_Atoi_range_var ⟨x.toArray⟩ hs (by simpa using hq) t2 p2 w h2).mono ?_
    rintro e w' ⟨N, rfl, _, _, hb⟩
    exact ⟨_, N, rfl, hb⟩
  | _ =>
    refine (Tryz.strconv_Atoi_syntax_var ⟨x.toArray⟩ hs (by simpa using hq) t1 p1 w h1).mono ?_
    rintro e w' ⟨N, rfl, _, _, hb⟩
    exact ⟨_, N, rfl, hb⟩
/-- the number that a text tells; 0: of none -/
def atoiV (x : List UInt8) : Int := match Lib.atoiAll x with | .ok v => v | _ => 0
theorem atoiV_ok {x : List UInt8} {v : Int} (h : Lib.atoiAll x = .ok v) : atoiV x = v := by unfold atoiV; rw [h]
theorem atoiV_bd (x : List UInt8) : -9223372036854775808 ≤ atoiV x ∧ atoiV x ≤ 9223372036854775807 := by
  unfold atoiV
  split
  · exact Lib.atoiAll_bounds ‹_›
  · omega
theorem cellsErr : Tryz.prog.cellsOf 283 = 1 := by kernel_rfl
theorem cellsStr : Tryz.prog.cellsOf 9 = 1 := by kernel_rfl
theorem starErr : "*" ++ "errors.errorString" = "*errors.errorString" := by decide
theorem rowErr (u : TypeId) (h : Tryz.prog.typeName? 3 u = some "*errors.errorString") : u = 281 :=
  typeName_ptr_named (nm := "errors.errorString") (by rw [starErr]; kernel_rfl) (by kernel_rfl) (by decide) u (by rw [starErr]; exact h)
theorem numW_of {L : List (String × DataW Unit)} {W : World} (h : laidMetH Tryz.prog L W) (hs : L.filter (fun x => x.1 == "strconv.ErrSyntax") = [("strconv.ErrSyntax", Rows.laid_strconv_ErrSyntax)]) (hr : L.filter (fun x => x.1 == "strconv.ErrRange") = [("strconv.ErrRange", Rows.laid_strconv_ErrRange)]) : NumW W := by
  have g1 := laidMetH.filter (fun x => x.1 == "strconv.ErrSyntax") h
  have g2 := laidMetH.filter (fun x => x.1 == "strconv.ErrRange") h
  rw [hs, MakeChecks.laidMetH_plain _ _ _ (by kernel_rfl)] at g1
  rw [hr, MakeChecks.laidMetH_plain _ _ _ (by kernel_rfl)] at g2
  obtain ⟨a0, s0, hv0, -, -, -⟩ := laid_sentinel g1 gSyn gSynT Tryz.underlying25 rowErr Tryz.underlying281 Tryz.underlying283 rfl rfl Tryz.underlying9 cellsErr cellsStr
  obtain ⟨a1, s1, hv1, -, -, -⟩ := laid_sentinel g2 gRng gRngT Tryz.underlying25 rowErr Tryz.underlying281 Tryz.underlying283 rfl rfl Tryz.underlying9 cellsErr cellsStr
  exact ⟨⟨_, _, hv0⟩, ⟨_, _, hv1⟩⟩
end Go.Proofs.YtaijjffnamjhiaaGreatDoor
