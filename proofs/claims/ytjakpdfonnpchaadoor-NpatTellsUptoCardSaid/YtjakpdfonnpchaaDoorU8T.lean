/- The library's two tables of unicode/utf8, off the listed variables. -/
import Derived.Test.YtjakpdfonnpchaaDoorRows
import Derived.Test.YtjakpdfonnpchaaDoorShelfN
import Derived.Lib.LaidU8
import Derived.PinnedBridge
import Derived.LaidSub
import Derived.MakeChecks
namespace Go.Proofs.YtjakpdfonnpchaaDoor
open Go.RowKit
theorem u8X : U8Extra Tryd.prog Tryd.lays271_ren := { n3 := by kernel_rfl, n4 := by kernel_rfl, y3 := by kernel_rfl, y4 := by kernel_rfl, c5 := by kernel_rfl, c119 := by kernel_rfl, c138 := by kernel_rfl }
theorem tabs_of {L : List (String × DataW Unit)} {W : World} (h : laidMetH Tryd.prog L W) (h1 : L.filter (fun x => x.1 == "unicode/utf8.first") = [("unicode/utf8.first", Rows.laid_unicode_utf8_first)]) (h2 : L.filter (fun x => x.1 == "unicode/utf8.acceptRanges") = [("unicode/utf8.acceptRanges", Rows.laid_unicode_utf8_acceptRanges)]) :
    Lib.Utf8Tabs 2 3 W := by
  have g1 := laidMetH.filter (fun x => x.1 == "unicode/utf8.first") h
  have g2 := laidMetH.filter (fun x => x.1 == "unicode/utf8.acceptRanges") h
  rw [h1, MakeChecks.laidMetH_plain _ _ _ (by kernel_rfl)] at g1
  rw [h2, MakeChecks.laidMetH_plain _ _ _ (by kernel_rfl)] at g2
  have r1 := Lib.laidMet.reads g1 (List.mem_singleton.2 rfl)
  have r2 := Lib.laidMet.reads g2 (List.mem_singleton.2 rfl)
  rw [show Rows.laid_unicode_utf8_first = Lib.firstData from Pinned.utf8First_eq] at r1
  rw [show (Rows.laid_unicode_utf8_acceptRanges : DataW Unit) = Lib.acceptData by kernel_rfl] at r2
  exact utf8Tabs_of_reads (ρ := Tryd.lays271_ren) { Tryd.lays271 with } u8X r1 r2
end Go.Proofs.YtjakpdfonnpchaaDoor
