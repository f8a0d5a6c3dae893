/- The listed variable 'ahead' out of a longer list. -/
import Derived.Test.YtdcemkfljhdceaaGreatDoorTabs
import Derived.LaidSub
namespace Go.Proofs.YtdcemkfljhdceaaGreatDoor
open Go.RowKit
theorem tabW_in {L : List (String × DataW Unit)} {W : World} (h : laidMetH Tryz.prog L W) (hf : L.filter (fun x => x.1 == "linguister/date.ahead") = [("linguister/date.ahead", Rows.laid_linguister_date_ahead)]) : TabW W := by
  have g := laidMetH.filter (fun x => x.1 == "linguister/date.ahead") h
  rw [hf] at g
  exact tabW_of_list g
end Go.Proofs.YtdcemkfljhdceaaGreatDoor
