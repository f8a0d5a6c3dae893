/-
  DERIVED. GIVEN WITH THE SEED: THE CARDS: each row of YthanbfimeolidaaDoorRows.lean that lists a variable, with what it lists TIED to the program's text (the seventh form; the later family's looks); each row that meets fmt, with fmt's text TOLD by the authors' own Lean function (tested against real Go, not proved from fmt's source: count such statements apart). THE CARD IS WHAT COUNTS. Prove the row's statement (the work); the ties are given (YthanbfimeolidaaDoorTie.lean); close each card by the builder's one call (the guide's Derived/Test/ToyasCard.lean, 'card_holds'). Laid BY PROGRAM, IN A SANDBOX (cutbox-door.mjs). By AI agents, Wed Nov 11 2026. No macro, syntax, notation, axiom, sorry.
-/
import Derived.Test.YthanbfimeolidaaDoorRows
import GoSem.ClaimSeven
namespace Go.Proofs.YthanbfimeolidaaDoor
namespace Rows

/-- THE TIED CARD OF 'linguisterlaw2.DateCycle'. -/
def dateCycleCard : Claim7 := { stood := { row := dateCycleRow, standIns := [], harness := (true, "47120ab24378c31c76f763d2346de19fddc03905809f55a8a1c731b1b1652994"), looks := true }, kinds := [], alts := [], laidByText := true, laidKinds := [.data, .data, .data, .data], laidTests := true, laidLooks := .later }
def DateCycleCardSaid : Prop := Claim7.holds Tryd.pinned (.plain (OpenSpec.ofChange dateCycleSpec)) dateCycleCard

/-- THE TIED CARD OF 'linguisterlaw2.RelTurned'. -/
def relTurnedCard : Claim7 := { stood := { row := relTurnedRow, standIns := [], harness := (true, "47120ab24378c31c76f763d2346de19fddc03905809f55a8a1c731b1b1652994"), looks := true }, kinds := [], alts := [], laidByText := true, laidKinds := [.data, .data, .data, .data], laidTests := true, laidLooks := .later }
def RelTurnedCardSaid : Prop := Claim7.holds Tryd.pinned (.plain (OpenSpec.ofChange relTurnedSpec)) relTurnedCard

/-- THE TIED CARD OF 'linguisterlaw2.RelTells'. -/
def relTellsCard : Claim7 := { stood := { row := relTellsRow, standIns := [], harness := (true, "47120ab24378c31c76f763d2346de19fddc03905809f55a8a1c731b1b1652994"), looks := true }, kinds := [], alts := [], laidByText := true, laidKinds := [.data, .data, .data, .handle, .data], laidTests := true, laidLooks := .later }
def RelTellsCardSaid : Prop := Claim7.holds Tryd.pinned (.plain (OpenSpec.ofChange relTellsSpec)) relTellsCard

/-- THE TIED CARD OF 'linguisterlaw2.WeekTells'. -/
def weekTellsCard : Claim7 := { stood := { row := weekTellsRow, standIns := [], harness := (true, "47120ab24378c31c76f763d2346de19fddc03905809f55a8a1c731b1b1652994"), looks := true }, kinds := [], alts := [], laidByText := true, laidKinds := [.data, .data, .data, .handle, .data], laidTests := true, laidLooks := .later }
def WeekTellsCardSaid : Prop := Claim7.holds Tryd.pinned (.plain (OpenSpec.ofChange weekTellsSpec)) weekTellsCard

/-- THE TIED CARD OF 'linguisterlaw2.DateBack'. -/
def dateBackCard : Claim7 := { stood := { row := dateBackRow, standIns := [], harness := (true, "47120ab24378c31c76f763d2346de19fddc03905809f55a8a1c731b1b1652994"), looks := true }, kinds := [], alts := [], laidByText := true, laidKinds := [.data, .data, .data, .data, .sentinel, .sentinel, .data, .pinned], laidTests := true, laidLooks := .later }
def DateBackCardSaid : Prop := Claim7.holds Tryd.pinned (.plain (OpenSpec.ofChange dateBackSpec)) dateBackCard

/-- THE SECOND FORM's CARD OF 'linguisterlaw2.DateCycle'. -/
def dateCycleUptoCard : Claim7 := { stood := { row := dateCycleUptoRow, standIns := [], harness := (true, "47120ab24378c31c76f763d2346de19fddc03905809f55a8a1c731b1b1652994"), looks := true }, kinds := [], alts := [], laidByText := true, laidKinds := [.data, .data, .data, .data], laidTests := true, laidLooks := .later }
def DateCycleUptoCardSaid : Prop := Claim7.holds Tryd.pinned (.plain (OpenSpec.upto dateCycleSpec)) dateCycleUptoCard

/-- THE SECOND FORM's CARD OF 'linguisterlaw2.RelTurned'. -/
def relTurnedUptoCard : Claim7 := { stood := { row := relTurnedUptoRow, standIns := [], harness := (true, "47120ab24378c31c76f763d2346de19fddc03905809f55a8a1c731b1b1652994"), looks := true }, kinds := [], alts := [], laidByText := true, laidKinds := [.data, .data, .data, .data], laidTests := true, laidLooks := .later }
def RelTurnedUptoCardSaid : Prop := Claim7.holds Tryd.pinned (.plain (OpenSpec.upto relTurnedSpec)) relTurnedUptoCard

/-- THE SECOND FORM's CARD OF 'linguisterlaw2.RelTells'. -/
def relTellsUptoCard : Claim7 := { stood := { row := relTellsUptoRow, standIns := [], harness := (true, "47120ab24378c31c76f763d2346de19fddc03905809f55a8a1c731b1b1652994"), looks := true }, kinds := [], alts := [], laidByText := true, laidKinds := [.data, .data, .data, .handle, .data], laidTests := true, laidLooks := .later }
def RelTellsUptoCardSaid : Prop := Claim7.holds Tryd.pinned (.plain (OpenSpec.upto relTellsSpec)) relTellsUptoCard

/-- THE SECOND FORM's CARD OF 'linguisterlaw2.WeekTells'. -/
def weekTellsUptoCard : Claim7 := { stood := { row := weekTellsUptoRow, standIns := [], harness := (true, "47120ab24378c31c76f763d2346de19fddc03905809f55a8a1c731b1b1652994"), looks := true }, kinds := [], alts := [], laidByText := true, laidKinds := [.data, .data, .data, .handle, .data], laidTests := true, laidLooks := .later }
def WeekTellsUptoCardSaid : Prop := Claim7.holds Tryd.pinned (.plain (OpenSpec.upto weekTellsSpec)) weekTellsUptoCard

/-- THE SECOND FORM's CARD OF 'linguisterlaw2.DateBack'. -/
def dateBackUptoCard : Claim7 := { stood := { row := dateBackUptoRow, standIns := [], harness := (true, "47120ab24378c31c76f763d2346de19fddc03905809f55a8a1c731b1b1652994"), looks := true }, kinds := [], alts := [], laidByText := true, laidKinds := [.data, .data, .data, .data, .sentinel, .sentinel, .data, .pinned], laidTests := true, laidLooks := .later }
def DateBackUptoCardSaid : Prop := Claim7.holds Tryd.pinned (.plain (OpenSpec.upto dateBackSpec)) dateBackUptoCard
end Rows
end Go.Proofs.YthanbfimeolidaaDoor
