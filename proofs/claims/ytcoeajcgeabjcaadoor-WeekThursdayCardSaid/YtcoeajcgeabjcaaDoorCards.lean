/-
  DERIVED. GIVEN WITH THE SEED: THE CARDS: each row of YtcoeajcgeabjcaaDoorRows.lean that lists a variable, with what it lists TIED to the program's text (the seventh form; the later family's looks); each row that meets fmt, with fmt's text TOLD by the authors' own Lean function (tested against real Go, not proved from fmt's source: count such statements apart). THE CARD IS WHAT COUNTS. Prove the row's statement (the work); the ties are given (YtcoeajcgeabjcaaDoorTie.lean); close each card by the builder's one call (the guide's Derived/Test/ToyasCard.lean, 'card_holds'). Laid BY PROGRAM, IN A SANDBOX (cutbox-door.mjs). By AI agents, Wed Nov 11 2026. No macro, syntax, notation, axiom, sorry.
-/
import Derived.Test.YtcoeajcgeabjcaaDoorRows
import GoSem.ClaimSeven
namespace Go.Proofs.YtcoeajcgeabjcaaDoor
namespace Rows

/-- THE TIED CARD OF 'linguisterlaw2.DateNext'. -/
def dateNextCard : Claim7 := { stood := { row := dateNextRow, standIns := [], harness := (true, "287cf4b1eff5003b0beb2380417782140aefff1242486d4584b04d4cdb5dc26c"), looks := true }, kinds := [], alts := [], laidByText := true, laidKinds := [.data], laidTests := true, laidLooks := .later }
def DateNextCardSaid : Prop := Claim7.holds Tryd.pinned (.plain (OpenSpec.ofChange dateNextSpec)) dateNextCard

/-- THE TIED CARD OF 'linguisterlaw2.WeekNext'. -/
def weekNextCard : Claim7 := { stood := { row := weekNextRow, standIns := [], harness := (true, "287cf4b1eff5003b0beb2380417782140aefff1242486d4584b04d4cdb5dc26c"), looks := true }, kinds := [], alts := [], laidByText := true, laidKinds := [.data], laidTests := true, laidLooks := .later }
def WeekNextCardSaid : Prop := Claim7.holds Tryd.pinned (.plain (OpenSpec.ofChange weekNextSpec)) weekNextCard

/-- THE TIED CARD OF 'linguisterlaw2.WeekBack'. -/
def weekBackCard : Claim7 := { stood := { row := weekBackRow, standIns := [], harness := (true, "287cf4b1eff5003b0beb2380417782140aefff1242486d4584b04d4cdb5dc26c"), looks := true }, kinds := [], alts := [], laidByText := true, laidKinds := [.data], laidTests := true, laidLooks := .later }
def WeekBackCardSaid : Prop := Claim7.holds Tryd.pinned (.plain (OpenSpec.ofChange weekBackSpec)) weekBackCard

/-- THE TIED CARD OF 'linguisterlaw2.WeekThursday'. -/
def weekThursdayCard : Claim7 := { stood := { row := weekThursdayRow, standIns := [], harness := (true, "287cf4b1eff5003b0beb2380417782140aefff1242486d4584b04d4cdb5dc26c"), looks := true }, kinds := [], alts := [], laidByText := true, laidKinds := [.data], laidTests := true, laidLooks := .later }
def WeekThursdayCardSaid : Prop := Claim7.holds Tryd.pinned (.plain (OpenSpec.ofChange weekThursdaySpec)) weekThursdayCard

/-- THE TIED CARD OF 'linguisterlaw2.DateCycle'. -/
def dateCycleCard : Claim7 := { stood := { row := dateCycleRow, standIns := [], harness := (true, "287cf4b1eff5003b0beb2380417782140aefff1242486d4584b04d4cdb5dc26c"), looks := true }, kinds := [], alts := [], laidByText := true, laidKinds := [.data, .data, .data, .data], laidTests := true, laidLooks := .later }
def DateCycleCardSaid : Prop := Claim7.holds Tryd.pinned (.plain (OpenSpec.ofChange dateCycleSpec)) dateCycleCard

/-- THE TIED CARD OF 'linguisterlaw2.DateBack'. -/
def dateBackCard : Claim7 := { stood := { row := dateBackRow, standIns := [], harness := (true, "287cf4b1eff5003b0beb2380417782140aefff1242486d4584b04d4cdb5dc26c"), looks := true }, kinds := [], alts := [], laidByText := true, laidKinds := [.data, .data, .data, .data, .sentinel, .sentinel, .data, .pinned], laidTests := true, laidLooks := .later }
def DateBackCardSaid : Prop := Claim7.holds Tryd.pinned (.plain (OpenSpec.ofChange dateBackSpec)) dateBackCard

/-- THE TIED CARD OF 'linguisterlaw2.WeekTells'. -/
def weekTellsCard : Claim7 := { stood := { row := weekTellsRow, standIns := [], harness := (true, "287cf4b1eff5003b0beb2380417782140aefff1242486d4584b04d4cdb5dc26c"), looks := true }, kinds := [], alts := [], laidByText := true, laidKinds := [.data, .data, .data, .handle, .data], laidTests := true, laidLooks := .later }
def WeekTellsCardSaid : Prop := Claim7.holds Tryd.pinned (.plain (OpenSpec.ofChange weekTellsSpec)) weekTellsCard

/-- THE TIED CARD OF 'linguisterlaw2.RelTurned'. -/
def relTurnedCard : Claim7 := { stood := { row := relTurnedRow, standIns := [], harness := (true, "287cf4b1eff5003b0beb2380417782140aefff1242486d4584b04d4cdb5dc26c"), looks := true }, kinds := [], alts := [], laidByText := true, laidKinds := [.data, .data, .data, .data], laidTests := true, laidLooks := .later }
def RelTurnedCardSaid : Prop := Claim7.holds Tryd.pinned (.plain (OpenSpec.ofChange relTurnedSpec)) relTurnedCard

/-- THE TIED CARD OF 'linguisterlaw2.RelTells'. -/
def relTellsCard : Claim7 := { stood := { row := relTellsRow, standIns := [], harness := (true, "287cf4b1eff5003b0beb2380417782140aefff1242486d4584b04d4cdb5dc26c"), looks := true }, kinds := [], alts := [], laidByText := true, laidKinds := [.data, .data, .data, .handle, .data], laidTests := true, laidLooks := .later }
def RelTellsCardSaid : Prop := Claim7.holds Tryd.pinned (.plain (OpenSpec.ofChange relTellsSpec)) relTellsCard

/-- THE SECOND FORM's CARD OF 'linguisterlaw2.DateNext'. -/
def dateNextUptoCard : Claim7 := { stood := { row := dateNextUptoRow, standIns := [], harness := (true, "287cf4b1eff5003b0beb2380417782140aefff1242486d4584b04d4cdb5dc26c"), looks := true }, kinds := [], alts := [], laidByText := true, laidKinds := [.data], laidTests := true, laidLooks := .later }
def DateNextUptoCardSaid : Prop := Claim7.holds Tryd.pinned (.plain (OpenSpec.upto dateNextSpec)) dateNextUptoCard

/-- THE SECOND FORM's CARD OF 'linguisterlaw2.WeekNext'. -/
def weekNextUptoCard : Claim7 := { stood := { row := weekNextUptoRow, standIns := [], harness := (true, "287cf4b1eff5003b0beb2380417782140aefff1242486d4584b04d4cdb5dc26c"), looks := true }, kinds := [], alts := [], laidByText := true, laidKinds := [.data], laidTests := true, laidLooks := .later }
def WeekNextUptoCardSaid : Prop := Claim7.holds Tryd.pinned (.plain (OpenSpec.upto weekNextSpec)) weekNextUptoCard

/-- THE SECOND FORM's CARD OF 'linguisterlaw2.WeekBack'. -/
def weekBackUptoCard : Claim7 := { stood := { row := weekBackUptoRow, standIns := [], harness := (true, "287cf4b1eff5003b0beb2380417782140aefff1242486d4584b04d4cdb5dc26c"), looks := true }, kinds := [], alts := [], laidByText := true, laidKinds := [.data], laidTests := true, laidLooks := .later }
def WeekBackUptoCardSaid : Prop := Claim7.holds Tryd.pinned (.plain (OpenSpec.upto weekBackSpec)) weekBackUptoCard

/-- THE SECOND FORM's CARD OF 'linguisterlaw2.WeekThursday'. -/
def weekThursdayUptoCard : Claim7 := { stood := { row := weekThursdayUptoRow, standIns := [], harness := (true, "287cf4b1eff5003b0beb2380417782140aefff1242486d4584b04d4cdb5dc26c"), looks := true }, kinds := [], alts := [], laidByText := true, laidKinds := [.data], laidTests := true, laidLooks := .later }
def WeekThursdayUptoCardSaid : Prop := Claim7.holds Tryd.pinned (.plain (OpenSpec.upto weekThursdaySpec)) weekThursdayUptoCard

/-- THE SECOND FORM's CARD OF 'linguisterlaw2.DateCycle'. -/
def dateCycleUptoCard : Claim7 := { stood := { row := dateCycleUptoRow, standIns := [], harness := (true, "287cf4b1eff5003b0beb2380417782140aefff1242486d4584b04d4cdb5dc26c"), looks := true }, kinds := [], alts := [], laidByText := true, laidKinds := [.data, .data, .data, .data], laidTests := true, laidLooks := .later }
def DateCycleUptoCardSaid : Prop := Claim7.holds Tryd.pinned (.plain (OpenSpec.upto dateCycleSpec)) dateCycleUptoCard

/-- THE SECOND FORM's CARD OF 'linguisterlaw2.DateBack'. -/
def dateBackUptoCard : Claim7 := { stood := { row := dateBackUptoRow, standIns := [], harness := (true, "287cf4b1eff5003b0beb2380417782140aefff1242486d4584b04d4cdb5dc26c"), looks := true }, kinds := [], alts := [], laidByText := true, laidKinds := [.data, .data, .data, .data, .sentinel, .sentinel, .data, .pinned], laidTests := true, laidLooks := .later }
def DateBackUptoCardSaid : Prop := Claim7.holds Tryd.pinned (.plain (OpenSpec.upto dateBackSpec)) dateBackUptoCard

/-- THE SECOND FORM's CARD OF 'linguisterlaw2.WeekTells'. -/
def weekTellsUptoCard : Claim7 := { stood := { row := weekTellsUptoRow, standIns := [], harness := (true, "287cf4b1eff5003b0beb2380417782140aefff1242486d4584b04d4cdb5dc26c"), looks := true }, kinds := [], alts := [], laidByText := true, laidKinds := [.data, .data, .data, .handle, .data], laidTests := true, laidLooks := .later }
def WeekTellsUptoCardSaid : Prop := Claim7.holds Tryd.pinned (.plain (OpenSpec.upto weekTellsSpec)) weekTellsUptoCard

/-- THE SECOND FORM's CARD OF 'linguisterlaw2.RelTurned'. -/
def relTurnedUptoCard : Claim7 := { stood := { row := relTurnedUptoRow, standIns := [], harness := (true, "287cf4b1eff5003b0beb2380417782140aefff1242486d4584b04d4cdb5dc26c"), looks := true }, kinds := [], alts := [], laidByText := true, laidKinds := [.data, .data, .data, .data], laidTests := true, laidLooks := .later }
def RelTurnedUptoCardSaid : Prop := Claim7.holds Tryd.pinned (.plain (OpenSpec.upto relTurnedSpec)) relTurnedUptoCard

/-- THE SECOND FORM's CARD OF 'linguisterlaw2.RelTells'. -/
def relTellsUptoCard : Claim7 := { stood := { row := relTellsUptoRow, standIns := [], harness := (true, "287cf4b1eff5003b0beb2380417782140aefff1242486d4584b04d4cdb5dc26c"), looks := true }, kinds := [], alts := [], laidByText := true, laidKinds := [.data, .data, .data, .handle, .data], laidTests := true, laidLooks := .later }
def RelTellsUptoCardSaid : Prop := Claim7.holds Tryd.pinned (.plain (OpenSpec.upto relTellsSpec)) relTellsUptoCard
end Rows
end Go.Proofs.YtcoeajcgeabjcaaDoor
