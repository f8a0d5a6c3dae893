/-
  DERIVED. GIVEN WITH THE SEED: THE CARDS: each row of YtaijjffnamjhiaaGreatDoorRows.lean that lists a variable, with what it lists TIED to the program's text (the seventh form; the later family's looks); each row that meets fmt, with fmt's text TOLD by the authors' own Lean function (tested against real Go, not proved from fmt's source: count such statements apart). THE CARD IS WHAT COUNTS. Prove the row's statement (the work); the ties are given (YtaijjffnamjhiaaGreatDoorTie.lean); close each card by the builder's one call (the guide's Derived/Test/ToyasCard.lean, 'card_holds'). Laid BY PROGRAM, IN A SANDBOX (cutbox-door.mjs). By AI agents, Wed Nov 11 2026. No macro, syntax, notation, axiom, sorry.
-/
import Derived.Test.YtaijjffnamjhiaaGreatDoorRows
import GoSem.ClaimSeven
namespace Go.Proofs.YtaijjffnamjhiaaGreatDoor
namespace Rows

/-- THE TIED CARD OF 'linguisterlaw3.NamesTell'. -/
def namesTellCard : Claim7 := { stood := { row := namesTellRow, standIns := [], harness := (true, "858d222943568d922f2507768714fd23467a7359438888ec0f7dac50be9a1d40"), looks := true }, kinds := [], alts := [], laidByText := true, laidKinds := [.data, .data, .data, .data, .handle, .sentinel, .sentinel, .widerDeep, .pinned], laidTests := true, laidLooks := .later }
def NamesTellCardSaid : Prop := Claim7.holds Tryz.pinned (.plain (OpenSpec.ofChange namesTellSpec)) namesTellCard

/-- THE TIED CARD OF 'linguisterlaw3.NamesFit'. -/
def namesFitCard : Claim7 := { stood := { row := namesFitRow, standIns := [], harness := (true, "858d222943568d922f2507768714fd23467a7359438888ec0f7dac50be9a1d40"), looks := true }, kinds := [], alts := [], laidByText := true, laidKinds := [.data, .data, .data, .data, .handle, .sentinel, .sentinel, .widerDeep, .pinned], laidTests := true, laidLooks := .later }
def NamesFitCardSaid : Prop := Claim7.holds Tryz.pinned (.plain (OpenSpec.ofChange namesFitSpec)) namesFitCard

/-- THE TIED CARD OF 'linguisterlaw1.RuleTells'. -/
def ruleTellsCard : Claim7 := { stood := { row := ruleTellsRow, standIns := [], harness := (true, "858d222943568d922f2507768714fd23467a7359438888ec0f7dac50be9a1d40"), looks := true }, kinds := [], alts := [], laidByText := true, laidKinds := [.data, .data, .data, .data, .handle, .sentinel, .sentinel, .pinned], laidTests := true, laidLooks := .later }
def RuleTellsCardSaid : Prop := Claim7.holds Tryz.pinned (.plain (OpenSpec.ofChange ruleTellsSpec)) ruleTellsCard

/-- THE TIED CARD OF 'linguisterlaw1.PluralTells'. -/
def pluralTellsCard : Claim7 := { stood := { row := pluralTellsRow, standIns := [], harness := (true, "858d222943568d922f2507768714fd23467a7359438888ec0f7dac50be9a1d40"), looks := true }, kinds := [], alts := [], laidByText := true, laidKinds := [.data, .data, .data, .data, .handle, .sentinel, .sentinel, .data, .pinned], laidTests := true, laidLooks := .later }
def PluralTellsCardSaid : Prop := Claim7.holds Tryz.pinned (.plain (OpenSpec.ofChange pluralTellsSpec)) pluralTellsCard

/-- THE TIED CARD OF 'linguisterlaw1.NoutBack'. -/
def noutBackCard : Claim7 := { stood := { row := noutBackRow, standIns := [], harness := (true, "858d222943568d922f2507768714fd23467a7359438888ec0f7dac50be9a1d40"), looks := true }, kinds := [], alts := [], laidByText := true, laidKinds := [.data, .data, .data, .data, .sentinel, .sentinel, .pinned], laidTests := true, laidLooks := .later }
def NoutBackCardSaid : Prop := Claim7.holds Tryz.pinned (.plain (OpenSpec.ofChange noutBackSpec)) noutBackCard

/-- THE TIED CARD OF 'linguisterlaw1.NoutTells'. -/
def noutTellsCard : Claim7 := { stood := { row := noutTellsRow, standIns := [], harness := (true, "858d222943568d922f2507768714fd23467a7359438888ec0f7dac50be9a1d40"), looks := true }, kinds := [], alts := [], laidByText := true, laidKinds := [.data, .data, .data, .data, .handle, .sentinel, .sentinel, .pinned], laidTests := true, laidLooks := .later }
def NoutTellsCardSaid : Prop := Claim7.holds Tryz.pinned (.plain (OpenSpec.ofChange noutTellsSpec)) noutTellsCard

/-- THE SECOND FORM's CARD OF 'linguisterlaw3.NamesTell'. -/
def namesTellUptoCard : Claim7 := { stood := { row := namesTellUptoRow, standIns := [], harness := (true, "858d222943568d922f2507768714fd23467a7359438888ec0f7dac50be9a1d40"), looks := true }, kinds := [], alts := [], laidByText := true, laidKinds := [.data, .data, .data, .data, .handle, .sentinel, .sentinel, .widerDeep, .pinned], laidTests := true, laidLooks := .later }
def NamesTellUptoCardSaid : Prop := Claim7.holds Tryz.pinned (.plain (OpenSpec.upto namesTellSpec)) namesTellUptoCard

/-- THE SECOND FORM's CARD OF 'linguisterlaw3.NamesFit'. -/
def namesFitUptoCard : Claim7 := { stood := { row := namesFitUptoRow, standIns := [], harness := (true, "858d222943568d922f2507768714fd23467a7359438888ec0f7dac50be9a1d40"), looks := true }, kinds := [], alts := [], laidByText := true, laidKinds := [.data, .data, .data, .data, .handle, .sentinel, .sentinel, .widerDeep, .pinned], laidTests := true, laidLooks := .later }
def NamesFitUptoCardSaid : Prop := Claim7.holds Tryz.pinned (.plain (OpenSpec.upto namesFitSpec)) namesFitUptoCard

/-- THE SECOND FORM's CARD OF 'linguisterlaw1.RuleTells'. -/
def ruleTellsUptoCard : Claim7 := { stood := { row := ruleTellsUptoRow, standIns := [], harness := (true, "858d222943568d922f2507768714fd23467a7359438888ec0f7dac50be9a1d40"), looks := true }, kinds := [], alts := [], laidByText := true, laidKinds := [.data, .data, .data, .data, .handle, .sentinel, .sentinel, .pinned], laidTests := true, laidLooks := .later }
def RuleTellsUptoCardSaid : Prop := Claim7.holds Tryz.pinned (.plain (OpenSpec.upto ruleTellsSpec)) ruleTellsUptoCard

/-- THE SECOND FORM's CARD OF 'linguisterlaw1.PluralTells'. -/
def pluralTellsUptoCard : Claim7 := { stood := { row := pluralTellsUptoRow, standIns := [], harness := (true, "858d222943568d922f2507768714fd23467a7359438888ec0f7dac50be9a1d40"), looks := true }, kinds := [], alts := [], laidByText := true, laidKinds := [.data, .data, .data, .data, .handle, .sentinel, .sentinel, .data, .pinned], laidTests := true, laidLooks := .later }
def PluralTellsUptoCardSaid : Prop := Claim7.holds Tryz.pinned (.plain (OpenSpec.upto pluralTellsSpec)) pluralTellsUptoCard

/-- THE SECOND FORM's CARD OF 'linguisterlaw1.NoutBack'. -/
def noutBackUptoCard : Claim7 := { stood := { row := noutBackUptoRow, standIns := [], harness := (true, "858d222943568d922f2507768714fd23467a7359438888ec0f7dac50be9a1d40"), looks := true }, kinds := [], alts := [], laidByText := true, laidKinds := [.data, .data, .data, .data, .sentinel, .sentinel, .pinned], laidTests := true, laidLooks := .later }
def NoutBackUptoCardSaid : Prop := Claim7.holds Tryz.pinned (.plain (OpenSpec.upto noutBackSpec)) noutBackUptoCard

/-- THE SECOND FORM's CARD OF 'linguisterlaw1.NoutTells'. -/
def noutTellsUptoCard : Claim7 := { stood := { row := noutTellsUptoRow, standIns := [], harness := (true, "858d222943568d922f2507768714fd23467a7359438888ec0f7dac50be9a1d40"), looks := true }, kinds := [], alts := [], laidByText := true, laidKinds := [.data, .data, .data, .data, .handle, .sentinel, .sentinel, .pinned], laidTests := true, laidLooks := .later }
def NoutTellsUptoCardSaid : Prop := Claim7.holds Tryz.pinned (.plain (OpenSpec.upto noutTellsSpec)) noutTellsUptoCard
end Rows
end Go.Proofs.YtaijjffnamjhiaaGreatDoor
