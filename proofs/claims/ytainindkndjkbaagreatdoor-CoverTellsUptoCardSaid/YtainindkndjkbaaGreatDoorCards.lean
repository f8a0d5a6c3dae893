/-
  DERIVED. GIVEN WITH THE SEED: THE CARDS: each row of YtainindkndjkbaaGreatDoorRows.lean that lists a variable, with what it lists TIED to the program's text (the seventh form; the later family's looks); each row that meets fmt, with fmt's text TOLD by the authors' own Lean function (tested against real Go, not proved from fmt's source: count such statements apart). THE CARD IS WHAT COUNTS. Prove the row's statement (the work); the ties are given (YtainindkndjkbaaGreatDoorTie.lean); close each card by the builder's one call (the guide's Derived/Test/ToyasCard.lean, 'card_holds'). Laid BY PROGRAM, IN A SANDBOX (cutbox-door.mjs). By AI agents, Wed Nov 11 2026. No macro, syntax, notation, axiom, sorry.
-/
import Derived.Test.YtainindkndjkbaaGreatDoorRows
import GoSem.ClaimSeven
namespace Go.Proofs.YtainindkndjkbaaGreatDoor
namespace Rows

/-- THE TIED CARD OF 'linguisterlaw3.NamesTell'. -/
def namesTellCard : Claim7 := { stood := { row := namesTellRow, standIns := [], harness := (true, "cc338f173c287abd29239de85af1d06b04891f512933ba9c698d349dacda5263"), looks := true }, kinds := [], alts := [], laidByText := true, laidKinds := [.data, .data, .data, .data, .handle, .sentinel, .sentinel, .widerDeep, .pinned], laidTests := true, laidLooks := .later }
def NamesTellCardSaid : Prop := Claim7.holds Tryz.pinned (.plain (OpenSpec.ofChange namesTellSpec)) namesTellCard

/-- THE TIED CARD OF 'linguisterlaw3.NamesFit'. -/
def namesFitCard : Claim7 := { stood := { row := namesFitRow, standIns := [], harness := (true, "cc338f173c287abd29239de85af1d06b04891f512933ba9c698d349dacda5263"), looks := true }, kinds := [], alts := [], laidByText := true, laidKinds := [.data, .data, .data, .data, .handle, .sentinel, .sentinel, .widerDeep, .pinned], laidTests := true, laidLooks := .later }
def NamesFitCardSaid : Prop := Claim7.holds Tryz.pinned (.plain (OpenSpec.ofChange namesFitSpec)) namesFitCard

/-- THE TIED CARD OF 'linguisterlaw3.CoverTells'. -/
def coverTellsCard : Claim7 := { stood := { row := coverTellsRow, standIns := [], harness := (true, "cc338f173c287abd29239de85af1d06b04891f512933ba9c698d349dacda5263"), looks := true }, kinds := [], alts := [], laidByText := true, laidKinds := [.data, .data, .data, .data, .handle, .sentinel, .sentinel, .widerDeep, .pinned], laidTests := true, laidLooks := .later }
def CoverTellsCardSaid : Prop := Claim7.holds Tryz.pinned (.plain (OpenSpec.ofChange coverTellsSpec)) coverTellsCard

/-- THE SECOND FORM's CARD OF 'linguisterlaw3.NamesTell'. -/
def namesTellUptoCard : Claim7 := { stood := { row := namesTellUptoRow, standIns := [], harness := (true, "cc338f173c287abd29239de85af1d06b04891f512933ba9c698d349dacda5263"), looks := true }, kinds := [], alts := [], laidByText := true, laidKinds := [.data, .data, .data, .data, .handle, .sentinel, .sentinel, .widerDeep, .pinned], laidTests := true, laidLooks := .later }
def NamesTellUptoCardSaid : Prop := Claim7.holds Tryz.pinned (.plain (OpenSpec.upto namesTellSpec)) namesTellUptoCard

/-- THE SECOND FORM's CARD OF 'linguisterlaw3.NamesFit'. -/
def namesFitUptoCard : Claim7 := { stood := { row := namesFitUptoRow, standIns := [], harness := (true, "cc338f173c287abd29239de85af1d06b04891f512933ba9c698d349dacda5263"), looks := true }, kinds := [], alts := [], laidByText := true, laidKinds := [.data, .data, .data, .data, .handle, .sentinel, .sentinel, .widerDeep, .pinned], laidTests := true, laidLooks := .later }
def NamesFitUptoCardSaid : Prop := Claim7.holds Tryz.pinned (.plain (OpenSpec.upto namesFitSpec)) namesFitUptoCard

/-- THE SECOND FORM's CARD OF 'linguisterlaw3.CoverTells'. -/
def coverTellsUptoCard : Claim7 := { stood := { row := coverTellsUptoRow, standIns := [], harness := (true, "cc338f173c287abd29239de85af1d06b04891f512933ba9c698d349dacda5263"), looks := true }, kinds := [], alts := [], laidByText := true, laidKinds := [.data, .data, .data, .data, .handle, .sentinel, .sentinel, .widerDeep, .pinned], laidTests := true, laidLooks := .later }
def CoverTellsUptoCardSaid : Prop := Claim7.holds Tryz.pinned (.plain (OpenSpec.upto coverTellsSpec)) coverTellsUptoCard
end Rows
end Go.Proofs.YtainindkndjkbaaGreatDoor
