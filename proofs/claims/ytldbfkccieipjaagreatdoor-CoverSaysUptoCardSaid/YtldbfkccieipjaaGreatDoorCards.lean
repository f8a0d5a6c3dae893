/-
  DERIVED. GIVEN WITH THE SEED: THE CARDS: each row of YtldbfkccieipjaaGreatDoorRows.lean that lists a variable, with what it lists TIED to the program's text (the seventh form; the later family's looks); each row that meets fmt, with fmt's text TOLD by the authors' own Lean function (tested against real Go, not proved from fmt's source: count such statements apart). THE CARD IS WHAT COUNTS. Prove the row's statement (the work); the ties are given (YtldbfkccieipjaaGreatDoorTie.lean); close each card by the builder's one call (the guide's Derived/Test/ToyasCard.lean, 'card_holds'). Laid BY PROGRAM, IN A SANDBOX (cutbox-door.mjs). By AI agents, Wed Nov 11 2026. No macro, syntax, notation, axiom, sorry.
-/
import Derived.Test.YtldbfkccieipjaaGreatDoorRows
import GoSem.ClaimSeven
namespace Go.Proofs.YtldbfkccieipjaaGreatDoor
namespace Rows

/-- THE TIED CARD OF 'linguisterlaw3.EvalParts'. -/
def evalPartsCard : Claim7 := { stood := { row := evalPartsRow, standIns := [], harness := (true, "32299139c840bb4f371b4845971af540ca06099d86a2aa28e0ea022bc361549e"), looks := true }, kinds := [], alts := [], laidByText := true, laidKinds := [.data, .data, .data, .data, .sentinel, .sentinel, .widerDeep, .data, .data, .data, .pinned], laidTests := true, laidLooks := .later }
def EvalPartsCardSaid : Prop := Claim7.holds Tryz.pinned (.plain (OpenSpec.ofChange evalPartsSpec)) evalPartsCard

/-- THE TIED CARD OF 'linguisterlaw3.EvalPlain'. -/
def evalPlainCard : Claim7 := { stood := { row := evalPlainRow, standIns := [], harness := (true, "32299139c840bb4f371b4845971af540ca06099d86a2aa28e0ea022bc361549e"), looks := true }, kinds := [], alts := [], laidByText := true, laidKinds := [.data, .data, .data, .data, .sentinel, .sentinel, .widerDeep, .data, .data, .data, .pinned], laidTests := true, laidLooks := .later }
def EvalPlainCardSaid : Prop := Claim7.holds Tryz.pinned (.plain (OpenSpec.ofChange evalPlainSpec)) evalPlainCard

/-- THE TIED CARD OF 'linguisterlaw3.EvalMark'. -/
def evalMarkCard : Claim7 := { stood := { row := evalMarkRow, standIns := [], harness := (true, "32299139c840bb4f371b4845971af540ca06099d86a2aa28e0ea022bc361549e"), looks := true }, kinds := [], alts := [], laidByText := true, laidKinds := [.data, .data, .data, .data, .sentinel, .sentinel, .widerDeep, .data, .data, .data, .pinned], laidTests := true, laidLooks := .later }
def EvalMarkCardSaid : Prop := Claim7.holds Tryz.pinned (.plain (OpenSpec.ofChange evalMarkSpec)) evalMarkCard

/-- THE TIED CARD OF 'linguisterlaw3.EvalSelect'. -/
def evalSelectCard : Claim7 := { stood := { row := evalSelectRow, standIns := [], harness := (true, "32299139c840bb4f371b4845971af540ca06099d86a2aa28e0ea022bc361549e"), looks := true }, kinds := [], alts := [], laidByText := true, laidKinds := [.data, .data, .data, .data, .sentinel, .sentinel, .widerDeep, .data, .data, .data, .pinned], laidTests := true, laidLooks := .later }
def EvalSelectCardSaid : Prop := Claim7.holds Tryz.pinned (.plain (OpenSpec.ofChange evalSelectSpec)) evalSelectCard

/-- THE TIED CARD OF 'linguisterlaw3.CoverSays'. -/
def coverSaysCard : Claim7 := { stood := { row := coverSaysRow, standIns := [], harness := (true, "32299139c840bb4f371b4845971af540ca06099d86a2aa28e0ea022bc361549e"), looks := true }, kinds := [], alts := [], laidByText := true, laidKinds := [.data, .data, .data, .data, .sentinel, .sentinel, .widerDeep, .data, .data, .data, .pinned], laidTests := true, laidLooks := .later }
def CoverSaysCardSaid : Prop := Claim7.holds Tryz.pinned (.plain (OpenSpec.ofChange coverSaysSpec)) coverSaysCard

/-- THE TIED CARD OF 'linguisterlaw3.EvalTells'. -/
def evalTellsCard : Claim7 := { stood := { row := evalTellsRow, standIns := [], harness := (true, "32299139c840bb4f371b4845971af540ca06099d86a2aa28e0ea022bc361549e"), looks := true }, kinds := [], alts := [], laidByText := true, laidKinds := [.data, .data, .data, .data, .handle, .sentinel, .sentinel, .widerDeep, .data, .data, .data, .pinned], laidTests := true, laidLooks := .later }
def EvalTellsCardSaid : Prop := Claim7.holds Tryz.pinned (.plain (OpenSpec.ofChange evalTellsSpec)) evalTellsCard

/-- THE TIED CARD OF 'linguisterlaw3.EvalCases'. -/
def evalCasesCard : Claim7 := { stood := { row := evalCasesRow, standIns := [], harness := (true, "32299139c840bb4f371b4845971af540ca06099d86a2aa28e0ea022bc361549e"), looks := true }, kinds := [], alts := [], laidByText := true, laidKinds := [.data, .data, .data, .data, .handle, .sentinel, .sentinel, .widerDeep, .data, .data, .data, .pinned], laidTests := true, laidLooks := .later }
def EvalCasesCardSaid : Prop := Claim7.holds Tryz.pinned (.plain (OpenSpec.ofChange evalCasesSpec)) evalCasesCard

/-- THE SECOND FORM's CARD OF 'linguisterlaw3.EvalParts'. -/
def evalPartsUptoCard : Claim7 := { stood := { row := evalPartsUptoRow, standIns := [], harness := (true, "32299139c840bb4f371b4845971af540ca06099d86a2aa28e0ea022bc361549e"), looks := true }, kinds := [], alts := [], laidByText := true, laidKinds := [.data, .data, .data, .data, .sentinel, .sentinel, .widerDeep, .data, .data, .data, .pinned], laidTests := true, laidLooks := .later }
def EvalPartsUptoCardSaid : Prop := Claim7.holds Tryz.pinned (.plain (OpenSpec.upto evalPartsSpec)) evalPartsUptoCard

/-- THE SECOND FORM's CARD OF 'linguisterlaw3.EvalPlain'. -/
def evalPlainUptoCard : Claim7 := { stood := { row := evalPlainUptoRow, standIns := [], harness := (true, "32299139c840bb4f371b4845971af540ca06099d86a2aa28e0ea022bc361549e"), looks := true }, kinds := [], alts := [], laidByText := true, laidKinds := [.data, .data, .data, .data, .sentinel, .sentinel, .widerDeep, .data, .data, .data, .pinned], laidTests := true, laidLooks := .later }
def EvalPlainUptoCardSaid : Prop := Claim7.holds Tryz.pinned (.plain (OpenSpec.upto evalPlainSpec)) evalPlainUptoCard

/-- THE SECOND FORM's CARD OF 'linguisterlaw3.EvalMark'. -/
def evalMarkUptoCard : Claim7 := { stood := { row := evalMarkUptoRow, standIns := [], harness := (true, "32299139c840bb4f371b4845971af540ca06099d86a2aa28e0ea022bc361549e"), looks := true }, kinds := [], alts := [], laidByText := true, laidKinds := [.data, .data, .data, .data, .sentinel, .sentinel, .widerDeep, .data, .data, .data, .pinned], laidTests := true, laidLooks := .later }
def EvalMarkUptoCardSaid : Prop := Claim7.holds Tryz.pinned (.plain (OpenSpec.upto evalMarkSpec)) evalMarkUptoCard

/-- THE SECOND FORM's CARD OF 'linguisterlaw3.EvalSelect'. -/
def evalSelectUptoCard : Claim7 := { stood := { row := evalSelectUptoRow, standIns := [], harness := (true, "32299139c840bb4f371b4845971af540ca06099d86a2aa28e0ea022bc361549e"), looks := true }, kinds := [], alts := [], laidByText := true, laidKinds := [.data, .data, .data, .data, .sentinel, .sentinel, .widerDeep, .data, .data, .data, .pinned], laidTests := true, laidLooks := .later }
def EvalSelectUptoCardSaid : Prop := Claim7.holds Tryz.pinned (.plain (OpenSpec.upto evalSelectSpec)) evalSelectUptoCard

/-- THE SECOND FORM's CARD OF 'linguisterlaw3.CoverSays'. -/
def coverSaysUptoCard : Claim7 := { stood := { row := coverSaysUptoRow, standIns := [], harness := (true, "32299139c840bb4f371b4845971af540ca06099d86a2aa28e0ea022bc361549e"), looks := true }, kinds := [], alts := [], laidByText := true, laidKinds := [.data, .data, .data, .data, .sentinel, .sentinel, .widerDeep, .data, .data, .data, .pinned], laidTests := true, laidLooks := .later }
def CoverSaysUptoCardSaid : Prop := Claim7.holds Tryz.pinned (.plain (OpenSpec.upto coverSaysSpec)) coverSaysUptoCard

/-- THE SECOND FORM's CARD OF 'linguisterlaw3.EvalTells'. -/
def evalTellsUptoCard : Claim7 := { stood := { row := evalTellsUptoRow, standIns := [], harness := (true, "32299139c840bb4f371b4845971af540ca06099d86a2aa28e0ea022bc361549e"), looks := true }, kinds := [], alts := [], laidByText := true, laidKinds := [.data, .data, .data, .data, .handle, .sentinel, .sentinel, .widerDeep, .data, .data, .data, .pinned], laidTests := true, laidLooks := .later }
def EvalTellsUptoCardSaid : Prop := Claim7.holds Tryz.pinned (.plain (OpenSpec.upto evalTellsSpec)) evalTellsUptoCard

/-- THE SECOND FORM's CARD OF 'linguisterlaw3.EvalCases'. -/
def evalCasesUptoCard : Claim7 := { stood := { row := evalCasesUptoRow, standIns := [], harness := (true, "32299139c840bb4f371b4845971af540ca06099d86a2aa28e0ea022bc361549e"), looks := true }, kinds := [], alts := [], laidByText := true, laidKinds := [.data, .data, .data, .data, .handle, .sentinel, .sentinel, .widerDeep, .data, .data, .data, .pinned], laidTests := true, laidLooks := .later }
def EvalCasesUptoCardSaid : Prop := Claim7.holds Tryz.pinned (.plain (OpenSpec.upto evalCasesSpec)) evalCasesUptoCard
end Rows
end Go.Proofs.YtldbfkccieipjaaGreatDoor
