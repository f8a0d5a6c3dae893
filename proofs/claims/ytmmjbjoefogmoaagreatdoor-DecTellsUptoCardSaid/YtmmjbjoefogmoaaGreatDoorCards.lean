/-
  DERIVED. GIVEN WITH THE SEED: THE CARDS: each row of YtmmjbjoefogmoaaGreatDoorRows.lean that lists a variable, with what it lists TIED to the program's text (the seventh form; the later family's looks); each row that meets fmt, with fmt's text TOLD by the authors' own Lean function (tested against real Go, not proved from fmt's source: count such statements apart). THE CARD IS WHAT COUNTS. Prove the row's statement (the work); the ties are given (YtmmjbjoefogmoaaGreatDoorTie.lean); close each card by the builder's one call (the guide's Derived/Test/ToyasCard.lean, 'card_holds'). Laid BY PROGRAM, IN A SANDBOX (cutbox-door.mjs). By AI agents, Wed Nov 11 2026. No macro, syntax, notation, axiom, sorry.
-/
import Derived.Test.YtmmjbjoefogmoaaGreatDoorRows
import GoSem.ClaimSeven
namespace Go.Proofs.YtmmjbjoefogmoaaGreatDoor
namespace Rows

/-- THE TIED CARD OF 'linguisterlaw1.DecTells'. -/
def decTellsCard : Claim7 := { stood := { row := decTellsRow, standIns := [], harness := (true, "8b8c0ff0d426ec1310ab5de323ecc51817d5be5e64e32bda1f6ae0abe11ca64f"), looks := true }, kinds := [], alts := [], laidByText := true, laidKinds := [.data, .data, .data, .handle, .sentinel, .sentinel], laidTests := true, laidLooks := .later }
def DecTellsCardSaid : Prop := Claim7.holds Tryz.pinned (.plain (OpenSpec.ofChange decTellsSpec)) decTellsCard

/-- THE TIED CARD OF 'linguisterlaw1.RuleTells'. -/
def ruleTellsCard : Claim7 := { stood := { row := ruleTellsRow, standIns := [], harness := (true, "8b8c0ff0d426ec1310ab5de323ecc51817d5be5e64e32bda1f6ae0abe11ca64f"), looks := true }, kinds := [], alts := [], laidByText := true, laidKinds := [.data, .data, .data, .data, .handle, .sentinel, .sentinel, .pinned], laidTests := true, laidLooks := .later }
def RuleTellsCardSaid : Prop := Claim7.holds Tryz.pinned (.plain (OpenSpec.ofChange ruleTellsSpec)) ruleTellsCard

/-- THE TIED CARD OF 'linguisterlaw1.RuleNot'. -/
def ruleNotCard : Claim7 := { stood := { row := ruleNotRow, standIns := [], harness := (true, "8b8c0ff0d426ec1310ab5de323ecc51817d5be5e64e32bda1f6ae0abe11ca64f"), looks := true }, kinds := [], alts := [], laidByText := true, laidKinds := [.data, .data, .data, .data, .handle, .sentinel, .sentinel, .pinned], laidTests := true, laidLooks := .later }
def RuleNotCardSaid : Prop := Claim7.holds Tryz.pinned (.plain (OpenSpec.ofChange ruleNotSpec)) ruleNotCard

/-- THE TIED CARD OF 'linguisterlaw1.PluralTells'. -/
def pluralTellsCard : Claim7 := { stood := { row := pluralTellsRow, standIns := [], harness := (true, "8b8c0ff0d426ec1310ab5de323ecc51817d5be5e64e32bda1f6ae0abe11ca64f"), looks := true }, kinds := [], alts := [], laidByText := true, laidKinds := [.data, .data, .data, .data, .handle, .sentinel, .sentinel, .data, .pinned], laidTests := true, laidLooks := .later }
def PluralTellsCardSaid : Prop := Claim7.holds Tryz.pinned (.plain (OpenSpec.ofChange pluralTellsSpec)) pluralTellsCard

/-- THE TIED CARD OF 'linguisterlaw1.NoutBack'. -/
def noutBackCard : Claim7 := { stood := { row := noutBackRow, standIns := [], harness := (true, "8b8c0ff0d426ec1310ab5de323ecc51817d5be5e64e32bda1f6ae0abe11ca64f"), looks := true }, kinds := [], alts := [], laidByText := true, laidKinds := [.data, .data, .data, .data, .sentinel, .sentinel, .pinned], laidTests := true, laidLooks := .later }
def NoutBackCardSaid : Prop := Claim7.holds Tryz.pinned (.plain (OpenSpec.ofChange noutBackSpec)) noutBackCard

/-- THE TIED CARD OF 'linguisterlaw1.NoutTells'. -/
def noutTellsCard : Claim7 := { stood := { row := noutTellsRow, standIns := [], harness := (true, "8b8c0ff0d426ec1310ab5de323ecc51817d5be5e64e32bda1f6ae0abe11ca64f"), looks := true }, kinds := [], alts := [], laidByText := true, laidKinds := [.data, .data, .data, .data, .handle, .sentinel, .sentinel, .pinned], laidTests := true, laidLooks := .later }
def NoutTellsCardSaid : Prop := Claim7.holds Tryz.pinned (.plain (OpenSpec.ofChange noutTellsSpec)) noutTellsCard

/-- THE SECOND FORM's CARD OF 'linguisterlaw1.DecTells'. -/
def decTellsUptoCard : Claim7 := { stood := { row := decTellsUptoRow, standIns := [], harness := (true, "8b8c0ff0d426ec1310ab5de323ecc51817d5be5e64e32bda1f6ae0abe11ca64f"), looks := true }, kinds := [], alts := [], laidByText := true, laidKinds := [.data, .data, .data, .handle, .sentinel, .sentinel], laidTests := true, laidLooks := .later }
def DecTellsUptoCardSaid : Prop := Claim7.holds Tryz.pinned (.plain (OpenSpec.upto decTellsSpec)) decTellsUptoCard

/-- THE SECOND FORM's CARD OF 'linguisterlaw1.RuleTells'. -/
def ruleTellsUptoCard : Claim7 := { stood := { row := ruleTellsUptoRow, standIns := [], harness := (true, "8b8c0ff0d426ec1310ab5de323ecc51817d5be5e64e32bda1f6ae0abe11ca64f"), looks := true }, kinds := [], alts := [], laidByText := true, laidKinds := [.data, .data, .data, .data, .handle, .sentinel, .sentinel, .pinned], laidTests := true, laidLooks := .later }
def RuleTellsUptoCardSaid : Prop := Claim7.holds Tryz.pinned (.plain (OpenSpec.upto ruleTellsSpec)) ruleTellsUptoCard

/-- THE SECOND FORM's CARD OF 'linguisterlaw1.RuleNot'. -/
def ruleNotUptoCard : Claim7 := { stood := { row := ruleNotUptoRow, standIns := [], harness := (true, "8b8c0ff0d426ec1310ab5de323ecc51817d5be5e64e32bda1f6ae0abe11ca64f"), looks := true }, kinds := [], alts := [], laidByText := true, laidKinds := [.data, .data, .data, .data, .handle, .sentinel, .sentinel, .pinned], laidTests := true, laidLooks := .later }
def RuleNotUptoCardSaid : Prop := Claim7.holds Tryz.pinned (.plain (OpenSpec.upto ruleNotSpec)) ruleNotUptoCard

/-- THE SECOND FORM's CARD OF 'linguisterlaw1.PluralTells'. -/
def pluralTellsUptoCard : Claim7 := { stood := { row := pluralTellsUptoRow, standIns := [], harness := (true, "8b8c0ff0d426ec1310ab5de323ecc51817d5be5e64e32bda1f6ae0abe11ca64f"), looks := true }, kinds := [], alts := [], laidByText := true, laidKinds := [.data, .data, .data, .data, .handle, .sentinel, .sentinel, .data, .pinned], laidTests := true, laidLooks := .later }
def PluralTellsUptoCardSaid : Prop := Claim7.holds Tryz.pinned (.plain (OpenSpec.upto pluralTellsSpec)) pluralTellsUptoCard

/-- THE SECOND FORM's CARD OF 'linguisterlaw1.NoutBack'. -/
def noutBackUptoCard : Claim7 := { stood := { row := noutBackUptoRow, standIns := [], harness := (true, "8b8c0ff0d426ec1310ab5de323ecc51817d5be5e64e32bda1f6ae0abe11ca64f"), looks := true }, kinds := [], alts := [], laidByText := true, laidKinds := [.data, .data, .data, .data, .sentinel, .sentinel, .pinned], laidTests := true, laidLooks := .later }
def NoutBackUptoCardSaid : Prop := Claim7.holds Tryz.pinned (.plain (OpenSpec.upto noutBackSpec)) noutBackUptoCard

/-- THE SECOND FORM's CARD OF 'linguisterlaw1.NoutTells'. -/
def noutTellsUptoCard : Claim7 := { stood := { row := noutTellsUptoRow, standIns := [], harness := (true, "8b8c0ff0d426ec1310ab5de323ecc51817d5be5e64e32bda1f6ae0abe11ca64f"), looks := true }, kinds := [], alts := [], laidByText := true, laidKinds := [.data, .data, .data, .data, .handle, .sentinel, .sentinel, .pinned], laidTests := true, laidLooks := .later }
def NoutTellsUptoCardSaid : Prop := Claim7.holds Tryz.pinned (.plain (OpenSpec.upto noutTellsSpec)) noutTellsUptoCard
end Rows
end Go.Proofs.YtmmjbjoefogmoaaGreatDoor
