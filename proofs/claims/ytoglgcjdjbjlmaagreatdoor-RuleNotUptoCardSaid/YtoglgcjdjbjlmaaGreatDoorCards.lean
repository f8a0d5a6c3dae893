/-
  DERIVED. GIVEN WITH THE SEED: THE CARDS: each row of YtoglgcjdjbjlmaaGreatDoorRows.lean that lists a variable, with what it lists TIED to the program's text (the seventh form; the later family's looks); each row that meets fmt, with fmt's text TOLD by the authors' own Lean function (tested against real Go, not proved from fmt's source: count such statements apart). THE CARD IS WHAT COUNTS. Prove the row's statement (the work); the ties are given (YtoglgcjdjbjlmaaGreatDoorTie.lean); close each card by the builder's one call (the guide's Derived/Test/ToyasCard.lean, 'card_holds'). Laid BY PROGRAM, IN A SANDBOX (cutbox-door.mjs). By AI agents, Wed Nov 11 2026. No macro, syntax, notation, axiom, sorry.
-/
import Derived.Test.YtoglgcjdjbjlmaaGreatDoorRows
import GoSem.ClaimSeven
namespace Go.Proofs.YtoglgcjdjbjlmaaGreatDoor
namespace Rows

/-- THE TIED CARD OF 'linguisterlaw1.RuleTells'. -/
def ruleTellsCard : Claim7 := { stood := { row := ruleTellsRow, standIns := [], harness := (true, "edfdd305f75ebaa2db262e49e050a7485d022105b1f0afb484dba62cd1fd1775"), looks := true }, kinds := [], alts := [], laidByText := true, laidKinds := [.data, .data, .data, .data, .handle, .sentinel, .sentinel, .pinned], laidTests := true, laidLooks := .later }
def RuleTellsCardSaid : Prop := Claim7.holds Tryz.pinned (.plain (OpenSpec.ofChange ruleTellsSpec)) ruleTellsCard

/-- THE TIED CARD OF 'linguisterlaw1.RuleNot'. -/
def ruleNotCard : Claim7 := { stood := { row := ruleNotRow, standIns := [], harness := (true, "edfdd305f75ebaa2db262e49e050a7485d022105b1f0afb484dba62cd1fd1775"), looks := true }, kinds := [], alts := [], laidByText := true, laidKinds := [.data, .data, .data, .data, .handle, .sentinel, .sentinel, .pinned], laidTests := true, laidLooks := .later }
def RuleNotCardSaid : Prop := Claim7.holds Tryz.pinned (.plain (OpenSpec.ofChange ruleNotSpec)) ruleNotCard

/-- THE TIED CARD OF 'linguisterlaw1.PluralTells'. -/
def pluralTellsCard : Claim7 := { stood := { row := pluralTellsRow, standIns := [], harness := (true, "edfdd305f75ebaa2db262e49e050a7485d022105b1f0afb484dba62cd1fd1775"), looks := true }, kinds := [], alts := [], laidByText := true, laidKinds := [.data, .data, .data, .data, .handle, .sentinel, .sentinel, .data, .pinned], laidTests := true, laidLooks := .later }
def PluralTellsCardSaid : Prop := Claim7.holds Tryz.pinned (.plain (OpenSpec.ofChange pluralTellsSpec)) pluralTellsCard

/-- THE SECOND FORM's CARD OF 'linguisterlaw1.RuleTells'. -/
def ruleTellsUptoCard : Claim7 := { stood := { row := ruleTellsUptoRow, standIns := [], harness := (true, "edfdd305f75ebaa2db262e49e050a7485d022105b1f0afb484dba62cd1fd1775"), looks := true }, kinds := [], alts := [], laidByText := true, laidKinds := [.data, .data, .data, .data, .handle, .sentinel, .sentinel, .pinned], laidTests := true, laidLooks := .later }
def RuleTellsUptoCardSaid : Prop := Claim7.holds Tryz.pinned (.plain (OpenSpec.upto ruleTellsSpec)) ruleTellsUptoCard

/-- THE SECOND FORM's CARD OF 'linguisterlaw1.RuleNot'. -/
def ruleNotUptoCard : Claim7 := { stood := { row := ruleNotUptoRow, standIns := [], harness := (true, "edfdd305f75ebaa2db262e49e050a7485d022105b1f0afb484dba62cd1fd1775"), looks := true }, kinds := [], alts := [], laidByText := true, laidKinds := [.data, .data, .data, .data, .handle, .sentinel, .sentinel, .pinned], laidTests := true, laidLooks := .later }
def RuleNotUptoCardSaid : Prop := Claim7.holds Tryz.pinned (.plain (OpenSpec.upto ruleNotSpec)) ruleNotUptoCard

/-- THE SECOND FORM's CARD OF 'linguisterlaw1.PluralTells'. -/
def pluralTellsUptoCard : Claim7 := { stood := { row := pluralTellsUptoRow, standIns := [], harness := (true, "edfdd305f75ebaa2db262e49e050a7485d022105b1f0afb484dba62cd1fd1775"), looks := true }, kinds := [], alts := [], laidByText := true, laidKinds := [.data, .data, .data, .data, .handle, .sentinel, .sentinel, .data, .pinned], laidTests := true, laidLooks := .later }
def PluralTellsUptoCardSaid : Prop := Claim7.holds Tryz.pinned (.plain (OpenSpec.upto pluralTellsSpec)) pluralTellsUptoCard
end Rows
end Go.Proofs.YtoglgcjdjbjlmaaGreatDoor
