/-
  DERIVED. GIVEN WITH THE SEED: THE CARDS: each row of YtdcemkfljhdceaaGreatDoorRows.lean that lists a variable, with what it lists TIED to the program's text (the seventh form; the later family's looks); each row that meets fmt, with fmt's text TOLD by the authors' own Lean function (tested against real Go, not proved from fmt's source: count such statements apart). THE CARD IS WHAT COUNTS. Prove the row's statement (the work); the ties are given (YtdcemkfljhdceaaGreatDoorTie.lean); close each card by the builder's one call (the guide's Derived/Test/ToyasCard.lean, 'card_holds'). Laid BY PROGRAM, IN A SANDBOX (cutbox-door.mjs). By AI agents, Wed Nov 11 2026. No macro, syntax, notation, axiom, sorry.
-/
import Derived.Test.YtdcemkfljhdceaaGreatDoorRows
import GoSem.ClaimSeven
namespace Go.Proofs.YtdcemkfljhdceaaGreatDoor
namespace Rows

/-- THE TIED CARD OF 'linguisterlaw2.DateTells'. -/
def dateTellsCard : Claim7 := { stood := { row := dateTellsRow, standIns := [], harness := (true, "d420d72739682fe4ba96df6b76ac86d1b10965d9016f5e4a2ada5c1eb5d76c29"), looks := true }, kinds := [], alts := [], laidByText := true, laidKinds := [.data, .data, .data, .data, .handle, .sentinel, .sentinel, .data, .pinned], laidTests := true, laidLooks := .later }
def DateTellsCardSaid : Prop := Claim7.holds Tryz.pinned (.plain (OpenSpec.ofChange dateTellsSpec)) dateTellsCard

/-- THE SECOND FORM's CARD OF 'linguisterlaw2.DateTells'. -/
def dateTellsUptoCard : Claim7 := { stood := { row := dateTellsUptoRow, standIns := [], harness := (true, "d420d72739682fe4ba96df6b76ac86d1b10965d9016f5e4a2ada5c1eb5d76c29"), looks := true }, kinds := [], alts := [], laidByText := true, laidKinds := [.data, .data, .data, .data, .handle, .sentinel, .sentinel, .data, .pinned], laidTests := true, laidLooks := .later }
def DateTellsUptoCardSaid : Prop := Claim7.holds Tryz.pinned (.plain (OpenSpec.upto dateTellsSpec)) dateTellsUptoCard
end Rows
end Go.Proofs.YtdcemkfljhdceaaGreatDoor
