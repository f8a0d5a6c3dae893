/-
  DERIVED. GIVEN WITH THE SEED: THE CARDS: each row of YtghohnbajbikjaaGreatDoorRows.lean that lists a variable, with what it lists TIED to the program's text (the seventh form; the later family's looks); each row that meets fmt, with fmt's text TOLD by the authors' own Lean function (tested against real Go, not proved from fmt's source: count such statements apart). THE CARD IS WHAT COUNTS. Prove the row's statement (the work); the ties are given (YtghohnbajbikjaaGreatDoorTie.lean); close each card by the builder's one call (the guide's Derived/Test/ToyasCard.lean, 'card_holds'). Laid BY PROGRAM, IN A SANDBOX (cutbox-door.mjs). By AI agents, Wed Nov 11 2026. No macro, syntax, notation, axiom, sorry.
-/
import Derived.Test.YtghohnbajbikjaaGreatDoorRows
import GoSem.ClaimSeven
namespace Go.Proofs.YtghohnbajbikjaaGreatDoor
namespace Rows

/-- THE TIED CARD OF 'linguistertop.TopNear'. -/
def topNearCard : Claim7 := { stood := { row := topNearRow, standIns := [], harness := (true, "eb2c4d57ed9c87d5a7a676f539bcc7d1570956ec659772973e06588dd349aab5"), looks := true }, kinds := [], alts := [], laidByText := true, laidKinds := [.data, .data, .data, .data, .sentinel, .sentinel, .widerDeep, .data, .data, .data, .pinned], laidTests := true, laidLooks := .later }
def TopNearCardSaid : Prop := Claim7.holds Tryz.pinned (.plain (OpenSpec.ofChange topNearSpec)) topNearCard

/-- THE SECOND FORM's CARD OF 'linguistertop.TopNear'. -/
def topNearUptoCard : Claim7 := { stood := { row := topNearUptoRow, standIns := [], harness := (true, "eb2c4d57ed9c87d5a7a676f539bcc7d1570956ec659772973e06588dd349aab5"), looks := true }, kinds := [], alts := [], laidByText := true, laidKinds := [.data, .data, .data, .data, .sentinel, .sentinel, .widerDeep, .data, .data, .data, .pinned], laidTests := true, laidLooks := .later }
def TopNearUptoCardSaid : Prop := Claim7.holds Tryz.pinned (.plain (OpenSpec.upto topNearSpec)) topNearUptoCard
end Rows
end Go.Proofs.YtghohnbajbikjaaGreatDoor
