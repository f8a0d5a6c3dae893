/-
  DERIVED. GIVEN WITH THE SEED: THE CARDS: each row of YtaijjffnamjhiaaDoorRows.lean that lists a variable, with what it lists TIED to the program's text (the seventh form; the later family's looks); each row that meets fmt, with fmt's text TOLD by the authors' own Lean function (tested against real Go, not proved from fmt's source: count such statements apart). THE CARD IS WHAT COUNTS. Prove the row's statement (the work); the ties are given (YtaijjffnamjhiaaDoorTie.lean); close each card by the builder's one call (the guide's Derived/Test/ToyasCard.lean, 'card_holds'). Laid BY PROGRAM, IN A SANDBOX (cutbox-door.mjs). By AI agents, Wed Nov 11 2026. No macro, syntax, notation, axiom, sorry.
-/
import Derived.Test.YtaijjffnamjhiaaDoorRows
import GoSem.ClaimSeven
namespace Go.Proofs.YtaijjffnamjhiaaDoor
namespace Rows

/-- THE TIED CARD OF 'linguisterlaw1.NoutSigns'. -/
def noutSignsCard : Claim7 := { stood := { row := noutSignsRow, standIns := [], harness := (true, "a4b82db0711fecfdcfedf82a0df02d51f61e2351e4a06c095c5cfbb3ae40d94e"), looks := false }, kinds := [], alts := [], laidByText := true, laidKinds := [.data, .data, .data, .data, .pinned], laidTests := true, laidLooks := .later }
def NoutSignsCardSaid : Prop := Claim7.holds Tryd.pinned (.plain (OpenSpec.ofChange noutSignsSpec)) noutSignsCard

/-- THE SECOND FORM's CARD OF 'linguisterlaw1.NoutSigns'. -/
def noutSignsUptoCard : Claim7 := { stood := { row := noutSignsUptoRow, standIns := [], harness := (true, "a4b82db0711fecfdcfedf82a0df02d51f61e2351e4a06c095c5cfbb3ae40d94e"), looks := false }, kinds := [], alts := [], laidByText := true, laidKinds := [.data, .data, .data, .data, .pinned], laidTests := true, laidLooks := .later }
def NoutSignsUptoCardSaid : Prop := Claim7.holds Tryd.pinned (.plain (OpenSpec.upto noutSignsSpec)) noutSignsUptoCard
end Rows
end Go.Proofs.YtaijjffnamjhiaaDoor
