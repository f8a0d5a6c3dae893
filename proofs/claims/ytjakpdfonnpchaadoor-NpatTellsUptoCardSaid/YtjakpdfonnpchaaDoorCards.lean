/-
  DERIVED. GIVEN WITH THE SEED: THE CARDS: each row of YtjakpdfonnpchaaDoorRows.lean that lists a variable, with what it lists TIED to the program's text (the seventh form; the later family's looks); each row that meets fmt, with fmt's text TOLD by the authors' own Lean function (tested against real Go, not proved from fmt's source: count such statements apart). THE CARD IS WHAT COUNTS. Prove the row's statement (the work); the ties are given (YtjakpdfonnpchaaDoorTie.lean); close each card by the builder's one call (the guide's Derived/Test/ToyasCard.lean, 'card_holds'). Laid BY PROGRAM, IN A SANDBOX (cutbox-door.mjs). By AI agents, Wed Nov 11 2026. No macro, syntax, notation, axiom, sorry.
-/
import Derived.Test.YtjakpdfonnpchaaDoorRows
import GoSem.ClaimSeven
namespace Go.Proofs.YtjakpdfonnpchaaDoor
namespace Rows

/-- THE TIED CARD OF 'linguisterlaw1.NpatBack'. -/
def npatBackCard : Claim7 := { stood := { row := npatBackRow, standIns := [], harness := (true, "3f8c57f995ce454e8215c925a9997cd6afb91006befbd7d0a13f5a54feee6963"), looks := true }, kinds := [], alts := [], laidByText := true, laidKinds := [.data, .pinned], laidTests := true, laidLooks := .later }
def NpatBackCardSaid : Prop := Claim7.holds Tryd.pinned (.plain (OpenSpec.ofChange npatBackSpec)) npatBackCard

/-- THE TIED CARD OF 'linguisterlaw1.NpatTells'. -/
def npatTellsCard : Claim7 := { stood := { row := npatTellsRow, standIns := [], harness := (true, "3f8c57f995ce454e8215c925a9997cd6afb91006befbd7d0a13f5a54feee6963"), looks := true }, kinds := [], alts := [], laidByText := true, laidKinds := [.data, .handle, .pinned], laidTests := true, laidLooks := .later }
def NpatTellsCardSaid : Prop := Claim7.holds Tryd.pinned (.plain (OpenSpec.ofChange npatTellsSpec)) npatTellsCard

/-- THE SECOND FORM's CARD OF 'linguisterlaw1.NpatBack'. -/
def npatBackUptoCard : Claim7 := { stood := { row := npatBackUptoRow, standIns := [], harness := (true, "3f8c57f995ce454e8215c925a9997cd6afb91006befbd7d0a13f5a54feee6963"), looks := true }, kinds := [], alts := [], laidByText := true, laidKinds := [.data, .pinned], laidTests := true, laidLooks := .later }
def NpatBackUptoCardSaid : Prop := Claim7.holds Tryd.pinned (.plain (OpenSpec.upto npatBackSpec)) npatBackUptoCard

/-- THE SECOND FORM's CARD OF 'linguisterlaw1.NpatTells'. -/
def npatTellsUptoCard : Claim7 := { stood := { row := npatTellsUptoRow, standIns := [], harness := (true, "3f8c57f995ce454e8215c925a9997cd6afb91006befbd7d0a13f5a54feee6963"), looks := true }, kinds := [], alts := [], laidByText := true, laidKinds := [.data, .handle, .pinned], laidTests := true, laidLooks := .later }
def NpatTellsUptoCardSaid : Prop := Claim7.holds Tryd.pinned (.plain (OpenSpec.upto npatTellsSpec)) npatTellsUptoCard
end Rows
end Go.Proofs.YtjakpdfonnpchaaDoor
