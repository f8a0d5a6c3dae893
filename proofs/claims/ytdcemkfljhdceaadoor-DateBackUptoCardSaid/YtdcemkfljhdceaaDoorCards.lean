/-
  DERIVED. GIVEN WITH THE SEED: THE CARDS: each row of YtdcemkfljhdceaaDoorRows.lean that lists a variable, with what it lists TIED to the program's text (the seventh form; the later family's looks); each row that meets fmt, with fmt's text TOLD by the authors' own Lean function (tested against real Go, not proved from fmt's source: count such statements apart). THE CARD IS WHAT COUNTS. Prove the row's statement (the work); the ties are given (YtdcemkfljhdceaaDoorTie.lean); close each card by the builder's one call (the guide's Derived/Test/ToyasCard.lean, 'card_holds'). Laid BY PROGRAM, IN A SANDBOX (cutbox-door.mjs). By AI agents, Wed Nov 11 2026. No macro, syntax, notation, axiom, sorry.
-/
import Derived.Test.YtdcemkfljhdceaaDoorRows
import GoSem.ClaimSeven
namespace Go.Proofs.YtdcemkfljhdceaaDoor
namespace Rows

/-- THE TIED CARD OF 'linguisterlaw2.WeekTells'. -/
def weekTellsCard : Claim7 := { stood := { row := weekTellsRow, standIns := [], harness := (true, "bd8c8008c64c20f889aad9e24d98dc00d11d270837b776a476b922e5bfb3a12a"), looks := true }, kinds := [], alts := [], laidByText := true, laidKinds := [.data, .data, .data, .handle, .data], laidTests := true, laidLooks := .later }
def WeekTellsCardSaid : Prop := Claim7.holds Tryd.pinned (.plain (OpenSpec.ofChange weekTellsSpec)) weekTellsCard

/-- THE TIED CARD OF 'linguisterlaw2.DateBack'. -/
def dateBackCard : Claim7 := { stood := { row := dateBackRow, standIns := [], harness := (true, "bd8c8008c64c20f889aad9e24d98dc00d11d270837b776a476b922e5bfb3a12a"), looks := true }, kinds := [], alts := [], laidByText := true, laidKinds := [.data, .data, .data, .data, .sentinel, .sentinel, .data, .pinned], laidTests := true, laidLooks := .later }
def DateBackCardSaid : Prop := Claim7.holds Tryd.pinned (.plain (OpenSpec.ofChange dateBackSpec)) dateBackCard

/-- THE SECOND FORM's CARD OF 'linguisterlaw2.WeekTells'. -/
def weekTellsUptoCard : Claim7 := { stood := { row := weekTellsUptoRow, standIns := [], harness := (true, "bd8c8008c64c20f889aad9e24d98dc00d11d270837b776a476b922e5bfb3a12a"), looks := true }, kinds := [], alts := [], laidByText := true, laidKinds := [.data, .data, .data, .handle, .data], laidTests := true, laidLooks := .later }
def WeekTellsUptoCardSaid : Prop := Claim7.holds Tryd.pinned (.plain (OpenSpec.upto weekTellsSpec)) weekTellsUptoCard

/-- THE SECOND FORM's CARD OF 'linguisterlaw2.DateBack'. -/
def dateBackUptoCard : Claim7 := { stood := { row := dateBackUptoRow, standIns := [], harness := (true, "bd8c8008c64c20f889aad9e24d98dc00d11d270837b776a476b922e5bfb3a12a"), looks := true }, kinds := [], alts := [], laidByText := true, laidKinds := [.data, .data, .data, .data, .sentinel, .sentinel, .data, .pinned], laidTests := true, laidLooks := .later }
def DateBackUptoCardSaid : Prop := Claim7.holds Tryd.pinned (.plain (OpenSpec.upto dateBackSpec)) dateBackUptoCard
end Rows
end Go.Proofs.YtdcemkfljhdceaaDoor
