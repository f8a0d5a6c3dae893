/-
  DERIVED. GIVEN WITH THE SEED: THE CARDS: each row of YtdannkcacldhmaaDoorRows.lean that lists a variable, with what it lists TIED to the program's text (the seventh form; the later family's looks); each row that meets fmt, with fmt's text TOLD by the authors' own Lean function (tested against real Go, not proved from fmt's source: count such statements apart). THE CARD IS WHAT COUNTS. Prove the row's statement (the work); the ties are given (YtdannkcacldhmaaDoorTie.lean); close each card by the builder's one call (the guide's Derived/Test/ToyasCard.lean, 'card_holds'). Laid BY PROGRAM, IN A SANDBOX (cutbox-door.mjs). By AI agents, Wed Nov 11 2026. No macro, syntax, notation, axiom, sorry.
-/
import Derived.Test.YtdannkcacldhmaaDoorRows
import GoSem.ClaimSeven
namespace Go.Proofs.YtdannkcacldhmaaDoor
namespace Rows

/-- THE TIED CARD OF 'linguisterlaw1.OpsTells'. -/
def opsTellsCard : Claim7 := { stood := { row := opsTellsRow, standIns := [], harness := (true, "9213f4699be5f7c0e2f5dcbc6d7da591ec961db99ae1d76449860298c02ff77d"), looks := true }, kinds := [], alts := [], laidByText := true, laidKinds := [.handle], laidTests := true, laidLooks := .later }
def OpsTellsCardSaid : Prop := Claim7.holds Tryd.pinned (.plain (OpenSpec.ofChange opsTellsSpec)) opsTellsCard

/-- THE TIED CARD OF 'linguisterlaw1.LangTells'. -/
def langTellsCard : Claim7 := { stood := { row := langTellsRow, standIns := [], harness := (true, "9213f4699be5f7c0e2f5dcbc6d7da591ec961db99ae1d76449860298c02ff77d"), looks := true }, kinds := [], alts := [], laidByText := true, laidKinds := [.handle], laidTests := true, laidLooks := .later }
def LangTellsCardSaid : Prop := Claim7.holds Tryd.pinned (.plain (OpenSpec.ofChange langTellsSpec)) langTellsCard

/-- THE TIED CARD OF 'linguisterlaw1.ShortDigits'. -/
def shortDigitsCard : Claim7 := { stood := { row := shortDigitsRow, standIns := [], harness := (true, "9213f4699be5f7c0e2f5dcbc6d7da591ec961db99ae1d76449860298c02ff77d"), looks := true }, kinds := [], alts := [], laidByText := true, laidKinds := [.data, .data, .data], laidTests := true, laidLooks := .later }
def ShortDigitsCardSaid : Prop := Claim7.holds Tryd.pinned (.plain (OpenSpec.ofChange shortDigitsSpec)) shortDigitsCard

/-- THE TIED CARD OF 'linguisterlaw2.ListTells'. -/
def listTellsCard : Claim7 := { stood := { row := listTellsRow, standIns := [], harness := (true, "9213f4699be5f7c0e2f5dcbc6d7da591ec961db99ae1d76449860298c02ff77d"), looks := true }, kinds := [], alts := [], laidByText := true, laidKinds := [.handle], laidTests := true, laidLooks := .later }
def ListTellsCardSaid : Prop := Claim7.holds Tryd.pinned (.plain (OpenSpec.ofChange listTellsSpec)) listTellsCard

/-- THE TIED CARD OF 'linguisterlaw1.ShortTells'. -/
def shortTellsCard : Claim7 := { stood := { row := shortTellsRow, standIns := [], harness := (true, "9213f4699be5f7c0e2f5dcbc6d7da591ec961db99ae1d76449860298c02ff77d"), looks := true }, kinds := [], alts := [], laidByText := true, laidKinds := [.data, .data, .data, .handle], laidTests := true, laidLooks := .later }
def ShortTellsCardSaid : Prop := Claim7.holds Tryd.pinned (.plain (OpenSpec.ofChange shortTellsSpec)) shortTellsCard

/-- THE SECOND FORM's CARD OF 'linguisterlaw1.OpsTells'. -/
def opsTellsUptoCard : Claim7 := { stood := { row := opsTellsUptoRow, standIns := [], harness := (true, "9213f4699be5f7c0e2f5dcbc6d7da591ec961db99ae1d76449860298c02ff77d"), looks := true }, kinds := [], alts := [], laidByText := true, laidKinds := [.handle], laidTests := true, laidLooks := .later }
def OpsTellsUptoCardSaid : Prop := Claim7.holds Tryd.pinned (.plain (OpenSpec.upto opsTellsSpec)) opsTellsUptoCard

/-- THE SECOND FORM's CARD OF 'linguisterlaw1.LangTells'. -/
def langTellsUptoCard : Claim7 := { stood := { row := langTellsUptoRow, standIns := [], harness := (true, "9213f4699be5f7c0e2f5dcbc6d7da591ec961db99ae1d76449860298c02ff77d"), looks := true }, kinds := [], alts := [], laidByText := true, laidKinds := [.handle], laidTests := true, laidLooks := .later }
def LangTellsUptoCardSaid : Prop := Claim7.holds Tryd.pinned (.plain (OpenSpec.upto langTellsSpec)) langTellsUptoCard

/-- THE SECOND FORM's CARD OF 'linguisterlaw1.ShortDigits'. -/
def shortDigitsUptoCard : Claim7 := { stood := { row := shortDigitsUptoRow, standIns := [], harness := (true, "9213f4699be5f7c0e2f5dcbc6d7da591ec961db99ae1d76449860298c02ff77d"), looks := true }, kinds := [], alts := [], laidByText := true, laidKinds := [.data, .data, .data], laidTests := true, laidLooks := .later }
def ShortDigitsUptoCardSaid : Prop := Claim7.holds Tryd.pinned (.plain (OpenSpec.upto shortDigitsSpec)) shortDigitsUptoCard

/-- THE SECOND FORM's CARD OF 'linguisterlaw2.ListTells'. -/
def listTellsUptoCard : Claim7 := { stood := { row := listTellsUptoRow, standIns := [], harness := (true, "9213f4699be5f7c0e2f5dcbc6d7da591ec961db99ae1d76449860298c02ff77d"), looks := true }, kinds := [], alts := [], laidByText := true, laidKinds := [.handle], laidTests := true, laidLooks := .later }
def ListTellsUptoCardSaid : Prop := Claim7.holds Tryd.pinned (.plain (OpenSpec.upto listTellsSpec)) listTellsUptoCard

/-- THE SECOND FORM's CARD OF 'linguisterlaw1.ShortTells'. -/
def shortTellsUptoCard : Claim7 := { stood := { row := shortTellsUptoRow, standIns := [], harness := (true, "9213f4699be5f7c0e2f5dcbc6d7da591ec961db99ae1d76449860298c02ff77d"), looks := true }, kinds := [], alts := [], laidByText := true, laidKinds := [.data, .data, .data, .handle], laidTests := true, laidLooks := .later }
def ShortTellsUptoCardSaid : Prop := Claim7.holds Tryd.pinned (.plain (OpenSpec.upto shortTellsSpec)) shortTellsUptoCard
end Rows
end Go.Proofs.YtdannkcacldhmaaDoor
