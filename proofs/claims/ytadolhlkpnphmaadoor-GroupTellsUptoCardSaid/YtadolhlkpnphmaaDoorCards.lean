/-
  DERIVED. GIVEN WITH THE SEED: THE CARDS: each row of YtadolhlkpnphmaaDoorRows.lean that lists a variable, with what it lists TIED to the program's text (the seventh form; the later family's looks); each row that meets fmt, with fmt's text TOLD by the authors' own Lean function (tested against real Go, not proved from fmt's source: count such statements apart). THE CARD IS WHAT COUNTS. Prove the row's statement (the work); the ties are given (YtadolhlkpnphmaaDoorTie.lean); close each card by the builder's one call (the guide's Derived/Test/ToyasCard.lean, 'card_holds'). Laid BY PROGRAM, IN A SANDBOX (cutbox-door.mjs). By AI agents, Wed Nov 11 2026. No macro, syntax, notation, axiom, sorry.
-/
import Derived.Test.YtadolhlkpnphmaaDoorRows
import GoSem.ClaimSeven
namespace Go.Proofs.YtadolhlkpnphmaaDoor
namespace Rows

/-- THE TIED CARD OF 'linguisterlaw1.TagBack'. -/
def tagBackCard : Claim7 := { stood := { row := tagBackRow, standIns := [], harness := (true, "6d534855dbeeb2ee3df20dab9489246f166ea841d773f5ede1b2d37ebb8fe59c"), looks := true }, kinds := [], alts := [], laidByText := true, laidKinds := [.data, .pinned], laidTests := true, laidLooks := .later }
def TagBackCardSaid : Prop := Claim7.holds Tryd.pinned (.plain (OpenSpec.ofChange tagBackSpec)) tagBackCard

/-- THE TIED CARD OF 'linguisterlaw1.ChainShort'. -/
def chainShortCard : Claim7 := { stood := { row := chainShortRow, standIns := [], harness := (true, "6d534855dbeeb2ee3df20dab9489246f166ea841d773f5ede1b2d37ebb8fe59c"), looks := true }, kinds := [], alts := [], laidByText := true, laidKinds := [.data, .pinned], laidTests := true, laidLooks := .later }
def ChainShortCardSaid : Prop := Claim7.holds Tryd.pinned (.plain (OpenSpec.ofChange chainShortSpec)) chainShortCard

/-- THE TIED CARD OF 'linguisterlaw1.ChainOrder'. -/
def chainOrderCard : Claim7 := { stood := { row := chainOrderRow, standIns := [], harness := (true, "6d534855dbeeb2ee3df20dab9489246f166ea841d773f5ede1b2d37ebb8fe59c"), looks := true }, kinds := [], alts := [], laidByText := true, laidKinds := [.data, .pinned], laidTests := true, laidLooks := .later }
def ChainOrderCardSaid : Prop := Claim7.holds Tryd.pinned (.plain (OpenSpec.ofChange chainOrderSpec)) chainOrderCard

/-- THE TIED CARD OF 'linguisterlaw1.PickFirst'. -/
def pickFirstCard : Claim7 := { stood := { row := pickFirstRow, standIns := [], harness := (true, "6d534855dbeeb2ee3df20dab9489246f166ea841d773f5ede1b2d37ebb8fe59c"), looks := true }, kinds := [], alts := [], laidByText := true, laidKinds := [.data, .pinned], laidTests := true, laidLooks := .later }
def PickFirstCardSaid : Prop := Claim7.holds Tryd.pinned (.plain (OpenSpec.ofChange pickFirstSpec)) pickFirstCard

/-- THE TIED CARD OF 'linguisterlaw1.TagTells'. -/
def tagTellsCard : Claim7 := { stood := { row := tagTellsRow, standIns := [], harness := (true, "6d534855dbeeb2ee3df20dab9489246f166ea841d773f5ede1b2d37ebb8fe59c"), looks := true }, kinds := [], alts := [], laidByText := true, laidKinds := [.data, .handle, .pinned], laidTests := true, laidLooks := .later }
def TagTellsCardSaid : Prop := Claim7.holds Tryd.pinned (.plain (OpenSpec.ofChange tagTellsSpec)) tagTellsCard

/-- THE TIED CARD OF 'linguisterlaw1.ChainTells'. -/
def chainTellsCard : Claim7 := { stood := { row := chainTellsRow, standIns := [], harness := (true, "6d534855dbeeb2ee3df20dab9489246f166ea841d773f5ede1b2d37ebb8fe59c"), looks := true }, kinds := [], alts := [], laidByText := true, laidKinds := [.data, .handle, .pinned], laidTests := true, laidLooks := .later }
def ChainTellsCardSaid : Prop := Claim7.holds Tryd.pinned (.plain (OpenSpec.ofChange chainTellsSpec)) chainTellsCard

/-- THE TIED CARD OF 'linguisterlaw1.PickTells'. -/
def pickTellsCard : Claim7 := { stood := { row := pickTellsRow, standIns := [], harness := (true, "6d534855dbeeb2ee3df20dab9489246f166ea841d773f5ede1b2d37ebb8fe59c"), looks := true }, kinds := [], alts := [], laidByText := true, laidKinds := [.data, .handle, .pinned], laidTests := true, laidLooks := .later }
def PickTellsCardSaid : Prop := Claim7.holds Tryd.pinned (.plain (OpenSpec.ofChange pickTellsSpec)) pickTellsCard

/-- THE TIED CARD OF 'linguisterlaw1.PickAll'. -/
def pickAllCard : Claim7 := { stood := { row := pickAllRow, standIns := [], harness := (true, "6d534855dbeeb2ee3df20dab9489246f166ea841d773f5ede1b2d37ebb8fe59c"), looks := true }, kinds := [], alts := [], laidByText := true, laidKinds := [.data, .handle, .pinned], laidTests := true, laidLooks := .later }
def PickAllCardSaid : Prop := Claim7.holds Tryd.pinned (.plain (OpenSpec.ofChange pickAllSpec)) pickAllCard

/-- THE TIED CARD OF 'linguisterlaw1.GroupSizes'. -/
def groupSizesCard : Claim7 := { stood := { row := groupSizesRow, standIns := [], harness := (true, "6d534855dbeeb2ee3df20dab9489246f166ea841d773f5ede1b2d37ebb8fe59c"), looks := true }, kinds := [], alts := [], laidByText := true, laidKinds := [.data, .pinned], laidTests := true, laidLooks := .later }
def GroupSizesCardSaid : Prop := Claim7.holds Tryd.pinned (.plain (OpenSpec.ofChange groupSizesSpec)) groupSizesCard

/-- THE TIED CARD OF 'linguisterlaw1.GroupBack'. -/
def groupBackCard : Claim7 := { stood := { row := groupBackRow, standIns := [], harness := (true, "6d534855dbeeb2ee3df20dab9489246f166ea841d773f5ede1b2d37ebb8fe59c"), looks := true }, kinds := [], alts := [], laidByText := true, laidKinds := [.data, .pinned], laidTests := true, laidLooks := .later }
def GroupBackCardSaid : Prop := Claim7.holds Tryd.pinned (.plain (OpenSpec.ofChange groupBackSpec)) groupBackCard

/-- THE TIED CARD OF 'linguisterlaw1.GroupTells'. -/
def groupTellsCard : Claim7 := { stood := { row := groupTellsRow, standIns := [], harness := (true, "6d534855dbeeb2ee3df20dab9489246f166ea841d773f5ede1b2d37ebb8fe59c"), looks := true }, kinds := [], alts := [], laidByText := true, laidKinds := [.data, .handle, .pinned], laidTests := true, laidLooks := .later }
def GroupTellsCardSaid : Prop := Claim7.holds Tryd.pinned (.plain (OpenSpec.ofChange groupTellsSpec)) groupTellsCard

/-- THE SECOND FORM's CARD OF 'linguisterlaw1.TagBack'. -/
def tagBackUptoCard : Claim7 := { stood := { row := tagBackUptoRow, standIns := [], harness := (true, "6d534855dbeeb2ee3df20dab9489246f166ea841d773f5ede1b2d37ebb8fe59c"), looks := true }, kinds := [], alts := [], laidByText := true, laidKinds := [.data, .pinned], laidTests := true, laidLooks := .later }
def TagBackUptoCardSaid : Prop := Claim7.holds Tryd.pinned (.plain (OpenSpec.upto tagBackSpec)) tagBackUptoCard

/-- THE SECOND FORM's CARD OF 'linguisterlaw1.ChainShort'. -/
def chainShortUptoCard : Claim7 := { stood := { row := chainShortUptoRow, standIns := [], harness := (true, "6d534855dbeeb2ee3df20dab9489246f166ea841d773f5ede1b2d37ebb8fe59c"), looks := true }, kinds := [], alts := [], laidByText := true, laidKinds := [.data, .pinned], laidTests := true, laidLooks := .later }
def ChainShortUptoCardSaid : Prop := Claim7.holds Tryd.pinned (.plain (OpenSpec.upto chainShortSpec)) chainShortUptoCard

/-- THE SECOND FORM's CARD OF 'linguisterlaw1.ChainOrder'. -/
def chainOrderUptoCard : Claim7 := { stood := { row := chainOrderUptoRow, standIns := [], harness := (true, "6d534855dbeeb2ee3df20dab9489246f166ea841d773f5ede1b2d37ebb8fe59c"), looks := true }, kinds := [], alts := [], laidByText := true, laidKinds := [.data, .pinned], laidTests := true, laidLooks := .later }
def ChainOrderUptoCardSaid : Prop := Claim7.holds Tryd.pinned (.plain (OpenSpec.upto chainOrderSpec)) chainOrderUptoCard

/-- THE SECOND FORM's CARD OF 'linguisterlaw1.PickFirst'. -/
def pickFirstUptoCard : Claim7 := { stood := { row := pickFirstUptoRow, standIns := [], harness := (true, "6d534855dbeeb2ee3df20dab9489246f166ea841d773f5ede1b2d37ebb8fe59c"), looks := true }, kinds := [], alts := [], laidByText := true, laidKinds := [.data, .pinned], laidTests := true, laidLooks := .later }
def PickFirstUptoCardSaid : Prop := Claim7.holds Tryd.pinned (.plain (OpenSpec.upto pickFirstSpec)) pickFirstUptoCard

/-- THE SECOND FORM's CARD OF 'linguisterlaw1.TagTells'. -/
def tagTellsUptoCard : Claim7 := { stood := { row := tagTellsUptoRow, standIns := [], harness := (true, "6d534855dbeeb2ee3df20dab9489246f166ea841d773f5ede1b2d37ebb8fe59c"), looks := true }, kinds := [], alts := [], laidByText := true, laidKinds := [.data, .handle, .pinned], laidTests := true, laidLooks := .later }
def TagTellsUptoCardSaid : Prop := Claim7.holds Tryd.pinned (.plain (OpenSpec.upto tagTellsSpec)) tagTellsUptoCard

/-- THE SECOND FORM's CARD OF 'linguisterlaw1.ChainTells'. -/
def chainTellsUptoCard : Claim7 := { stood := { row := chainTellsUptoRow, standIns := [], harness := (true, "6d534855dbeeb2ee3df20dab9489246f166ea841d773f5ede1b2d37ebb8fe59c"), looks := true }, kinds := [], alts := [], laidByText := true, laidKinds := [.data, .handle, .pinned], laidTests := true, laidLooks := .later }
def ChainTellsUptoCardSaid : Prop := Claim7.holds Tryd.pinned (.plain (OpenSpec.upto chainTellsSpec)) chainTellsUptoCard

/-- THE SECOND FORM's CARD OF 'linguisterlaw1.PickTells'. -/
def pickTellsUptoCard : Claim7 := { stood := { row := pickTellsUptoRow, standIns := [], harness := (true, "6d534855dbeeb2ee3df20dab9489246f166ea841d773f5ede1b2d37ebb8fe59c"), looks := true }, kinds := [], alts := [], laidByText := true, laidKinds := [.data, .handle, .pinned], laidTests := true, laidLooks := .later }
def PickTellsUptoCardSaid : Prop := Claim7.holds Tryd.pinned (.plain (OpenSpec.upto pickTellsSpec)) pickTellsUptoCard

/-- THE SECOND FORM's CARD OF 'linguisterlaw1.PickAll'. -/
def pickAllUptoCard : Claim7 := { stood := { row := pickAllUptoRow, standIns := [], harness := (true, "6d534855dbeeb2ee3df20dab9489246f166ea841d773f5ede1b2d37ebb8fe59c"), looks := true }, kinds := [], alts := [], laidByText := true, laidKinds := [.data, .handle, .pinned], laidTests := true, laidLooks := .later }
def PickAllUptoCardSaid : Prop := Claim7.holds Tryd.pinned (.plain (OpenSpec.upto pickAllSpec)) pickAllUptoCard

/-- THE SECOND FORM's CARD OF 'linguisterlaw1.GroupSizes'. -/
def groupSizesUptoCard : Claim7 := { stood := { row := groupSizesUptoRow, standIns := [], harness := (true, "6d534855dbeeb2ee3df20dab9489246f166ea841d773f5ede1b2d37ebb8fe59c"), looks := true }, kinds := [], alts := [], laidByText := true, laidKinds := [.data, .pinned], laidTests := true, laidLooks := .later }
def GroupSizesUptoCardSaid : Prop := Claim7.holds Tryd.pinned (.plain (OpenSpec.upto groupSizesSpec)) groupSizesUptoCard

/-- THE SECOND FORM's CARD OF 'linguisterlaw1.GroupBack'. -/
def groupBackUptoCard : Claim7 := { stood := { row := groupBackUptoRow, standIns := [], harness := (true, "6d534855dbeeb2ee3df20dab9489246f166ea841d773f5ede1b2d37ebb8fe59c"), looks := true }, kinds := [], alts := [], laidByText := true, laidKinds := [.data, .pinned], laidTests := true, laidLooks := .later }
def GroupBackUptoCardSaid : Prop := Claim7.holds Tryd.pinned (.plain (OpenSpec.upto groupBackSpec)) groupBackUptoCard

/-- THE SECOND FORM's CARD OF 'linguisterlaw1.GroupTells'. -/
def groupTellsUptoCard : Claim7 := { stood := { row := groupTellsUptoRow, standIns := [], harness := (true, "6d534855dbeeb2ee3df20dab9489246f166ea841d773f5ede1b2d37ebb8fe59c"), looks := true }, kinds := [], alts := [], laidByText := true, laidKinds := [.data, .handle, .pinned], laidTests := true, laidLooks := .later }
def GroupTellsUptoCardSaid : Prop := Claim7.holds Tryd.pinned (.plain (OpenSpec.upto groupTellsSpec)) groupTellsUptoCard
end Rows
end Go.Proofs.YtadolhlkpnphmaaDoor
