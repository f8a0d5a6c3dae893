/-
  DERIVED. GIVEN WITH THE SEED: THE CARDS: each row of YtoglgcjdjbjlmaaDoorRows.lean that lists a variable, with what it lists TIED to the program's text (the seventh form; the later family's looks); each row that meets fmt, with fmt's text TOLD by the authors' own Lean function (tested against real Go, not proved from fmt's source: count such statements apart). THE CARD IS WHAT COUNTS. Prove the row's statement (the work); the ties are given (YtoglgcjdjbjlmaaDoorTie.lean); close each card by the builder's one call (the guide's Derived/Test/ToyasCard.lean, 'card_holds'). Laid BY PROGRAM, IN A SANDBOX (cutbox-door.mjs). By AI agents, Wed Nov 11 2026. No macro, syntax, notation, axiom, sorry.
-/
import Derived.Test.YtoglgcjdjbjlmaaDoorRows
import GoSem.ClaimSeven
namespace Go.Proofs.YtoglgcjdjbjlmaaDoor
namespace Rows

/-- THE TIED CARD OF 'linguisterlaw1.RuleBack'. -/
def ruleBackCard : Claim7 := { stood := { row := ruleBackRow, standIns := [], harness := (true, "443897f851cf12234ad2961ae32d6a3e7500c7744849f8f9e887375044df0b7c"), looks := true }, kinds := [], alts := [], laidByText := true, laidKinds := [.data, .data, .data, .data, .sentinel, .sentinel, .pinned], laidTests := true, laidLooks := .later }
def RuleBackCardSaid : Prop := Claim7.holds Tryd.pinned (.plain (OpenSpec.ofChange ruleBackSpec)) ruleBackCard

/-- THE TIED CARD OF 'linguisterlaw1.RuleParts'. -/
def rulePartsCard : Claim7 := { stood := { row := rulePartsRow, standIns := [], harness := (true, "443897f851cf12234ad2961ae32d6a3e7500c7744849f8f9e887375044df0b7c"), looks := true }, kinds := [], alts := [], laidByText := true, laidKinds := [.data, .data, .data, .data, .sentinel, .sentinel, .pinned], laidTests := true, laidLooks := .later }
def RulePartsCardSaid : Prop := Claim7.holds Tryd.pinned (.plain (OpenSpec.ofChange rulePartsSpec)) rulePartsCard

/-- THE TIED CARD OF 'linguisterlaw1.PluralJust'. -/
def pluralJustCard : Claim7 := { stood := { row := pluralJustRow, standIns := [], harness := (true, "443897f851cf12234ad2961ae32d6a3e7500c7744849f8f9e887375044df0b7c"), looks := true }, kinds := [], alts := [], laidByText := true, laidKinds := [.data, .data, .data, .data, .sentinel, .sentinel, .data, .pinned], laidTests := true, laidLooks := .later }
def PluralJustCardSaid : Prop := Claim7.holds Tryd.pinned (.plain (OpenSpec.ofChange pluralJustSpec)) pluralJustCard

/-- THE TIED CARD OF 'linguisterlaw1.LangSlavic'. -/
def langSlavicCard : Claim7 := { stood := { row := langSlavicRow, standIns := [], harness := (true, "443897f851cf12234ad2961ae32d6a3e7500c7744849f8f9e887375044df0b7c"), looks := true }, kinds := [], alts := [], laidByText := true, laidKinds := [.data, .data, .data, .data, .sentinel, .sentinel, .data, .pinned], laidTests := true, laidLooks := .later }
def LangSlavicCardSaid : Prop := Claim7.holds Tryd.pinned (.plain (OpenSpec.ofChange langSlavicSpec)) langSlavicCard

/-- THE TIED CARD OF 'linguisterlaw1.LangArabic'. -/
def langArabicCard : Claim7 := { stood := { row := langArabicRow, standIns := [], harness := (true, "443897f851cf12234ad2961ae32d6a3e7500c7744849f8f9e887375044df0b7c"), looks := true }, kinds := [], alts := [], laidByText := true, laidKinds := [.data, .data, .data, .data, .sentinel, .sentinel, .data, .pinned], laidTests := true, laidLooks := .later }
def LangArabicCardSaid : Prop := Claim7.holds Tryd.pinned (.plain (OpenSpec.ofChange langArabicSpec)) langArabicCard

/-- THE TIED CARD OF 'linguisterlaw1.LangEnglish'. -/
def langEnglishCard : Claim7 := { stood := { row := langEnglishRow, standIns := [], harness := (true, "443897f851cf12234ad2961ae32d6a3e7500c7744849f8f9e887375044df0b7c"), looks := true }, kinds := [], alts := [], laidByText := true, laidKinds := [.data, .data, .data, .data, .sentinel, .sentinel, .data, .pinned], laidTests := true, laidLooks := .later }
def LangEnglishCardSaid : Prop := Claim7.holds Tryd.pinned (.plain (OpenSpec.ofChange langEnglishSpec)) langEnglishCard

/-- THE SECOND FORM's CARD OF 'linguisterlaw1.RuleBack'. -/
def ruleBackUptoCard : Claim7 := { stood := { row := ruleBackUptoRow, standIns := [], harness := (true, "443897f851cf12234ad2961ae32d6a3e7500c7744849f8f9e887375044df0b7c"), looks := true }, kinds := [], alts := [], laidByText := true, laidKinds := [.data, .data, .data, .data, .sentinel, .sentinel, .pinned], laidTests := true, laidLooks := .later }
def RuleBackUptoCardSaid : Prop := Claim7.holds Tryd.pinned (.plain (OpenSpec.upto ruleBackSpec)) ruleBackUptoCard

/-- THE SECOND FORM's CARD OF 'linguisterlaw1.RuleParts'. -/
def rulePartsUptoCard : Claim7 := { stood := { row := rulePartsUptoRow, standIns := [], harness := (true, "443897f851cf12234ad2961ae32d6a3e7500c7744849f8f9e887375044df0b7c"), looks := true }, kinds := [], alts := [], laidByText := true, laidKinds := [.data, .data, .data, .data, .sentinel, .sentinel, .pinned], laidTests := true, laidLooks := .later }
def RulePartsUptoCardSaid : Prop := Claim7.holds Tryd.pinned (.plain (OpenSpec.upto rulePartsSpec)) rulePartsUptoCard

/-- THE SECOND FORM's CARD OF 'linguisterlaw1.PluralJust'. -/
def pluralJustUptoCard : Claim7 := { stood := { row := pluralJustUptoRow, standIns := [], harness := (true, "443897f851cf12234ad2961ae32d6a3e7500c7744849f8f9e887375044df0b7c"), looks := true }, kinds := [], alts := [], laidByText := true, laidKinds := [.data, .data, .data, .data, .sentinel, .sentinel, .data, .pinned], laidTests := true, laidLooks := .later }
def PluralJustUptoCardSaid : Prop := Claim7.holds Tryd.pinned (.plain (OpenSpec.upto pluralJustSpec)) pluralJustUptoCard

/-- THE SECOND FORM's CARD OF 'linguisterlaw1.LangSlavic'. -/
def langSlavicUptoCard : Claim7 := { stood := { row := langSlavicUptoRow, standIns := [], harness := (true, "443897f851cf12234ad2961ae32d6a3e7500c7744849f8f9e887375044df0b7c"), looks := true }, kinds := [], alts := [], laidByText := true, laidKinds := [.data, .data, .data, .data, .sentinel, .sentinel, .data, .pinned], laidTests := true, laidLooks := .later }
def LangSlavicUptoCardSaid : Prop := Claim7.holds Tryd.pinned (.plain (OpenSpec.upto langSlavicSpec)) langSlavicUptoCard

/-- THE SECOND FORM's CARD OF 'linguisterlaw1.LangArabic'. -/
def langArabicUptoCard : Claim7 := { stood := { row := langArabicUptoRow, standIns := [], harness := (true, "443897f851cf12234ad2961ae32d6a3e7500c7744849f8f9e887375044df0b7c"), looks := true }, kinds := [], alts := [], laidByText := true, laidKinds := [.data, .data, .data, .data, .sentinel, .sentinel, .data, .pinned], laidTests := true, laidLooks := .later }
def LangArabicUptoCardSaid : Prop := Claim7.holds Tryd.pinned (.plain (OpenSpec.upto langArabicSpec)) langArabicUptoCard

/-- THE SECOND FORM's CARD OF 'linguisterlaw1.LangEnglish'. -/
def langEnglishUptoCard : Claim7 := { stood := { row := langEnglishUptoRow, standIns := [], harness := (true, "443897f851cf12234ad2961ae32d6a3e7500c7744849f8f9e887375044df0b7c"), looks := true }, kinds := [], alts := [], laidByText := true, laidKinds := [.data, .data, .data, .data, .sentinel, .sentinel, .data, .pinned], laidTests := true, laidLooks := .later }
def LangEnglishUptoCardSaid : Prop := Claim7.holds Tryd.pinned (.plain (OpenSpec.upto langEnglishSpec)) langEnglishUptoCard
end Rows
end Go.Proofs.YtoglgcjdjbjlmaaDoor
