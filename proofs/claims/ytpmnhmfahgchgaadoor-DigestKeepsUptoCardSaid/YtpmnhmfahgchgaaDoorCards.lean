/-
  DERIVED. GIVEN WITH THE SEED: THE CARDS: each row of YtpmnhmfahgchgaaDoorRows.lean that lists a variable, with what it lists TIED to the program's text (the seventh form; the later family's looks); each row that meets fmt, with fmt's text TOLD by the authors' own Lean function (tested against real Go, not proved from fmt's source: count such statements apart). THE CARD IS WHAT COUNTS. Prove the row's statement (the work); the ties are given (YtpmnhmfahgchgaaDoorTie.lean); close each card by the builder's one call (the guide's Derived/Test/ToyasCard.lean, 'card_holds'). Laid BY PROGRAM, IN A SANDBOX (cutbox-door.mjs). By AI agents, Wed Nov 11 2026. No macro, syntax, notation, axiom, sorry.
-/
import Derived.Test.YtpmnhmfahgchgaaDoorRows
import GoSem.ClaimSeven
namespace Go.Proofs.YtpmnhmfahgchgaaDoor
namespace Rows

/-- THE TIED CARD OF 'notarylaw03.DigestNames'. -/
def digestNamesCard : Claim7 := { stood := { row := digestNamesRow, standIns := [], harness := (true, "92974a9c77380bb32e2e0e4d89f31eafbf516e8241b879ec94567c87c841e144"), looks := false }, kinds := [], alts := [], laidByText := true, laidKinds := [.data], laidTests := true, laidLooks := .later }
def DigestNamesCardSaid : Prop := Claim7.holds Tryd.pinned (.plain (OpenSpec.ofChange digestNamesSpec)) digestNamesCard

/-- THE TIED CARD OF 'notarylaw03.DigestForms'. -/
def digestFormsCard : Claim7 := { stood := { row := digestFormsRow, standIns := [], harness := (true, "92974a9c77380bb32e2e0e4d89f31eafbf516e8241b879ec94567c87c841e144"), looks := false }, kinds := [], alts := [], laidByText := true, laidKinds := [.data], laidTests := true, laidLooks := .later }
def DigestFormsCardSaid : Prop := Claim7.holds Tryd.pinned (.plain (OpenSpec.ofChange digestFormsSpec)) digestFormsCard

/-- THE TIED CARD OF 'notarylaw03.DigestSums'. -/
def digestSumsCard : Claim7 := { stood := { row := digestSumsRow, standIns := [], harness := (true, "92974a9c77380bb32e2e0e4d89f31eafbf516e8241b879ec94567c87c841e144"), looks := false }, kinds := [], alts := [], laidByText := true, laidKinds := [.data], laidTests := true, laidLooks := .later }
def DigestSumsCardSaid : Prop := Claim7.holds Tryd.pinned (.plain (OpenSpec.ofChange digestSumsSpec)) digestSumsCard

/-- THE TIED CARD OF 'notarylaw03.DigestPieces'. -/
def digestPiecesCard : Claim7 := { stood := { row := digestPiecesRow, standIns := [], harness := (true, "92974a9c77380bb32e2e0e4d89f31eafbf516e8241b879ec94567c87c841e144"), looks := false }, kinds := [], alts := [], laidByText := true, laidKinds := [.data], laidTests := true, laidLooks := .later }
def DigestPiecesCardSaid : Prop := Claim7.holds Tryd.pinned (.plain (OpenSpec.ofChange digestPiecesSpec)) digestPiecesCard

/-- THE TIED CARD OF 'notarylaw03.DigestInputs'. -/
def digestInputsCard : Claim7 := { stood := { row := digestInputsRow, standIns := [], harness := (true, "92974a9c77380bb32e2e0e4d89f31eafbf516e8241b879ec94567c87c841e144"), looks := false }, kinds := [], alts := [], laidByText := true, laidKinds := [.data], laidTests := true, laidLooks := .later }
def DigestInputsCardSaid : Prop := Claim7.holds Tryd.pinned (.plain (OpenSpec.ofChange digestInputsSpec)) digestInputsCard

/-- THE TIED CARD OF 'notarylaw03.DigestOneThing'. -/
def digestOneThingCard : Claim7 := { stood := { row := digestOneThingRow, standIns := [], harness := (true, "92974a9c77380bb32e2e0e4d89f31eafbf516e8241b879ec94567c87c841e144"), looks := false }, kinds := [], alts := [], laidByText := true, laidKinds := [.data], laidTests := true, laidLooks := .later }
def DigestOneThingCardSaid : Prop := Claim7.holds Tryd.pinned (.plain (OpenSpec.ofChange digestOneThingSpec)) digestOneThingCard

/-- THE TIED CARD OF 'notarylaw03.DigestDigests'. -/
def digestDigestsCard : Claim7 := { stood := { row := digestDigestsRow, standIns := [], harness := (true, "92974a9c77380bb32e2e0e4d89f31eafbf516e8241b879ec94567c87c841e144"), looks := false }, kinds := [], alts := [], laidByText := true, laidKinds := [.data], laidTests := true, laidLooks := .later }
def DigestDigestsCardSaid : Prop := Claim7.holds Tryd.pinned (.plain (OpenSpec.ofChange digestDigestsSpec)) digestDigestsCard

/-- THE TIED CARD OF 'notarylaw03.DigestKeeps'. -/
def digestKeepsCard : Claim7 := { stood := { row := digestKeepsRow, standIns := [], harness := (true, "92974a9c77380bb32e2e0e4d89f31eafbf516e8241b879ec94567c87c841e144"), looks := false }, kinds := [], alts := [], laidByText := true, laidKinds := [.data], laidTests := true, laidLooks := .later }
def DigestKeepsCardSaid : Prop := Claim7.holds Tryd.pinned (.plain (OpenSpec.ofChange digestKeepsSpec)) digestKeepsCard

/-- THE TIED CARD OF 'notarylaw03.DigestOfInputs'. -/
def digestOfInputsCard : Claim7 := { stood := { row := digestOfInputsRow, standIns := [], harness := (true, "92974a9c77380bb32e2e0e4d89f31eafbf516e8241b879ec94567c87c841e144"), looks := false }, kinds := [], alts := [], laidByText := true, laidKinds := [.data], laidTests := true, laidLooks := .later }
def DigestOfInputsCardSaid : Prop := Claim7.holds Tryd.pinned (.plain (OpenSpec.ofChange digestOfInputsSpec)) digestOfInputsCard

/-- THE TIED CARD OF 'notarytop.WholeTags'. -/
def wholeTagsCard : Claim7 := { stood := { row := wholeTagsRow, standIns := [], harness := (true, "92974a9c77380bb32e2e0e4d89f31eafbf516e8241b879ec94567c87c841e144"), looks := false }, kinds := [], alts := [], laidByText := true, laidKinds := [.data], laidTests := true, laidLooks := .later }
def WholeTagsCardSaid : Prop := Claim7.holds Tryd.pinned (.plain (OpenSpec.ofChange wholeTagsSpec)) wholeTagsCard

/-- THE SECOND FORM's CARD OF 'notarylaw03.DigestNames'. -/
def digestNamesUptoCard : Claim7 := { stood := { row := digestNamesUptoRow, standIns := [], harness := (true, "92974a9c77380bb32e2e0e4d89f31eafbf516e8241b879ec94567c87c841e144"), looks := false }, kinds := [], alts := [], laidByText := true, laidKinds := [.data], laidTests := true, laidLooks := .later }
def DigestNamesUptoCardSaid : Prop := Claim7.holds Tryd.pinned (.plain (OpenSpec.upto digestNamesSpec)) digestNamesUptoCard

/-- THE SECOND FORM's CARD OF 'notarylaw03.DigestForms'. -/
def digestFormsUptoCard : Claim7 := { stood := { row := digestFormsUptoRow, standIns := [], harness := (true, "92974a9c77380bb32e2e0e4d89f31eafbf516e8241b879ec94567c87c841e144"), looks := false }, kinds := [], alts := [], laidByText := true, laidKinds := [.data], laidTests := true, laidLooks := .later }
def DigestFormsUptoCardSaid : Prop := Claim7.holds Tryd.pinned (.plain (OpenSpec.upto digestFormsSpec)) digestFormsUptoCard

/-- THE SECOND FORM's CARD OF 'notarylaw03.DigestSums'. -/
def digestSumsUptoCard : Claim7 := { stood := { row := digestSumsUptoRow, standIns := [], harness := (true, "92974a9c77380bb32e2e0e4d89f31eafbf516e8241b879ec94567c87c841e144"), looks := false }, kinds := [], alts := [], laidByText := true, laidKinds := [.data], laidTests := true, laidLooks := .later }
def DigestSumsUptoCardSaid : Prop := Claim7.holds Tryd.pinned (.plain (OpenSpec.upto digestSumsSpec)) digestSumsUptoCard

/-- THE SECOND FORM's CARD OF 'notarylaw03.DigestPieces'. -/
def digestPiecesUptoCard : Claim7 := { stood := { row := digestPiecesUptoRow, standIns := [], harness := (true, "92974a9c77380bb32e2e0e4d89f31eafbf516e8241b879ec94567c87c841e144"), looks := false }, kinds := [], alts := [], laidByText := true, laidKinds := [.data], laidTests := true, laidLooks := .later }
def DigestPiecesUptoCardSaid : Prop := Claim7.holds Tryd.pinned (.plain (OpenSpec.upto digestPiecesSpec)) digestPiecesUptoCard

/-- THE SECOND FORM's CARD OF 'notarylaw03.DigestInputs'. -/
def digestInputsUptoCard : Claim7 := { stood := { row := digestInputsUptoRow, standIns := [], harness := (true, "92974a9c77380bb32e2e0e4d89f31eafbf516e8241b879ec94567c87c841e144"), looks := false }, kinds := [], alts := [], laidByText := true, laidKinds := [.data], laidTests := true, laidLooks := .later }
def DigestInputsUptoCardSaid : Prop := Claim7.holds Tryd.pinned (.plain (OpenSpec.upto digestInputsSpec)) digestInputsUptoCard

/-- THE SECOND FORM's CARD OF 'notarylaw03.DigestOneThing'. -/
def digestOneThingUptoCard : Claim7 := { stood := { row := digestOneThingUptoRow, standIns := [], harness := (true, "92974a9c77380bb32e2e0e4d89f31eafbf516e8241b879ec94567c87c841e144"), looks := false }, kinds := [], alts := [], laidByText := true, laidKinds := [.data], laidTests := true, laidLooks := .later }
def DigestOneThingUptoCardSaid : Prop := Claim7.holds Tryd.pinned (.plain (OpenSpec.upto digestOneThingSpec)) digestOneThingUptoCard

/-- THE SECOND FORM's CARD OF 'notarylaw03.DigestDigests'. -/
def digestDigestsUptoCard : Claim7 := { stood := { row := digestDigestsUptoRow, standIns := [], harness := (true, "92974a9c77380bb32e2e0e4d89f31eafbf516e8241b879ec94567c87c841e144"), looks := false }, kinds := [], alts := [], laidByText := true, laidKinds := [.data], laidTests := true, laidLooks := .later }
def DigestDigestsUptoCardSaid : Prop := Claim7.holds Tryd.pinned (.plain (OpenSpec.upto digestDigestsSpec)) digestDigestsUptoCard

/-- THE SECOND FORM's CARD OF 'notarylaw03.DigestKeeps'. -/
def digestKeepsUptoCard : Claim7 := { stood := { row := digestKeepsUptoRow, standIns := [], harness := (true, "92974a9c77380bb32e2e0e4d89f31eafbf516e8241b879ec94567c87c841e144"), looks := false }, kinds := [], alts := [], laidByText := true, laidKinds := [.data], laidTests := true, laidLooks := .later }
def DigestKeepsUptoCardSaid : Prop := Claim7.holds Tryd.pinned (.plain (OpenSpec.upto digestKeepsSpec)) digestKeepsUptoCard

/-- THE SECOND FORM's CARD OF 'notarylaw03.DigestOfInputs'. -/
def digestOfInputsUptoCard : Claim7 := { stood := { row := digestOfInputsUptoRow, standIns := [], harness := (true, "92974a9c77380bb32e2e0e4d89f31eafbf516e8241b879ec94567c87c841e144"), looks := false }, kinds := [], alts := [], laidByText := true, laidKinds := [.data], laidTests := true, laidLooks := .later }
def DigestOfInputsUptoCardSaid : Prop := Claim7.holds Tryd.pinned (.plain (OpenSpec.upto digestOfInputsSpec)) digestOfInputsUptoCard

/-- THE SECOND FORM's CARD OF 'notarytop.WholeTags'. -/
def wholeTagsUptoCard : Claim7 := { stood := { row := wholeTagsUptoRow, standIns := [], harness := (true, "92974a9c77380bb32e2e0e4d89f31eafbf516e8241b879ec94567c87c841e144"), looks := false }, kinds := [], alts := [], laidByText := true, laidKinds := [.data], laidTests := true, laidLooks := .later }
def WholeTagsUptoCardSaid : Prop := Claim7.holds Tryd.pinned (.plain (OpenSpec.upto wholeTagsSpec)) wholeTagsUptoCard
end Rows
end Go.Proofs.YtpmnhmfahgchgaaDoor
