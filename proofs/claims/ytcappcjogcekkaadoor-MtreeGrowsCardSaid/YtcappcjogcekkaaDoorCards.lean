/-
  DERIVED. GIVEN WITH THE SEED: THE CARDS: each row of YtcappcjogcekkaaDoorRows.lean that lists a variable, with what it lists TIED to the program's text (the seventh form; the later family's looks); each row that meets fmt, with fmt's text TOLD by the authors' own Lean function (tested against real Go, not proved from fmt's source: count such statements apart). THE CARD IS WHAT COUNTS. Prove the row's statement (the work); the ties are given (YtcappcjogcekkaaDoorTie.lean); close each card by the builder's one call (the guide's Derived/Test/ToyasCard.lean, 'card_holds'). Laid BY PROGRAM, IN A SANDBOX (cutbox-door.mjs). By AI agents, Wed Nov 11 2026. No macro, syntax, notation, axiom, sorry.
-/
import Derived.Test.YtcappcjogcekkaaDoorRows
import GoSem.ClaimSeven
namespace Go.Proofs.YtcappcjogcekkaaDoor
namespace Rows

/-- THE TIED CARD OF 'notarylaw10.MtreeGrows'. -/
def mtreeGrowsCard : Claim7 := { stood := { row := mtreeGrowsRow, standIns := [], harness := (true, "98fbf89e03e054bca8f70413c582277da1a6210cfa887cb9f0593e94ca1c9567"), looks := false }, kinds := [], alts := [], laidByText := true, laidKinds := [.data], laidTests := true, laidLooks := .later }
def MtreeGrowsCardSaid : Prop := Claim7.holds Tryd.pinned (.plain (OpenSpec.ofChange mtreeGrowsSpec)) mtreeGrowsCard

/-- THE TIED CARD OF 'notarylaw10.MtreeRanges'. -/
def mtreeRangesCard : Claim7 := { stood := { row := mtreeRangesRow, standIns := [], harness := (true, "98fbf89e03e054bca8f70413c582277da1a6210cfa887cb9f0593e94ca1c9567"), looks := false }, kinds := [], alts := [], laidByText := true, laidKinds := [.data], laidTests := true, laidLooks := .later }
def MtreeRangesCardSaid : Prop := Claim7.holds Tryd.pinned (.plain (OpenSpec.ofChange mtreeRangesSpec)) mtreeRangesCard

/-- THE TIED CARD OF 'notarylaw10.MtreeEmpty'. -/
def mtreeEmptyCard : Claim7 := { stood := { row := mtreeEmptyRow, standIns := [], harness := (true, "98fbf89e03e054bca8f70413c582277da1a6210cfa887cb9f0593e94ca1c9567"), looks := false }, kinds := [], alts := [], laidByText := true, laidKinds := [.data], laidTests := true, laidLooks := .later }
def MtreeEmptyCardSaid : Prop := Claim7.holds Tryd.pinned (.plain (OpenSpec.ofChange mtreeEmptySpec)) mtreeEmptyCard

/-- THE TIED CARD OF 'notarylaw10.MtreeKeeps'. -/
def mtreeKeepsCard : Claim7 := { stood := { row := mtreeKeepsRow, standIns := [], harness := (true, "98fbf89e03e054bca8f70413c582277da1a6210cfa887cb9f0593e94ca1c9567"), looks := false }, kinds := [], alts := [], laidByText := true, laidKinds := [.data], laidTests := true, laidLooks := .later }
def MtreeKeepsCardSaid : Prop := Claim7.holds Tryd.pinned (.plain (OpenSpec.ofChange mtreeKeepsSpec)) mtreeKeepsCard

/-- THE TIED CARD OF 'notarylaw10.MtreeSplits'. -/
def mtreeSplitsCard : Claim7 := { stood := { row := mtreeSplitsRow, standIns := [], harness := (true, "98fbf89e03e054bca8f70413c582277da1a6210cfa887cb9f0593e94ca1c9567"), looks := false }, kinds := [], alts := [], laidByText := true, laidKinds := [.data], laidTests := true, laidLooks := .later }
def MtreeSplitsCardSaid : Prop := Claim7.holds Tryd.pinned (.plain (OpenSpec.ofChange mtreeSplitsSpec)) mtreeSplitsCard

/-- THE TIED CARD OF 'notarylaw10.MtreeAnyhow'. -/
def mtreeAnyhowCard : Claim7 := { stood := { row := mtreeAnyhowRow, standIns := [], harness := (true, "98fbf89e03e054bca8f70413c582277da1a6210cfa887cb9f0593e94ca1c9567"), looks := false }, kinds := [], alts := [], laidByText := true, laidKinds := [.data], laidTests := true, laidLooks := .later }
def MtreeAnyhowCardSaid : Prop := Claim7.holds Tryd.pinned (.plain (OpenSpec.ofChange mtreeAnyhowSpec)) mtreeAnyhowCard

/-- THE TIED CARD OF 'notarylaw10.MtreeForks'. -/
def mtreeForksCard : Claim7 := { stood := { row := mtreeForksRow, standIns := [], harness := (true, "98fbf89e03e054bca8f70413c582277da1a6210cfa887cb9f0593e94ca1c9567"), looks := false }, kinds := [], alts := [], laidByText := true, laidKinds := [.data], laidTests := true, laidLooks := .later }
def MtreeForksCardSaid : Prop := Claim7.holds Tryd.pinned (.plain (OpenSpec.ofChange mtreeForksSpec)) mtreeForksCard

/-- THE TIED CARD OF 'notarylaw10.MtreeBinds'. -/
def mtreeBindsCard : Claim7 := { stood := { row := mtreeBindsRow, standIns := [], harness := (true, "98fbf89e03e054bca8f70413c582277da1a6210cfa887cb9f0593e94ca1c9567"), looks := false }, kinds := [], alts := [], laidByText := true, laidKinds := [.data], laidTests := true, laidLooks := .later }
def MtreeBindsCardSaid : Prop := Claim7.holds Tryd.pinned (.plain (OpenSpec.ofChange mtreeBindsSpec)) mtreeBindsCard

/-- THE TIED CARD OF 'notarytop.WholeTree'. -/
def wholeTreeCard : Claim7 := { stood := { row := wholeTreeRow, standIns := [], harness := (true, "98fbf89e03e054bca8f70413c582277da1a6210cfa887cb9f0593e94ca1c9567"), looks := false }, kinds := [], alts := [], laidByText := true, laidKinds := [.data], laidTests := true, laidLooks := .later }
def WholeTreeCardSaid : Prop := Claim7.holds Tryd.pinned (.plain (OpenSpec.ofChange wholeTreeSpec)) wholeTreeCard

/-- THE SECOND FORM's CARD OF 'notarylaw10.MtreeGrows'. -/
def mtreeGrowsUptoCard : Claim7 := { stood := { row := mtreeGrowsUptoRow, standIns := [], harness := (true, "98fbf89e03e054bca8f70413c582277da1a6210cfa887cb9f0593e94ca1c9567"), looks := false }, kinds := [], alts := [], laidByText := true, laidKinds := [.data], laidTests := true, laidLooks := .later }
def MtreeGrowsUptoCardSaid : Prop := Claim7.holds Tryd.pinned (.plain (OpenSpec.upto mtreeGrowsSpec)) mtreeGrowsUptoCard

/-- THE SECOND FORM's CARD OF 'notarylaw10.MtreeRanges'. -/
def mtreeRangesUptoCard : Claim7 := { stood := { row := mtreeRangesUptoRow, standIns := [], harness := (true, "98fbf89e03e054bca8f70413c582277da1a6210cfa887cb9f0593e94ca1c9567"), looks := false }, kinds := [], alts := [], laidByText := true, laidKinds := [.data], laidTests := true, laidLooks := .later }
def MtreeRangesUptoCardSaid : Prop := Claim7.holds Tryd.pinned (.plain (OpenSpec.upto mtreeRangesSpec)) mtreeRangesUptoCard

/-- THE SECOND FORM's CARD OF 'notarylaw10.MtreeEmpty'. -/
def mtreeEmptyUptoCard : Claim7 := { stood := { row := mtreeEmptyUptoRow, standIns := [], harness := (true, "98fbf89e03e054bca8f70413c582277da1a6210cfa887cb9f0593e94ca1c9567"), looks := false }, kinds := [], alts := [], laidByText := true, laidKinds := [.data], laidTests := true, laidLooks := .later }
def MtreeEmptyUptoCardSaid : Prop := Claim7.holds Tryd.pinned (.plain (OpenSpec.upto mtreeEmptySpec)) mtreeEmptyUptoCard

/-- THE SECOND FORM's CARD OF 'notarylaw10.MtreeKeeps'. -/
def mtreeKeepsUptoCard : Claim7 := { stood := { row := mtreeKeepsUptoRow, standIns := [], harness := (true, "98fbf89e03e054bca8f70413c582277da1a6210cfa887cb9f0593e94ca1c9567"), looks := false }, kinds := [], alts := [], laidByText := true, laidKinds := [.data], laidTests := true, laidLooks := .later }
def MtreeKeepsUptoCardSaid : Prop := Claim7.holds Tryd.pinned (.plain (OpenSpec.upto mtreeKeepsSpec)) mtreeKeepsUptoCard

/-- THE SECOND FORM's CARD OF 'notarylaw10.MtreeSplits'. -/
def mtreeSplitsUptoCard : Claim7 := { stood := { row := mtreeSplitsUptoRow, standIns := [], harness := (true, "98fbf89e03e054bca8f70413c582277da1a6210cfa887cb9f0593e94ca1c9567"), looks := false }, kinds := [], alts := [], laidByText := true, laidKinds := [.data], laidTests := true, laidLooks := .later }
def MtreeSplitsUptoCardSaid : Prop := Claim7.holds Tryd.pinned (.plain (OpenSpec.upto mtreeSplitsSpec)) mtreeSplitsUptoCard

/-- THE SECOND FORM's CARD OF 'notarylaw10.MtreeAnyhow'. -/
def mtreeAnyhowUptoCard : Claim7 := { stood := { row := mtreeAnyhowUptoRow, standIns := [], harness := (true, "98fbf89e03e054bca8f70413c582277da1a6210cfa887cb9f0593e94ca1c9567"), looks := false }, kinds := [], alts := [], laidByText := true, laidKinds := [.data], laidTests := true, laidLooks := .later }
def MtreeAnyhowUptoCardSaid : Prop := Claim7.holds Tryd.pinned (.plain (OpenSpec.upto mtreeAnyhowSpec)) mtreeAnyhowUptoCard

/-- THE SECOND FORM's CARD OF 'notarylaw10.MtreeForks'. -/
def mtreeForksUptoCard : Claim7 := { stood := { row := mtreeForksUptoRow, standIns := [], harness := (true, "98fbf89e03e054bca8f70413c582277da1a6210cfa887cb9f0593e94ca1c9567"), looks := false }, kinds := [], alts := [], laidByText := true, laidKinds := [.data], laidTests := true, laidLooks := .later }
def MtreeForksUptoCardSaid : Prop := Claim7.holds Tryd.pinned (.plain (OpenSpec.upto mtreeForksSpec)) mtreeForksUptoCard

/-- THE SECOND FORM's CARD OF 'notarylaw10.MtreeBinds'. -/
def mtreeBindsUptoCard : Claim7 := { stood := { row := mtreeBindsUptoRow, standIns := [], harness := (true, "98fbf89e03e054bca8f70413c582277da1a6210cfa887cb9f0593e94ca1c9567"), looks := false }, kinds := [], alts := [], laidByText := true, laidKinds := [.data], laidTests := true, laidLooks := .later }
def MtreeBindsUptoCardSaid : Prop := Claim7.holds Tryd.pinned (.plain (OpenSpec.upto mtreeBindsSpec)) mtreeBindsUptoCard

/-- THE SECOND FORM's CARD OF 'notarytop.WholeTree'. -/
def wholeTreeUptoCard : Claim7 := { stood := { row := wholeTreeUptoRow, standIns := [], harness := (true, "98fbf89e03e054bca8f70413c582277da1a6210cfa887cb9f0593e94ca1c9567"), looks := false }, kinds := [], alts := [], laidByText := true, laidKinds := [.data], laidTests := true, laidLooks := .later }
def WholeTreeUptoCardSaid : Prop := Claim7.holds Tryd.pinned (.plain (OpenSpec.upto wholeTreeSpec)) wholeTreeUptoCard
end Rows
end Go.Proofs.YtcappcjogcekkaaDoor
