/-
  DERIVED. GIVEN WITH THE SEED: THE CARDS: each row of YtcdponddgnkecaaDoorRows.lean that lists a variable, with what it lists TIED to the program's text (the seventh form; the later family's looks); each row that meets fmt, with fmt's text TOLD by the authors' own Lean function (tested against real Go, not proved from fmt's source: count such statements apart). THE CARD IS WHAT COUNTS. Prove the row's statement (the work); the ties are given (YtcdponddgnkecaaDoorTie.lean); close each card by the builder's one call (the guide's Derived/Test/ToyasCard.lean, 'card_holds'). Laid BY PROGRAM, IN A SANDBOX (cutbox-door.mjs). By AI agents, Wed Nov 11 2026. No macro, syntax, notation, axiom, sorry.
-/
import Derived.Test.YtcdponddgnkecaaDoorRows
import GoSem.ClaimSeven
namespace Go.Proofs.YtcdponddgnkecaaDoor
namespace Rows

/-- THE TIED CARD OF 'notarylaw11.MproofInclusions'. -/
def mproofInclusionsCard : Claim7 := { stood := { row := mproofInclusionsRow, standIns := [], harness := (true, "8b2b623b5e9a14a20663a15581ef3b2a325cf38bec7e491971a24196c2f82f9b"), looks := false }, kinds := [], alts := [], laidByText := true, laidKinds := [.data], laidTests := true, laidLooks := .later }
def MproofInclusionsCardSaid : Prop := Claim7.holds Tryd.pinned (.plain (OpenSpec.ofChange mproofInclusionsSpec)) mproofInclusionsCard

/-- THE TIED CARD OF 'notarylaw11.MproofConsistencies'. -/
def mproofConsistenciesCard : Claim7 := { stood := { row := mproofConsistenciesRow, standIns := [], harness := (true, "8b2b623b5e9a14a20663a15581ef3b2a325cf38bec7e491971a24196c2f82f9b"), looks := false }, kinds := [], alts := [], laidByText := true, laidKinds := [.data], laidTests := true, laidLooks := .later }
def MproofConsistenciesCardSaid : Prop := Claim7.holds Tryd.pinned (.plain (OpenSpec.ofChange mproofConsistenciesSpec)) mproofConsistenciesCard

/-- THE TIED CARD OF 'notarylaw11.MproofCounts'. -/
def mproofCountsCard : Claim7 := { stood := { row := mproofCountsRow, standIns := [], harness := (true, "8b2b623b5e9a14a20663a15581ef3b2a325cf38bec7e491971a24196c2f82f9b"), looks := false }, kinds := [], alts := [], laidByText := true, laidKinds := [.data], laidTests := true, laidLooks := .later }
def MproofCountsCardSaid : Prop := Claim7.holds Tryd.pinned (.plain (OpenSpec.ofChange mproofCountsSpec)) mproofCountsCard

/-- THE TIED CARD OF 'notarylaw11.MproofFixed'. -/
def mproofFixedCard : Claim7 := { stood := { row := mproofFixedRow, standIns := [], harness := (true, "8b2b623b5e9a14a20663a15581ef3b2a325cf38bec7e491971a24196c2f82f9b"), looks := false }, kinds := [], alts := [], laidByText := true, laidKinds := [.data], laidTests := true, laidLooks := .later }
def MproofFixedCardSaid : Prop := Claim7.holds Tryd.pinned (.plain (OpenSpec.ofChange mproofFixedSpec)) mproofFixedCard

/-- THE TIED CARD OF 'notarylaw11.MproofPast'. -/
def mproofPastCard : Claim7 := { stood := { row := mproofPastRow, standIns := [], harness := (true, "8b2b623b5e9a14a20663a15581ef3b2a325cf38bec7e491971a24196c2f82f9b"), looks := false }, kinds := [], alts := [], laidByText := true, laidKinds := [.data], laidTests := true, laidLooks := .later }
def MproofPastCardSaid : Prop := Claim7.holds Tryd.pinned (.plain (OpenSpec.ofChange mproofPastSpec)) mproofPastCard

/-- THE TIED CARD OF 'notarylaw11.MproofSince'. -/
def mproofSinceCard : Claim7 := { stood := { row := mproofSinceRow, standIns := [], harness := (true, "8b2b623b5e9a14a20663a15581ef3b2a325cf38bec7e491971a24196c2f82f9b"), looks := false }, kinds := [], alts := [], laidByText := true, laidKinds := [.data], laidTests := true, laidLooks := .later }
def MproofSinceCardSaid : Prop := Claim7.holds Tryd.pinned (.plain (OpenSpec.ofChange mproofSinceSpec)) mproofSinceCard

/-- THE TIED CARD OF 'notarylaw11.MproofMemory'. -/
def mproofMemoryCard : Claim7 := { stood := { row := mproofMemoryRow, standIns := [], harness := (true, "8b2b623b5e9a14a20663a15581ef3b2a325cf38bec7e491971a24196c2f82f9b"), looks := false }, kinds := [], alts := [], laidByText := true, laidKinds := [.data], laidTests := true, laidLooks := .later }
def MproofMemoryCardSaid : Prop := Claim7.holds Tryd.pinned (.plain (OpenSpec.ofChange mproofMemorySpec)) mproofMemoryCard

/-- THE TIED CARD OF 'notarylaw11.MproofFolds'. -/
def mproofFoldsCard : Claim7 := { stood := { row := mproofFoldsRow, standIns := [], harness := (true, "8b2b623b5e9a14a20663a15581ef3b2a325cf38bec7e491971a24196c2f82f9b"), looks := false }, kinds := [], alts := [], laidByText := true, laidKinds := [.data], laidTests := true, laidLooks := .later }
def MproofFoldsCardSaid : Prop := Claim7.holds Tryd.pinned (.plain (OpenSpec.ofChange mproofFoldsSpec)) mproofFoldsCard

/-- THE TIED CARD OF 'notarylaw12.McheckHonest'. -/
def mcheckHonestCard : Claim7 := { stood := { row := mcheckHonestRow, standIns := [], harness := (true, "8b2b623b5e9a14a20663a15581ef3b2a325cf38bec7e491971a24196c2f82f9b"), looks := false }, kinds := [], alts := [], laidByText := true, laidKinds := [.data], laidTests := true, laidLooks := .later }
def McheckHonestCardSaid : Prop := Claim7.holds Tryd.pinned (.plain (OpenSpec.ofChange mcheckHonestSpec)) mcheckHonestCard

/-- THE TIED CARD OF 'notarytop.WholeCounts'. -/
def wholeCountsCard : Claim7 := { stood := { row := wholeCountsRow, standIns := [], harness := (true, "8b2b623b5e9a14a20663a15581ef3b2a325cf38bec7e491971a24196c2f82f9b"), looks := false }, kinds := [], alts := [], laidByText := true, laidKinds := [.data], laidTests := true, laidLooks := .later }
def WholeCountsCardSaid : Prop := Claim7.holds Tryd.pinned (.plain (OpenSpec.ofChange wholeCountsSpec)) wholeCountsCard

/-- THE TIED CARD OF 'notarytop.WholeIncluded'. -/
def wholeIncludedCard : Claim7 := { stood := { row := wholeIncludedRow, standIns := [], harness := (true, "8b2b623b5e9a14a20663a15581ef3b2a325cf38bec7e491971a24196c2f82f9b"), looks := false }, kinds := [], alts := [], laidByText := true, laidKinds := [.data], laidTests := true, laidLooks := .later }
def WholeIncludedCardSaid : Prop := Claim7.holds Tryd.pinned (.plain (OpenSpec.ofChange wholeIncludedSpec)) wholeIncludedCard

/-- THE SECOND FORM's CARD OF 'notarylaw11.MproofInclusions'. -/
def mproofInclusionsUptoCard : Claim7 := { stood := { row := mproofInclusionsUptoRow, standIns := [], harness := (true, "8b2b623b5e9a14a20663a15581ef3b2a325cf38bec7e491971a24196c2f82f9b"), looks := false }, kinds := [], alts := [], laidByText := true, laidKinds := [.data], laidTests := true, laidLooks := .later }
def MproofInclusionsUptoCardSaid : Prop := Claim7.holds Tryd.pinned (.plain (OpenSpec.upto mproofInclusionsSpec)) mproofInclusionsUptoCard

/-- THE SECOND FORM's CARD OF 'notarylaw11.MproofConsistencies'. -/
def mproofConsistenciesUptoCard : Claim7 := { stood := { row := mproofConsistenciesUptoRow, standIns := [], harness := (true, "8b2b623b5e9a14a20663a15581ef3b2a325cf38bec7e491971a24196c2f82f9b"), looks := false }, kinds := [], alts := [], laidByText := true, laidKinds := [.data], laidTests := true, laidLooks := .later }
def MproofConsistenciesUptoCardSaid : Prop := Claim7.holds Tryd.pinned (.plain (OpenSpec.upto mproofConsistenciesSpec)) mproofConsistenciesUptoCard

/-- THE SECOND FORM's CARD OF 'notarylaw11.MproofCounts'. -/
def mproofCountsUptoCard : Claim7 := { stood := { row := mproofCountsUptoRow, standIns := [], harness := (true, "8b2b623b5e9a14a20663a15581ef3b2a325cf38bec7e491971a24196c2f82f9b"), looks := false }, kinds := [], alts := [], laidByText := true, laidKinds := [.data], laidTests := true, laidLooks := .later }
def MproofCountsUptoCardSaid : Prop := Claim7.holds Tryd.pinned (.plain (OpenSpec.upto mproofCountsSpec)) mproofCountsUptoCard

/-- THE SECOND FORM's CARD OF 'notarylaw11.MproofFixed'. -/
def mproofFixedUptoCard : Claim7 := { stood := { row := mproofFixedUptoRow, standIns := [], harness := (true, "8b2b623b5e9a14a20663a15581ef3b2a325cf38bec7e491971a24196c2f82f9b"), looks := false }, kinds := [], alts := [], laidByText := true, laidKinds := [.data], laidTests := true, laidLooks := .later }
def MproofFixedUptoCardSaid : Prop := Claim7.holds Tryd.pinned (.plain (OpenSpec.upto mproofFixedSpec)) mproofFixedUptoCard

/-- THE SECOND FORM's CARD OF 'notarylaw11.MproofPast'. -/
def mproofPastUptoCard : Claim7 := { stood := { row := mproofPastUptoRow, standIns := [], harness := (true, "8b2b623b5e9a14a20663a15581ef3b2a325cf38bec7e491971a24196c2f82f9b"), looks := false }, kinds := [], alts := [], laidByText := true, laidKinds := [.data], laidTests := true, laidLooks := .later }
def MproofPastUptoCardSaid : Prop := Claim7.holds Tryd.pinned (.plain (OpenSpec.upto mproofPastSpec)) mproofPastUptoCard

/-- THE SECOND FORM's CARD OF 'notarylaw11.MproofSince'. -/
def mproofSinceUptoCard : Claim7 := { stood := { row := mproofSinceUptoRow, standIns := [], harness := (true, "8b2b623b5e9a14a20663a15581ef3b2a325cf38bec7e491971a24196c2f82f9b"), looks := false }, kinds := [], alts := [], laidByText := true, laidKinds := [.data], laidTests := true, laidLooks := .later }
def MproofSinceUptoCardSaid : Prop := Claim7.holds Tryd.pinned (.plain (OpenSpec.upto mproofSinceSpec)) mproofSinceUptoCard

/-- THE SECOND FORM's CARD OF 'notarylaw11.MproofMemory'. -/
def mproofMemoryUptoCard : Claim7 := { stood := { row := mproofMemoryUptoRow, standIns := [], harness := (true, "8b2b623b5e9a14a20663a15581ef3b2a325cf38bec7e491971a24196c2f82f9b"), looks := false }, kinds := [], alts := [], laidByText := true, laidKinds := [.data], laidTests := true, laidLooks := .later }
def MproofMemoryUptoCardSaid : Prop := Claim7.holds Tryd.pinned (.plain (OpenSpec.upto mproofMemorySpec)) mproofMemoryUptoCard

/-- THE SECOND FORM's CARD OF 'notarylaw11.MproofFolds'. -/
def mproofFoldsUptoCard : Claim7 := { stood := { row := mproofFoldsUptoRow, standIns := [], harness := (true, "8b2b623b5e9a14a20663a15581ef3b2a325cf38bec7e491971a24196c2f82f9b"), looks := false }, kinds := [], alts := [], laidByText := true, laidKinds := [.data], laidTests := true, laidLooks := .later }
def MproofFoldsUptoCardSaid : Prop := Claim7.holds Tryd.pinned (.plain (OpenSpec.upto mproofFoldsSpec)) mproofFoldsUptoCard

/-- THE SECOND FORM's CARD OF 'notarylaw12.McheckHonest'. -/
def mcheckHonestUptoCard : Claim7 := { stood := { row := mcheckHonestUptoRow, standIns := [], harness := (true, "8b2b623b5e9a14a20663a15581ef3b2a325cf38bec7e491971a24196c2f82f9b"), looks := false }, kinds := [], alts := [], laidByText := true, laidKinds := [.data], laidTests := true, laidLooks := .later }
def McheckHonestUptoCardSaid : Prop := Claim7.holds Tryd.pinned (.plain (OpenSpec.upto mcheckHonestSpec)) mcheckHonestUptoCard

/-- THE SECOND FORM's CARD OF 'notarytop.WholeCounts'. -/
def wholeCountsUptoCard : Claim7 := { stood := { row := wholeCountsUptoRow, standIns := [], harness := (true, "8b2b623b5e9a14a20663a15581ef3b2a325cf38bec7e491971a24196c2f82f9b"), looks := false }, kinds := [], alts := [], laidByText := true, laidKinds := [.data], laidTests := true, laidLooks := .later }
def WholeCountsUptoCardSaid : Prop := Claim7.holds Tryd.pinned (.plain (OpenSpec.upto wholeCountsSpec)) wholeCountsUptoCard

/-- THE SECOND FORM's CARD OF 'notarytop.WholeIncluded'. -/
def wholeIncludedUptoCard : Claim7 := { stood := { row := wholeIncludedUptoRow, standIns := [], harness := (true, "8b2b623b5e9a14a20663a15581ef3b2a325cf38bec7e491971a24196c2f82f9b"), looks := false }, kinds := [], alts := [], laidByText := true, laidKinds := [.data], laidTests := true, laidLooks := .later }
def WholeIncludedUptoCardSaid : Prop := Claim7.holds Tryd.pinned (.plain (OpenSpec.upto wholeIncludedSpec)) wholeIncludedUptoCard
end Rows
end Go.Proofs.YtcdponddgnkecaaDoor
