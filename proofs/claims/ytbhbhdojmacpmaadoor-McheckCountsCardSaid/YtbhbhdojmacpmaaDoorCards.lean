/-
  DERIVED. GIVEN WITH THE SEED: THE CARDS: each row of YtbhbhdojmacpmaaDoorRows.lean that lists a variable, with what it lists TIED to the program's text (the seventh form; the later family's looks); each row that meets fmt, with fmt's text TOLD by the authors' own Lean function (tested against real Go, not proved from fmt's source: count such statements apart). THE CARD IS WHAT COUNTS. Prove the row's statement (the work); the ties are given (YtbhbhdojmacpmaaDoorTie.lean); close each card by the builder's one call (the guide's Derived/Test/ToyasCard.lean, 'card_holds'). Laid BY PROGRAM, IN A SANDBOX (cutbox-door.mjs). By AI agents, Wed Nov 11 2026. No macro, syntax, notation, axiom, sorry.
-/
import Derived.Test.YtbhbhdojmacpmaaDoorRows
import GoSem.ClaimSeven
namespace Go.Proofs.YtbhbhdojmacpmaaDoor
namespace Rows

/-- THE TIED CARD OF 'notarylaw12.McheckRootOfs'. -/
def mcheckRootOfsCard : Claim7 := { stood := { row := mcheckRootOfsRow, standIns := [], harness := (true, "fd464655441a6931a209bee641b5c5575c745475aa4bf8c928dde9cc132dfa92"), looks := false }, kinds := [], alts := [], laidByText := true, laidKinds := [.data], laidTests := true, laidLooks := .later }
def McheckRootOfsCardSaid : Prop := Claim7.holds Tryd.pinned (.plain (OpenSpec.ofChange mcheckRootOfsSpec)) mcheckRootOfsCard

/-- THE TIED CARD OF 'notarylaw12.McheckInclusions'. -/
def mcheckInclusionsCard : Claim7 := { stood := { row := mcheckInclusionsRow, standIns := [], harness := (true, "fd464655441a6931a209bee641b5c5575c745475aa4bf8c928dde9cc132dfa92"), looks := false }, kinds := [], alts := [], laidByText := true, laidKinds := [.data], laidTests := true, laidLooks := .later }
def McheckInclusionsCardSaid : Prop := Claim7.holds Tryd.pinned (.plain (OpenSpec.ofChange mcheckInclusionsSpec)) mcheckInclusionsCard

/-- THE TIED CARD OF 'notarylaw12.McheckRootsOfs'. -/
def mcheckRootsOfsCard : Claim7 := { stood := { row := mcheckRootsOfsRow, standIns := [], harness := (true, "fd464655441a6931a209bee641b5c5575c745475aa4bf8c928dde9cc132dfa92"), looks := false }, kinds := [], alts := [], laidByText := true, laidKinds := [.data], laidTests := true, laidLooks := .later }
def McheckRootsOfsCardSaid : Prop := Claim7.holds Tryd.pinned (.plain (OpenSpec.ofChange mcheckRootsOfsSpec)) mcheckRootsOfsCard

/-- THE TIED CARD OF 'notarylaw12.McheckPowers'. -/
def mcheckPowersCard : Claim7 := { stood := { row := mcheckPowersRow, standIns := [], harness := (true, "fd464655441a6931a209bee641b5c5575c745475aa4bf8c928dde9cc132dfa92"), looks := false }, kinds := [], alts := [], laidByText := true, laidKinds := [.data], laidTests := true, laidLooks := .later }
def McheckPowersCardSaid : Prop := Claim7.holds Tryd.pinned (.plain (OpenSpec.ofChange mcheckPowersSpec)) mcheckPowersCard

/-- THE TIED CARD OF 'notarylaw12.McheckShows'. -/
def mcheckShowsCard : Claim7 := { stood := { row := mcheckShowsRow, standIns := [], harness := (true, "fd464655441a6931a209bee641b5c5575c745475aa4bf8c928dde9cc132dfa92"), looks := false }, kinds := [], alts := [], laidByText := true, laidKinds := [.data], laidTests := true, laidLooks := .later }
def McheckShowsCardSaid : Prop := Claim7.holds Tryd.pinned (.plain (OpenSpec.ofChange mcheckShowsSpec)) mcheckShowsCard

/-- THE TIED CARD OF 'notarylaw12.McheckConsistencies'. -/
def mcheckConsistenciesCard : Claim7 := { stood := { row := mcheckConsistenciesRow, standIns := [], harness := (true, "fd464655441a6931a209bee641b5c5575c745475aa4bf8c928dde9cc132dfa92"), looks := false }, kinds := [], alts := [], laidByText := true, laidKinds := [.data], laidTests := true, laidLooks := .later }
def McheckConsistenciesCardSaid : Prop := Claim7.holds Tryd.pinned (.plain (OpenSpec.ofChange mcheckConsistenciesSpec)) mcheckConsistenciesCard

/-- THE TIED CARD OF 'notarylaw12.McheckKeeps'. -/
def mcheckKeepsCard : Claim7 := { stood := { row := mcheckKeepsRow, standIns := [], harness := (true, "fd464655441a6931a209bee641b5c5575c745475aa4bf8c928dde9cc132dfa92"), looks := false }, kinds := [], alts := [], laidByText := true, laidKinds := [.data], laidTests := true, laidLooks := .later }
def McheckKeepsCardSaid : Prop := Claim7.holds Tryd.pinned (.plain (OpenSpec.ofChange mcheckKeepsSpec)) mcheckKeepsCard

/-- THE TIED CARD OF 'notarylaw12.McheckCounts'. -/
def mcheckCountsCard : Claim7 := { stood := { row := mcheckCountsRow, standIns := [], harness := (true, "fd464655441a6931a209bee641b5c5575c745475aa4bf8c928dde9cc132dfa92"), looks := false }, kinds := [], alts := [], laidByText := true, laidKinds := [.data], laidTests := true, laidLooks := .later }
def McheckCountsCardSaid : Prop := Claim7.holds Tryd.pinned (.plain (OpenSpec.ofChange mcheckCountsSpec)) mcheckCountsCard

/-- THE TIED CARD OF 'notarytop.WholeRootOf'. -/
def wholeRootOfCard : Claim7 := { stood := { row := wholeRootOfRow, standIns := [], harness := (true, "fd464655441a6931a209bee641b5c5575c745475aa4bf8c928dde9cc132dfa92"), looks := false }, kinds := [], alts := [], laidByText := true, laidKinds := [.data], laidTests := true, laidLooks := .later }
def WholeRootOfCardSaid : Prop := Claim7.holds Tryd.pinned (.plain (OpenSpec.ofChange wholeRootOfSpec)) wholeRootOfCard

/-- THE SECOND FORM's CARD OF 'notarylaw12.McheckRootOfs'. -/
def mcheckRootOfsUptoCard : Claim7 := { stood := { row := mcheckRootOfsUptoRow, standIns := [], harness := (true, "fd464655441a6931a209bee641b5c5575c745475aa4bf8c928dde9cc132dfa92"), looks := false }, kinds := [], alts := [], laidByText := true, laidKinds := [.data], laidTests := true, laidLooks := .later }
def McheckRootOfsUptoCardSaid : Prop := Claim7.holds Tryd.pinned (.plain (OpenSpec.upto mcheckRootOfsSpec)) mcheckRootOfsUptoCard

/-- THE SECOND FORM's CARD OF 'notarylaw12.McheckInclusions'. -/
def mcheckInclusionsUptoCard : Claim7 := { stood := { row := mcheckInclusionsUptoRow, standIns := [], harness := (true, "fd464655441a6931a209bee641b5c5575c745475aa4bf8c928dde9cc132dfa92"), looks := false }, kinds := [], alts := [], laidByText := true, laidKinds := [.data], laidTests := true, laidLooks := .later }
def McheckInclusionsUptoCardSaid : Prop := Claim7.holds Tryd.pinned (.plain (OpenSpec.upto mcheckInclusionsSpec)) mcheckInclusionsUptoCard

/-- THE SECOND FORM's CARD OF 'notarylaw12.McheckRootsOfs'. -/
def mcheckRootsOfsUptoCard : Claim7 := { stood := { row := mcheckRootsOfsUptoRow, standIns := [], harness := (true, "fd464655441a6931a209bee641b5c5575c745475aa4bf8c928dde9cc132dfa92"), looks := false }, kinds := [], alts := [], laidByText := true, laidKinds := [.data], laidTests := true, laidLooks := .later }
def McheckRootsOfsUptoCardSaid : Prop := Claim7.holds Tryd.pinned (.plain (OpenSpec.upto mcheckRootsOfsSpec)) mcheckRootsOfsUptoCard

/-- THE SECOND FORM's CARD OF 'notarylaw12.McheckPowers'. -/
def mcheckPowersUptoCard : Claim7 := { stood := { row := mcheckPowersUptoRow, standIns := [], harness := (true, "fd464655441a6931a209bee641b5c5575c745475aa4bf8c928dde9cc132dfa92"), looks := false }, kinds := [], alts := [], laidByText := true, laidKinds := [.data], laidTests := true, laidLooks := .later }
def McheckPowersUptoCardSaid : Prop := Claim7.holds Tryd.pinned (.plain (OpenSpec.upto mcheckPowersSpec)) mcheckPowersUptoCard

/-- THE SECOND FORM's CARD OF 'notarylaw12.McheckShows'. -/
def mcheckShowsUptoCard : Claim7 := { stood := { row := mcheckShowsUptoRow, standIns := [], harness := (true, "fd464655441a6931a209bee641b5c5575c745475aa4bf8c928dde9cc132dfa92"), looks := false }, kinds := [], alts := [], laidByText := true, laidKinds := [.data], laidTests := true, laidLooks := .later }
def McheckShowsUptoCardSaid : Prop := Claim7.holds Tryd.pinned (.plain (OpenSpec.upto mcheckShowsSpec)) mcheckShowsUptoCard

/-- THE SECOND FORM's CARD OF 'notarylaw12.McheckConsistencies'. -/
def mcheckConsistenciesUptoCard : Claim7 := { stood := { row := mcheckConsistenciesUptoRow, standIns := [], harness := (true, "fd464655441a6931a209bee641b5c5575c745475aa4bf8c928dde9cc132dfa92"), looks := false }, kinds := [], alts := [], laidByText := true, laidKinds := [.data], laidTests := true, laidLooks := .later }
def McheckConsistenciesUptoCardSaid : Prop := Claim7.holds Tryd.pinned (.plain (OpenSpec.upto mcheckConsistenciesSpec)) mcheckConsistenciesUptoCard

/-- THE SECOND FORM's CARD OF 'notarylaw12.McheckKeeps'. -/
def mcheckKeepsUptoCard : Claim7 := { stood := { row := mcheckKeepsUptoRow, standIns := [], harness := (true, "fd464655441a6931a209bee641b5c5575c745475aa4bf8c928dde9cc132dfa92"), looks := false }, kinds := [], alts := [], laidByText := true, laidKinds := [.data], laidTests := true, laidLooks := .later }
def McheckKeepsUptoCardSaid : Prop := Claim7.holds Tryd.pinned (.plain (OpenSpec.upto mcheckKeepsSpec)) mcheckKeepsUptoCard

/-- THE SECOND FORM's CARD OF 'notarylaw12.McheckCounts'. -/
def mcheckCountsUptoCard : Claim7 := { stood := { row := mcheckCountsUptoRow, standIns := [], harness := (true, "fd464655441a6931a209bee641b5c5575c745475aa4bf8c928dde9cc132dfa92"), looks := false }, kinds := [], alts := [], laidByText := true, laidKinds := [.data], laidTests := true, laidLooks := .later }
def McheckCountsUptoCardSaid : Prop := Claim7.holds Tryd.pinned (.plain (OpenSpec.upto mcheckCountsSpec)) mcheckCountsUptoCard

/-- THE SECOND FORM's CARD OF 'notarytop.WholeRootOf'. -/
def wholeRootOfUptoCard : Claim7 := { stood := { row := wholeRootOfUptoRow, standIns := [], harness := (true, "fd464655441a6931a209bee641b5c5575c745475aa4bf8c928dde9cc132dfa92"), looks := false }, kinds := [], alts := [], laidByText := true, laidKinds := [.data], laidTests := true, laidLooks := .later }
def WholeRootOfUptoCardSaid : Prop := Claim7.holds Tryd.pinned (.plain (OpenSpec.upto wholeRootOfSpec)) wholeRootOfUptoCard
end Rows
end Go.Proofs.YtbhbhdojmacpmaaDoor
