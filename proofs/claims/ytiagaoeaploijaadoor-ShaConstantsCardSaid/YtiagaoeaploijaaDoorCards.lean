/-
  DERIVED. GIVEN WITH THE SEED: THE CARDS: each row of YtiagaoeaploijaaDoorRows.lean that lists a variable, with what it lists TIED to the program's text (the seventh form; the later family's looks); each row that meets fmt, with fmt's text TOLD by the authors' own Lean function (tested against real Go, not proved from fmt's source: count such statements apart). THE CARD IS WHAT COUNTS. Prove the row's statement (the work); the ties are given (YtiagaoeaploijaaDoorTie.lean); close each card by the builder's one call (the guide's Derived/Test/ToyasCard.lean, 'card_holds'). Laid BY PROGRAM, IN A SANDBOX (cutbox-door.mjs). By AI agents, Wed Nov 11 2026. No macro, syntax, notation, axiom, sorry.
-/
import Derived.Test.YtiagaoeaploijaaDoorRows
import GoSem.ClaimSeven
namespace Go.Proofs.YtiagaoeaploijaaDoor
namespace Rows

/-- THE TIED CARD OF 'notarylaw02.ShaSums'. -/
def shaSumsCard : Claim7 := { stood := { row := shaSumsRow, standIns := [], harness := (true, "880e29bbfa57e8c2ebd105659a6659188388105ee73167efff843e28c1477790"), looks := false }, kinds := [], alts := [], laidByText := true, laidKinds := [.data], laidTests := true, laidLooks := .later }
def ShaSumsCardSaid : Prop := Claim7.holds Tryd.pinned (.plain (OpenSpec.ofChange shaSumsSpec)) shaSumsCard

/-- THE TIED CARD OF 'notarylaw02.ShaBlocks'. -/
def shaBlocksCard : Claim7 := { stood := { row := shaBlocksRow, standIns := [], harness := (true, "880e29bbfa57e8c2ebd105659a6659188388105ee73167efff843e28c1477790"), looks := false }, kinds := [], alts := [], laidByText := true, laidKinds := [.data], laidTests := true, laidLooks := .later }
def ShaBlocksCardSaid : Prop := Claim7.holds Tryd.pinned (.plain (OpenSpec.ofChange shaBlocksSpec)) shaBlocksCard

/-- THE TIED CARD OF 'notarylaw02.ShaPads'. -/
def shaPadsCard : Claim7 := { stood := { row := shaPadsRow, standIns := [], harness := (true, "880e29bbfa57e8c2ebd105659a6659188388105ee73167efff843e28c1477790"), looks := false }, kinds := [], alts := [], laidByText := true, laidKinds := [.data], laidTests := true, laidLooks := .later }
def ShaPadsCardSaid : Prop := Claim7.holds Tryd.pinned (.plain (OpenSpec.ofChange shaPadsSpec)) shaPadsCard

/-- THE TIED CARD OF 'notarylaw02.ShaConstants'. -/
def shaConstantsCard : Claim7 := { stood := { row := shaConstantsRow, standIns := [], harness := (true, "880e29bbfa57e8c2ebd105659a6659188388105ee73167efff843e28c1477790"), looks := false }, kinds := [], alts := [], laidByText := true, laidKinds := [.data], laidTests := true, laidLooks := .later }
def ShaConstantsCardSaid : Prop := Claim7.holds Tryd.pinned (.plain (OpenSpec.ofChange shaConstantsSpec)) shaConstantsCard

/-- THE TIED CARD OF 'notarylaw02.ShaPieces'. -/
def shaPiecesCard : Claim7 := { stood := { row := shaPiecesRow, standIns := [], harness := (true, "880e29bbfa57e8c2ebd105659a6659188388105ee73167efff843e28c1477790"), looks := false }, kinds := [], alts := [], laidByText := true, laidKinds := [.data], laidTests := true, laidLooks := .later }
def ShaPiecesCardSaid : Prop := Claim7.holds Tryd.pinned (.plain (OpenSpec.ofChange shaPiecesSpec)) shaPiecesCard

/-- THE TIED CARD OF 'notarylaw02.ShaChain'. -/
def shaChainCard : Claim7 := { stood := { row := shaChainRow, standIns := [], harness := (true, "880e29bbfa57e8c2ebd105659a6659188388105ee73167efff843e28c1477790"), looks := false }, kinds := [], alts := [], laidByText := true, laidKinds := [.data], laidTests := true, laidLooks := .later }
def ShaChainCardSaid : Prop := Claim7.holds Tryd.pinned (.plain (OpenSpec.ofChange shaChainSpec)) shaChainCard

/-- THE TIED CARD OF 'notarylaw02.ShaMemory'. -/
def shaMemoryCard : Claim7 := { stood := { row := shaMemoryRow, standIns := [], harness := (true, "880e29bbfa57e8c2ebd105659a6659188388105ee73167efff843e28c1477790"), looks := false }, kinds := [], alts := [], laidByText := true, laidKinds := [.data], laidTests := true, laidLooks := .later }
def ShaMemoryCardSaid : Prop := Claim7.holds Tryd.pinned (.plain (OpenSpec.ofChange shaMemorySpec)) shaMemoryCard

/-- THE TIED CARD OF 'notarylaw02.ShaCopies'. -/
def shaCopiesCard : Claim7 := { stood := { row := shaCopiesRow, standIns := [], harness := (true, "880e29bbfa57e8c2ebd105659a6659188388105ee73167efff843e28c1477790"), looks := false }, kinds := [], alts := [], laidByText := true, laidKinds := [.data], laidTests := true, laidLooks := .later }
def ShaCopiesCardSaid : Prop := Claim7.holds Tryd.pinned (.plain (OpenSpec.ofChange shaCopiesSpec)) shaCopiesCard

/-- THE TIED CARD OF 'notarylaw02.ShaNil'. -/
def shaNilCard : Claim7 := { stood := { row := shaNilRow, standIns := [], harness := (true, "880e29bbfa57e8c2ebd105659a6659188388105ee73167efff843e28c1477790"), looks := false }, kinds := [], alts := [], laidByText := true, laidKinds := [.data], laidTests := true, laidLooks := .later }
def ShaNilCardSaid : Prop := Claim7.holds Tryd.pinned (.plain (OpenSpec.ofChange shaNilSpec)) shaNilCard

/-- THE TIED CARD OF 'notarytop.WholeSha'. -/
def wholeShaCard : Claim7 := { stood := { row := wholeShaRow, standIns := [], harness := (true, "880e29bbfa57e8c2ebd105659a6659188388105ee73167efff843e28c1477790"), looks := false }, kinds := [], alts := [], laidByText := true, laidKinds := [.data], laidTests := true, laidLooks := .later }
def WholeShaCardSaid : Prop := Claim7.holds Tryd.pinned (.plain (OpenSpec.ofChange wholeShaSpec)) wholeShaCard

/-- THE SECOND FORM's CARD OF 'notarylaw02.ShaSums'. -/
def shaSumsUptoCard : Claim7 := { stood := { row := shaSumsUptoRow, standIns := [], harness := (true, "880e29bbfa57e8c2ebd105659a6659188388105ee73167efff843e28c1477790"), looks := false }, kinds := [], alts := [], laidByText := true, laidKinds := [.data], laidTests := true, laidLooks := .later }
def ShaSumsUptoCardSaid : Prop := Claim7.holds Tryd.pinned (.plain (OpenSpec.upto shaSumsSpec)) shaSumsUptoCard

/-- THE SECOND FORM's CARD OF 'notarylaw02.ShaBlocks'. -/
def shaBlocksUptoCard : Claim7 := { stood := { row := shaBlocksUptoRow, standIns := [], harness := (true, "880e29bbfa57e8c2ebd105659a6659188388105ee73167efff843e28c1477790"), looks := false }, kinds := [], alts := [], laidByText := true, laidKinds := [.data], laidTests := true, laidLooks := .later }
def ShaBlocksUptoCardSaid : Prop := Claim7.holds Tryd.pinned (.plain (OpenSpec.upto shaBlocksSpec)) shaBlocksUptoCard

/-- THE SECOND FORM's CARD OF 'notarylaw02.ShaPads'. -/
def shaPadsUptoCard : Claim7 := { stood := { row := shaPadsUptoRow, standIns := [], harness := (true, "880e29bbfa57e8c2ebd105659a6659188388105ee73167efff843e28c1477790"), looks := false }, kinds := [], alts := [], laidByText := true, laidKinds := [.data], laidTests := true, laidLooks := .later }
def ShaPadsUptoCardSaid : Prop := Claim7.holds Tryd.pinned (.plain (OpenSpec.upto shaPadsSpec)) shaPadsUptoCard

/-- THE SECOND FORM's CARD OF 'notarylaw02.ShaConstants'. -/
def shaConstantsUptoCard : Claim7 := { stood := { row := shaConstantsUptoRow, standIns := [], harness := (true, "880e29bbfa57e8c2ebd105659a6659188388105ee73167efff843e28c1477790"), looks := false }, kinds := [], alts := [], laidByText := true, laidKinds := [.data], laidTests := true, laidLooks := .later }
def ShaConstantsUptoCardSaid : Prop := Claim7.holds Tryd.pinned (.plain (OpenSpec.upto shaConstantsSpec)) shaConstantsUptoCard

/-- THE SECOND FORM's CARD OF 'notarylaw02.ShaPieces'. -/
def shaPiecesUptoCard : Claim7 := { stood := { row := shaPiecesUptoRow, standIns := [], harness := (true, "880e29bbfa57e8c2ebd105659a6659188388105ee73167efff843e28c1477790"), looks := false }, kinds := [], alts := [], laidByText := true, laidKinds := [.data], laidTests := true, laidLooks := .later }
def ShaPiecesUptoCardSaid : Prop := Claim7.holds Tryd.pinned (.plain (OpenSpec.upto shaPiecesSpec)) shaPiecesUptoCard

/-- THE SECOND FORM's CARD OF 'notarylaw02.ShaChain'. -/
def shaChainUptoCard : Claim7 := { stood := { row := shaChainUptoRow, standIns := [], harness := (true, "880e29bbfa57e8c2ebd105659a6659188388105ee73167efff843e28c1477790"), looks := false }, kinds := [], alts := [], laidByText := true, laidKinds := [.data], laidTests := true, laidLooks := .later }
def ShaChainUptoCardSaid : Prop := Claim7.holds Tryd.pinned (.plain (OpenSpec.upto shaChainSpec)) shaChainUptoCard

/-- THE SECOND FORM's CARD OF 'notarylaw02.ShaMemory'. -/
def shaMemoryUptoCard : Claim7 := { stood := { row := shaMemoryUptoRow, standIns := [], harness := (true, "880e29bbfa57e8c2ebd105659a6659188388105ee73167efff843e28c1477790"), looks := false }, kinds := [], alts := [], laidByText := true, laidKinds := [.data], laidTests := true, laidLooks := .later }
def ShaMemoryUptoCardSaid : Prop := Claim7.holds Tryd.pinned (.plain (OpenSpec.upto shaMemorySpec)) shaMemoryUptoCard

/-- THE SECOND FORM's CARD OF 'notarylaw02.ShaCopies'. -/
def shaCopiesUptoCard : Claim7 := { stood := { row := shaCopiesUptoRow, standIns := [], harness := (true, "880e29bbfa57e8c2ebd105659a6659188388105ee73167efff843e28c1477790"), looks := false }, kinds := [], alts := [], laidByText := true, laidKinds := [.data], laidTests := true, laidLooks := .later }
def ShaCopiesUptoCardSaid : Prop := Claim7.holds Tryd.pinned (.plain (OpenSpec.upto shaCopiesSpec)) shaCopiesUptoCard

/-- THE SECOND FORM's CARD OF 'notarylaw02.ShaNil'. -/
def shaNilUptoCard : Claim7 := { stood := { row := shaNilUptoRow, standIns := [], harness := (true, "880e29bbfa57e8c2ebd105659a6659188388105ee73167efff843e28c1477790"), looks := false }, kinds := [], alts := [], laidByText := true, laidKinds := [.data], laidTests := true, laidLooks := .later }
def ShaNilUptoCardSaid : Prop := Claim7.holds Tryd.pinned (.plain (OpenSpec.upto shaNilSpec)) shaNilUptoCard

/-- THE SECOND FORM's CARD OF 'notarytop.WholeSha'. -/
def wholeShaUptoCard : Claim7 := { stood := { row := wholeShaUptoRow, standIns := [], harness := (true, "880e29bbfa57e8c2ebd105659a6659188388105ee73167efff843e28c1477790"), looks := false }, kinds := [], alts := [], laidByText := true, laidKinds := [.data], laidTests := true, laidLooks := .later }
def WholeShaUptoCardSaid : Prop := Claim7.holds Tryd.pinned (.plain (OpenSpec.upto wholeShaSpec)) wholeShaUptoCard
end Rows
end Go.Proofs.YtiagaoeaploijaaDoor
