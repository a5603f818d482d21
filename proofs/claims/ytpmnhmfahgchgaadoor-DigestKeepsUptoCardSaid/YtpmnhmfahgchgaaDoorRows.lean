/-
  NARROWER THAN 'FOR EVERY INPUT', by the rows' own cells (each row's printed sentence says how): DigestNames: laid · DigestForms: laid · DigestSums: laid · DigestPieces: laid · DigestInputs: laid · DigestOneThing: laid · DigestDigests: laid · DigestKeeps: laid · DigestOfInputs: laid · WholeTags: laid.
  DERIVED. THE GIVEN ROWS OF THIS SEAT. 10 by the template 'for every input the law returns true; each argument reads behind the call as it read before'; 0 by the template 'total and deterministic' (their statements: YtpmnhmfahgchgaaDoorTotals.lean).
  GIVEN WITH THE SEED: the statements are not yours to turn. If you find one false, say at which input.
  Laid BY PROGRAM, IN A SANDBOX (cutbox-rows.mjs): the forced cells as the released guide's own fill.sh prints them over the translation bbd1c3c4a9f77da5… (all of the seat's roots in one cut). By AI agents, Wed Nov 11 2026. No macro, syntax, notation, axiom, sorry.
-/
import Derived.Test.YtpmnhmfahgchgaaDoorChecked
import GoSem.Claim
import GoSem.ClaimJoined
import GoSem.ClaimMapViews
import Derived.JoinedTies
import Derived.KernelRfl
namespace Go.Proofs.YtpmnhmfahgchgaaDoor
/- THE CELL 'sum', in the pinned program and in every row, IS THE sha256 OF THE DUMP (.gsa) THAT YtpmnhmfahgchgaaDoorProg.lean LOADS. Nothing in Lean hashes anything: it is a label: what it is worth is what the hold of that sum in a sandbox is worth. -/
noncomputable def Tryd.pinned : Pinned := { name := "ytpmnhmfahgchgaadoor", sum := "bbd1c3c4a9f77da5cd400b8665ac4c34681052fbb710712a0e107c63b6a3299d", checked := Tryd.checked }
namespace Rows
def none {H : Type} : Left H := { results := [], args := [] }

/- WHAT THE LISTED PACKAGE-LEVEL VARIABLES READ AS WHEN THE CALL BEGINS. Each datum BY PROGRAM (the guide's laid-datum.mjs) off the statement by which the dump's own 'gosem.cut.vars' lays the variable. In a bare row this is a premise. The card (YtpmnhmfahgchgaaDoorCards.lean) ties it to the program's text. -/
def laid_notary_sha_words {H : Type} : DataW H := .agg [.lit (.int .u32 1116352408), .lit (.int .u32 1899447441), .lit (.int .u32 3049323471), .lit (.int .u32 3921009573), .lit (.int .u32 961987163), .lit (.int .u32 1508970993), .lit (.int .u32 2453635748), .lit (.int .u32 2870763221), .lit (.int .u32 3624381080), .lit (.int .u32 310598401), .lit (.int .u32 607225278), .lit (.int .u32 1426881987), .lit (.int .u32 1925078388), .lit (.int .u32 2162078206), .lit (.int .u32 2614888103), .lit (.int .u32 3248222580), .lit (.int .u32 3835390401), .lit (.int .u32 4022224774), .lit (.int .u32 264347078), .lit (.int .u32 604807628), .lit (.int .u32 770255983), .lit (.int .u32 1249150122), .lit (.int .u32 1555081692), .lit (.int .u32 1996064986), .lit (.int .u32 2554220882), .lit (.int .u32 2821834349), .lit (.int .u32 2952996808), .lit (.int .u32 3210313671), .lit (.int .u32 3336571891), .lit (.int .u32 3584528711), .lit (.int .u32 113926993), .lit (.int .u32 338241895), .lit (.int .u32 666307205), .lit (.int .u32 773529912), .lit (.int .u32 1294757372), .lit (.int .u32 1396182291), .lit (.int .u32 1695183700), .lit (.int .u32 1986661051), .lit (.int .u32 2177026350), .lit (.int .u32 2456956037), .lit (.int .u32 2730485921), .lit (.int .u32 2820302411), .lit (.int .u32 3259730800), .lit (.int .u32 3345764771), .lit (.int .u32 3516065817), .lit (.int .u32 3600352804), .lit (.int .u32 4094571909), .lit (.int .u32 275423344), .lit (.int .u32 430227734), .lit (.int .u32 506948616), .lit (.int .u32 659060556), .lit (.int .u32 883997877), .lit (.int .u32 958139571), .lit (.int .u32 1322822218), .lit (.int .u32 1537002063), .lit (.int .u32 1747873779), .lit (.int .u32 1955562222), .lit (.int .u32 2024104815), .lit (.int .u32 2227730452), .lit (.int .u32 2361852424), .lit (.int .u32 2428436474), .lit (.int .u32 2756734187), .lit (.int .u32 3204031479), .lit (.int .u32 3329325298)]

/-- 'notarylaw03.DigestNames': WHATEVER THE INPUT: true; the input reads as it did. -/
def digestNamesSpec : ChangeSpec := { name := "digestNames", fn := fun _ => fun
  | [] => { results := [.lit (.bool true)], args := [] }
  | _ => none }
def digestNamesRow : OpenClaim := { program := "ytpmnhmfahgchgaadoor", sum := "bbd1c3c4a9f77da5cd400b8665ac4c34681052fbb710712a0e107c63b6a3299d", func := "notary/notarylaw03.DigestNames", spec := "digestNames", named := ["notary/sha.words"], apart := false, laid := [("notary/sha.words", laid_notary_sha_words)] }
def DigestNamesSaid : Prop := digestNamesRow.holds Tryd.pinned (OpenSpec.ofChange digestNamesSpec)

/-- ITS FALSE NEIGHBOUR: 'it returns false'. Refute it at one input. -/
def digestNamesWrong : ChangeSpec := { name := "digestNames", fn := fun _ => fun
  | [] => { results := [.lit (.bool false)], args := [] }
  | _ => none }
def DigestNamesWrongFalsely : Prop := digestNamesRow.holds Tryd.pinned (OpenSpec.ofChange digestNamesWrong)

/-- 'notarylaw03.DigestForms': WHATEVER THE INPUT: true; the input reads as it did. -/
def digestFormsSpec : ChangeSpec := { name := "digestForms", fn := fun _ => fun
  | [d1, d2] => { results := [.lit (.bool true)], args := [d1, d2] }
  | _ => none }
def digestFormsRow : OpenClaim := { program := "ytpmnhmfahgchgaadoor", sum := "bbd1c3c4a9f77da5cd400b8665ac4c34681052fbb710712a0e107c63b6a3299d", func := "notary/notarylaw03.DigestForms", spec := "digestForms", named := ["notary/sha.words"], apart := false, laid := [("notary/sha.words", laid_notary_sha_words)] }
def DigestFormsSaid : Prop := digestFormsRow.holds Tryd.pinned (OpenSpec.ofChange digestFormsSpec)

/-- ITS FALSE NEIGHBOUR: 'it returns false'. Refute it at one input. -/
def digestFormsWrong : ChangeSpec := { name := "digestForms", fn := fun _ => fun
  | [d1, d2] => { results := [.lit (.bool false)], args := [d1, d2] }
  | _ => none }
def DigestFormsWrongFalsely : Prop := digestFormsRow.holds Tryd.pinned (OpenSpec.ofChange digestFormsWrong)

/-- 'notarylaw03.DigestSums': WHATEVER THE INPUT: true; the input reads as it did. -/
def digestSumsSpec : ChangeSpec := { name := "digestSums", fn := fun _ => fun
  | [d1, d2] => { results := [.lit (.bool true)], args := [d1, d2] }
  | _ => none }
def digestSumsRow : OpenClaim := { program := "ytpmnhmfahgchgaadoor", sum := "bbd1c3c4a9f77da5cd400b8665ac4c34681052fbb710712a0e107c63b6a3299d", func := "notary/notarylaw03.DigestSums", spec := "digestSums", named := ["notary/sha.words"], apart := false, laid := [("notary/sha.words", laid_notary_sha_words)] }
def DigestSumsSaid : Prop := digestSumsRow.holds Tryd.pinned (OpenSpec.ofChange digestSumsSpec)

/-- ITS FALSE NEIGHBOUR: 'it returns false'. Refute it at one input. -/
def digestSumsWrong : ChangeSpec := { name := "digestSums", fn := fun _ => fun
  | [d1, d2] => { results := [.lit (.bool false)], args := [d1, d2] }
  | _ => none }
def DigestSumsWrongFalsely : Prop := digestSumsRow.holds Tryd.pinned (OpenSpec.ofChange digestSumsWrong)

/-- 'notarylaw03.DigestPieces': WHATEVER THE INPUT: true; the input reads as it did. -/
def digestPiecesSpec : ChangeSpec := { name := "digestPieces", fn := fun _ => fun
  | [d1, d2, d3] => { results := [.lit (.bool true)], args := [d1, d2, d3] }
  | _ => none }
def digestPiecesRow : OpenClaim := { program := "ytpmnhmfahgchgaadoor", sum := "bbd1c3c4a9f77da5cd400b8665ac4c34681052fbb710712a0e107c63b6a3299d", func := "notary/notarylaw03.DigestPieces", spec := "digestPieces", named := ["notary/sha.words"], apart := false, laid := [("notary/sha.words", laid_notary_sha_words)] }
def DigestPiecesSaid : Prop := digestPiecesRow.holds Tryd.pinned (OpenSpec.ofChange digestPiecesSpec)

/-- ITS FALSE NEIGHBOUR: 'it returns false'. Refute it at one input. -/
def digestPiecesWrong : ChangeSpec := { name := "digestPieces", fn := fun _ => fun
  | [d1, d2, d3] => { results := [.lit (.bool false)], args := [d1, d2, d3] }
  | _ => none }
def DigestPiecesWrongFalsely : Prop := digestPiecesRow.holds Tryd.pinned (OpenSpec.ofChange digestPiecesWrong)

/-- 'notarylaw03.DigestInputs': WHATEVER THE INPUT: true; the input reads as it did. -/
def digestInputsSpec : ChangeSpec := { name := "digestInputs", fn := fun _ => fun
  | [d] => { results := [.lit (.bool true)], args := [d] }
  | _ => none }
def digestInputsRow : OpenClaim := { program := "ytpmnhmfahgchgaadoor", sum := "bbd1c3c4a9f77da5cd400b8665ac4c34681052fbb710712a0e107c63b6a3299d", func := "notary/notarylaw03.DigestInputs", spec := "digestInputs", named := ["notary/sha.words"], apart := false, laid := [("notary/sha.words", laid_notary_sha_words)] }
def DigestInputsSaid : Prop := digestInputsRow.holds Tryd.pinned (OpenSpec.ofChange digestInputsSpec)

/-- ITS FALSE NEIGHBOUR: 'it returns false'. Refute it at one input. -/
def digestInputsWrong : ChangeSpec := { name := "digestInputs", fn := fun _ => fun
  | [d] => { results := [.lit (.bool false)], args := [d] }
  | _ => none }
def DigestInputsWrongFalsely : Prop := digestInputsRow.holds Tryd.pinned (OpenSpec.ofChange digestInputsWrong)

/-- 'notarylaw03.DigestOneThing': WHATEVER THE INPUT: true; the input reads as it did. -/
def digestOneThingSpec : ChangeSpec := { name := "digestOneThing", fn := fun _ => fun
  | [d1, d2, d3] => { results := [.lit (.bool true)], args := [d1, d2, d3] }
  | _ => none }
def digestOneThingRow : OpenClaim := { program := "ytpmnhmfahgchgaadoor", sum := "bbd1c3c4a9f77da5cd400b8665ac4c34681052fbb710712a0e107c63b6a3299d", func := "notary/notarylaw03.DigestOneThing", spec := "digestOneThing", named := ["notary/sha.words"], apart := false, laid := [("notary/sha.words", laid_notary_sha_words)] }
def DigestOneThingSaid : Prop := digestOneThingRow.holds Tryd.pinned (OpenSpec.ofChange digestOneThingSpec)

/-- ITS FALSE NEIGHBOUR: 'it returns false'. Refute it at one input. -/
def digestOneThingWrong : ChangeSpec := { name := "digestOneThing", fn := fun _ => fun
  | [d1, d2, d3] => { results := [.lit (.bool false)], args := [d1, d2, d3] }
  | _ => none }
def DigestOneThingWrongFalsely : Prop := digestOneThingRow.holds Tryd.pinned (OpenSpec.ofChange digestOneThingWrong)

/-- 'notarylaw03.DigestDigests': WHATEVER THE INPUT: true; the input reads as it did. -/
def digestDigestsSpec : ChangeSpec := { name := "digestDigests", fn := fun _ => fun
  | [d] => { results := [.lit (.bool true)], args := [d] }
  | _ => none }
def digestDigestsRow : OpenClaim := { program := "ytpmnhmfahgchgaadoor", sum := "bbd1c3c4a9f77da5cd400b8665ac4c34681052fbb710712a0e107c63b6a3299d", func := "notary/notarylaw03.DigestDigests", spec := "digestDigests", named := ["notary/sha.words"], apart := false, laid := [("notary/sha.words", laid_notary_sha_words)] }
def DigestDigestsSaid : Prop := digestDigestsRow.holds Tryd.pinned (OpenSpec.ofChange digestDigestsSpec)

/-- ITS FALSE NEIGHBOUR: 'it returns false'. Refute it at one input. -/
def digestDigestsWrong : ChangeSpec := { name := "digestDigests", fn := fun _ => fun
  | [d] => { results := [.lit (.bool false)], args := [d] }
  | _ => none }
def DigestDigestsWrongFalsely : Prop := digestDigestsRow.holds Tryd.pinned (OpenSpec.ofChange digestDigestsWrong)

/-- 'notarylaw03.DigestKeeps': WHATEVER THE INPUT: true; the input reads as it did. -/
def digestKeepsSpec : ChangeSpec := { name := "digestKeeps", fn := fun _ => fun
  | [d] => { results := [.lit (.bool true)], args := [d] }
  | _ => none }
def digestKeepsRow : OpenClaim := { program := "ytpmnhmfahgchgaadoor", sum := "bbd1c3c4a9f77da5cd400b8665ac4c34681052fbb710712a0e107c63b6a3299d", func := "notary/notarylaw03.DigestKeeps", spec := "digestKeeps", unfollowed := true, recurses := true, named := ["notary/sha.words"], apart := false, laid := [("notary/sha.words", laid_notary_sha_words)] }
def DigestKeepsSaid : Prop := digestKeepsRow.holds Tryd.pinned (OpenSpec.ofChange digestKeepsSpec)

/-- ITS FALSE NEIGHBOUR: 'it returns false'. Refute it at one input. -/
def digestKeepsWrong : ChangeSpec := { name := "digestKeeps", fn := fun _ => fun
  | [d] => { results := [.lit (.bool false)], args := [d] }
  | _ => none }
def DigestKeepsWrongFalsely : Prop := digestKeepsRow.holds Tryd.pinned (OpenSpec.ofChange digestKeepsWrong)

/-- 'notarylaw03.DigestOfInputs': WHATEVER THE INPUT: true; the input reads as it did. -/
def digestOfInputsSpec : ChangeSpec := { name := "digestOfInputs", fn := fun _ => fun
  | [d] => { results := [.lit (.bool true)], args := [d] }
  | _ => none }
def digestOfInputsRow : OpenClaim := { program := "ytpmnhmfahgchgaadoor", sum := "bbd1c3c4a9f77da5cd400b8665ac4c34681052fbb710712a0e107c63b6a3299d", func := "notary/notarylaw03.DigestOfInputs", spec := "digestOfInputs", named := ["notary/sha.words"], apart := false, laid := [("notary/sha.words", laid_notary_sha_words)] }
def DigestOfInputsSaid : Prop := digestOfInputsRow.holds Tryd.pinned (OpenSpec.ofChange digestOfInputsSpec)

/-- ITS FALSE NEIGHBOUR: 'it returns false'. Refute it at one input. -/
def digestOfInputsWrong : ChangeSpec := { name := "digestOfInputs", fn := fun _ => fun
  | [d] => { results := [.lit (.bool false)], args := [d] }
  | _ => none }
def DigestOfInputsWrongFalsely : Prop := digestOfInputsRow.holds Tryd.pinned (OpenSpec.ofChange digestOfInputsWrong)

/-- 'notarytop.WholeTags': WHATEVER THE INPUT: true; the input reads as it did. -/
def wholeTagsSpec : ChangeSpec := { name := "wholeTags", fn := fun _ => fun
  | [d1, d2, d3] => { results := [.lit (.bool true)], args := [d1, d2, d3] }
  | _ => none }
def wholeTagsRow : OpenClaim := { program := "ytpmnhmfahgchgaadoor", sum := "bbd1c3c4a9f77da5cd400b8665ac4c34681052fbb710712a0e107c63b6a3299d", func := "notary/notarytop.WholeTags", spec := "wholeTags", named := ["notary/sha.words"], apart := false, laid := [("notary/sha.words", laid_notary_sha_words)] }
def WholeTagsSaid : Prop := wholeTagsRow.holds Tryd.pinned (OpenSpec.ofChange wholeTagsSpec)

/-- ITS FALSE NEIGHBOUR: 'it returns false'. Refute it at one input. -/
def wholeTagsWrong : ChangeSpec := { name := "wholeTags", fn := fun _ => fun
  | [d1, d2, d3] => { results := [.lit (.bool false)], args := [d1, d2, d3] }
  | _ => none }
def WholeTagsWrongFalsely : Prop := wholeTagsRow.holds Tryd.pinned (OpenSpec.ofChange wholeTagsWrong)

/- THE SECOND FORM. 'bulk': how many values and letters a reading holds, each counted each time it is reached (what is shared counts as often as it is met; a slice's spare places count too). A statement '..UptoSaid' is the law's where the arguments, and the package variables that the reading takes, are together of bulk at most 1048576: NARROWER than '..Said'. Prove '..Said' where nothing that the law and all that it calls make is longer than what came in: it says more and counts as full. Else prove '..UptoSaid'. A law counts once. -/
mutual
def uptoBulk {H : Type} : DataW H → Nat
  | .lit (.string bytes) => bytes.length + 1
  | .lit _ => 1
  | .nil => 1
  | .ptr d => uptoBulk d + 1
  | .slice elems spare => uptoBulkAll elems + uptoBulkAll spare + 1
  | .agg parts => uptoBulkAll parts + 1
  | .iface _ d => uptoBulk d + 1
  | .map entries => uptoBulkEntries entries + 1
  | .held _ => 1
def uptoBulkAll {H : Type} : List (DataW H) → Nat
  | [] => 0
  | d :: r => uptoBulk d + uptoBulkAll r
def uptoBulkEntries {H : Type} : List (Lit × DataW H) → Nat
  | [] => 0
  | x :: r => uptoBulkEntry x + uptoBulkEntries r
def uptoBulkEntry {H : Type} : Lit × DataW H → Nat
  | (.string bytes, d) => bytes.length + uptoBulk d + 1
  | (_, d) => uptoBulk d + 1
 end
def uptoSmall : (H : Type) → List (DataW H) → Bool := fun _ ds => decide (uptoBulkAll ds ≤ 1048576)
def OpenSpec.upto (s : _root_.Go.ChangeSpec) : _root_.Go.OpenSpec := { _root_.Go.OpenSpec.ofChange s with cond := some uptoSmall }

/-- 'notarylaw03.DigestNames', WHERE WHAT IT READS IS OF BULK AT MOST 1048576: true; the input reads as it did. -/
def digestNamesUptoRow : OpenClaim := { program := "ytpmnhmfahgchgaadoor", sum := "bbd1c3c4a9f77da5cd400b8665ac4c34681052fbb710712a0e107c63b6a3299d", func := "notary/notarylaw03.DigestNames", spec := "digestNames", named := ["notary/sha.words"], apart := false, laid := [("notary/sha.words", laid_notary_sha_words)], narrowed := true }
def DigestNamesUptoSaid : Prop := digestNamesUptoRow.holds Tryd.pinned (OpenSpec.upto digestNamesSpec)

/-- 'notarylaw03.DigestForms', WHERE WHAT IT READS IS OF BULK AT MOST 1048576: true; the input reads as it did. -/
def digestFormsUptoRow : OpenClaim := { program := "ytpmnhmfahgchgaadoor", sum := "bbd1c3c4a9f77da5cd400b8665ac4c34681052fbb710712a0e107c63b6a3299d", func := "notary/notarylaw03.DigestForms", spec := "digestForms", named := ["notary/sha.words"], apart := false, laid := [("notary/sha.words", laid_notary_sha_words)], narrowed := true }
def DigestFormsUptoSaid : Prop := digestFormsUptoRow.holds Tryd.pinned (OpenSpec.upto digestFormsSpec)

/-- 'notarylaw03.DigestSums', WHERE WHAT IT READS IS OF BULK AT MOST 1048576: true; the input reads as it did. -/
def digestSumsUptoRow : OpenClaim := { program := "ytpmnhmfahgchgaadoor", sum := "bbd1c3c4a9f77da5cd400b8665ac4c34681052fbb710712a0e107c63b6a3299d", func := "notary/notarylaw03.DigestSums", spec := "digestSums", named := ["notary/sha.words"], apart := false, laid := [("notary/sha.words", laid_notary_sha_words)], narrowed := true }
def DigestSumsUptoSaid : Prop := digestSumsUptoRow.holds Tryd.pinned (OpenSpec.upto digestSumsSpec)

/-- 'notarylaw03.DigestPieces', WHERE WHAT IT READS IS OF BULK AT MOST 1048576: true; the input reads as it did. -/
def digestPiecesUptoRow : OpenClaim := { program := "ytpmnhmfahgchgaadoor", sum := "bbd1c3c4a9f77da5cd400b8665ac4c34681052fbb710712a0e107c63b6a3299d", func := "notary/notarylaw03.DigestPieces", spec := "digestPieces", named := ["notary/sha.words"], apart := false, laid := [("notary/sha.words", laid_notary_sha_words)], narrowed := true }
def DigestPiecesUptoSaid : Prop := digestPiecesUptoRow.holds Tryd.pinned (OpenSpec.upto digestPiecesSpec)

/-- 'notarylaw03.DigestInputs', WHERE WHAT IT READS IS OF BULK AT MOST 1048576: true; the input reads as it did. -/
def digestInputsUptoRow : OpenClaim := { program := "ytpmnhmfahgchgaadoor", sum := "bbd1c3c4a9f77da5cd400b8665ac4c34681052fbb710712a0e107c63b6a3299d", func := "notary/notarylaw03.DigestInputs", spec := "digestInputs", named := ["notary/sha.words"], apart := false, laid := [("notary/sha.words", laid_notary_sha_words)], narrowed := true }
def DigestInputsUptoSaid : Prop := digestInputsUptoRow.holds Tryd.pinned (OpenSpec.upto digestInputsSpec)

/-- 'notarylaw03.DigestOneThing', WHERE WHAT IT READS IS OF BULK AT MOST 1048576: true; the input reads as it did. -/
def digestOneThingUptoRow : OpenClaim := { program := "ytpmnhmfahgchgaadoor", sum := "bbd1c3c4a9f77da5cd400b8665ac4c34681052fbb710712a0e107c63b6a3299d", func := "notary/notarylaw03.DigestOneThing", spec := "digestOneThing", named := ["notary/sha.words"], apart := false, laid := [("notary/sha.words", laid_notary_sha_words)], narrowed := true }
def DigestOneThingUptoSaid : Prop := digestOneThingUptoRow.holds Tryd.pinned (OpenSpec.upto digestOneThingSpec)

/-- 'notarylaw03.DigestDigests', WHERE WHAT IT READS IS OF BULK AT MOST 1048576: true; the input reads as it did. -/
def digestDigestsUptoRow : OpenClaim := { program := "ytpmnhmfahgchgaadoor", sum := "bbd1c3c4a9f77da5cd400b8665ac4c34681052fbb710712a0e107c63b6a3299d", func := "notary/notarylaw03.DigestDigests", spec := "digestDigests", named := ["notary/sha.words"], apart := false, laid := [("notary/sha.words", laid_notary_sha_words)], narrowed := true }
def DigestDigestsUptoSaid : Prop := digestDigestsUptoRow.holds Tryd.pinned (OpenSpec.upto digestDigestsSpec)

/-- 'notarylaw03.DigestKeeps', WHERE WHAT IT READS IS OF BULK AT MOST 1048576: true; the input reads as it did. -/
def digestKeepsUptoRow : OpenClaim := { program := "ytpmnhmfahgchgaadoor", sum := "bbd1c3c4a9f77da5cd400b8665ac4c34681052fbb710712a0e107c63b6a3299d", func := "notary/notarylaw03.DigestKeeps", spec := "digestKeeps", unfollowed := true, recurses := true, named := ["notary/sha.words"], apart := false, laid := [("notary/sha.words", laid_notary_sha_words)], narrowed := true }
def DigestKeepsUptoSaid : Prop := digestKeepsUptoRow.holds Tryd.pinned (OpenSpec.upto digestKeepsSpec)

/-- 'notarylaw03.DigestOfInputs', WHERE WHAT IT READS IS OF BULK AT MOST 1048576: true; the input reads as it did. -/
def digestOfInputsUptoRow : OpenClaim := { program := "ytpmnhmfahgchgaadoor", sum := "bbd1c3c4a9f77da5cd400b8665ac4c34681052fbb710712a0e107c63b6a3299d", func := "notary/notarylaw03.DigestOfInputs", spec := "digestOfInputs", named := ["notary/sha.words"], apart := false, laid := [("notary/sha.words", laid_notary_sha_words)], narrowed := true }
def DigestOfInputsUptoSaid : Prop := digestOfInputsUptoRow.holds Tryd.pinned (OpenSpec.upto digestOfInputsSpec)

/-- 'notarytop.WholeTags', WHERE WHAT IT READS IS OF BULK AT MOST 1048576: true; the input reads as it did. -/
def wholeTagsUptoRow : OpenClaim := { program := "ytpmnhmfahgchgaadoor", sum := "bbd1c3c4a9f77da5cd400b8665ac4c34681052fbb710712a0e107c63b6a3299d", func := "notary/notarytop.WholeTags", spec := "wholeTags", named := ["notary/sha.words"], apart := false, laid := [("notary/sha.words", laid_notary_sha_words)], narrowed := true }
def WholeTagsUptoSaid : Prop := wholeTagsUptoRow.holds Tryd.pinned (OpenSpec.upto wholeTagsSpec)

end Rows
end Go.Proofs.YtpmnhmfahgchgaaDoor
