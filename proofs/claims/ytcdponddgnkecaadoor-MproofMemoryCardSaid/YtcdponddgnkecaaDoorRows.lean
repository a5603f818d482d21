/-
  NARROWER THAN 'FOR EVERY INPUT', by the rows' own cells (each row's printed sentence says how): MproofInclusions: laid · MproofConsistencies: laid · MproofCounts: laid · MproofFixed: laid · MproofPast: laid · MproofSince: laid · MproofMemory: laid · MproofFolds: laid · McheckHonest: laid · WholeCounts: laid · WholeIncluded: laid.
  DERIVED. THE GIVEN ROWS OF THIS SEAT. 11 by the template 'for every input the law returns true; each argument reads behind the call as it read before'; 0 by the template 'total and deterministic' (their statements: YtcdponddgnkecaaDoorTotals.lean).
  GIVEN WITH THE SEED: the statements are not yours to turn. If you find one false, say at which input.
  Laid BY PROGRAM, IN A SANDBOX (cutbox-rows.mjs): the forced cells as the released guide's own fill.sh prints them over the translation 48a8ba96c32161a9… (all of the seat's roots in one cut). By AI agents, Wed Nov 11 2026. No macro, syntax, notation, axiom, sorry.
-/
import Derived.Test.YtcdponddgnkecaaDoorChecked
import GoSem.Claim
import GoSem.ClaimJoined
import GoSem.ClaimMapViews
import Derived.JoinedTies
import Derived.KernelRfl
namespace Go.Proofs.YtcdponddgnkecaaDoor
/- THE CELL 'sum', in the pinned program and in every row, IS THE sha256 OF THE DUMP (.gsa) THAT YtcdponddgnkecaaDoorProg.lean LOADS. Nothing in Lean hashes anything: it is a label: what it is worth is what the hold of that sum in a sandbox is worth. -/
noncomputable def Tryd.pinned : Pinned := { name := "ytcdponddgnkecaadoor", sum := "48a8ba96c32161a92f5f3e0552ae357a8fcbc8731e5c01a0e9394cd49c85f3ae", checked := Tryd.checked }
namespace Rows
def none {H : Type} : Left H := { results := [], args := [] }

/- WHAT THE LISTED PACKAGE-LEVEL VARIABLES READ AS WHEN THE CALL BEGINS. Each datum BY PROGRAM (the guide's laid-datum.mjs) off the statement by which the dump's own 'gosem.cut.vars' lays the variable. In a bare row this is a premise. The card (YtcdponddgnkecaaDoorCards.lean) ties it to the program's text. -/
def laid_notary_sha_words {H : Type} : DataW H := .agg [.lit (.int .u32 1116352408), .lit (.int .u32 1899447441), .lit (.int .u32 3049323471), .lit (.int .u32 3921009573), .lit (.int .u32 961987163), .lit (.int .u32 1508970993), .lit (.int .u32 2453635748), .lit (.int .u32 2870763221), .lit (.int .u32 3624381080), .lit (.int .u32 310598401), .lit (.int .u32 607225278), .lit (.int .u32 1426881987), .lit (.int .u32 1925078388), .lit (.int .u32 2162078206), .lit (.int .u32 2614888103), .lit (.int .u32 3248222580), .lit (.int .u32 3835390401), .lit (.int .u32 4022224774), .lit (.int .u32 264347078), .lit (.int .u32 604807628), .lit (.int .u32 770255983), .lit (.int .u32 1249150122), .lit (.int .u32 1555081692), .lit (.int .u32 1996064986), .lit (.int .u32 2554220882), .lit (.int .u32 2821834349), .lit (.int .u32 2952996808), .lit (.int .u32 3210313671), .lit (.int .u32 3336571891), .lit (.int .u32 3584528711), .lit (.int .u32 113926993), .lit (.int .u32 338241895), .lit (.int .u32 666307205), .lit (.int .u32 773529912), .lit (.int .u32 1294757372), .lit (.int .u32 1396182291), .lit (.int .u32 1695183700), .lit (.int .u32 1986661051), .lit (.int .u32 2177026350), .lit (.int .u32 2456956037), .lit (.int .u32 2730485921), .lit (.int .u32 2820302411), .lit (.int .u32 3259730800), .lit (.int .u32 3345764771), .lit (.int .u32 3516065817), .lit (.int .u32 3600352804), .lit (.int .u32 4094571909), .lit (.int .u32 275423344), .lit (.int .u32 430227734), .lit (.int .u32 506948616), .lit (.int .u32 659060556), .lit (.int .u32 883997877), .lit (.int .u32 958139571), .lit (.int .u32 1322822218), .lit (.int .u32 1537002063), .lit (.int .u32 1747873779), .lit (.int .u32 1955562222), .lit (.int .u32 2024104815), .lit (.int .u32 2227730452), .lit (.int .u32 2361852424), .lit (.int .u32 2428436474), .lit (.int .u32 2756734187), .lit (.int .u32 3204031479), .lit (.int .u32 3329325298)]

/-- 'notarylaw11.MproofInclusions': WHATEVER THE INPUT: true; the input reads as it did. -/
def mproofInclusionsSpec : ChangeSpec := { name := "mproofInclusions", fn := fun _ => fun
  | [d1, d2, d3, d4] => { results := [.lit (.bool true)], args := [d1, d2, d3, d4] }
  | _ => none }
def mproofInclusionsRow : OpenClaim := { program := "ytcdponddgnkecaadoor", sum := "48a8ba96c32161a92f5f3e0552ae357a8fcbc8731e5c01a0e9394cd49c85f3ae", func := "notary/notarylaw11.MproofInclusions", spec := "mproofInclusions", unfollowed := true, recurses := true, named := ["notary/sha.words"], apart := false, laid := [("notary/sha.words", laid_notary_sha_words)] }
def MproofInclusionsSaid : Prop := mproofInclusionsRow.holds Tryd.pinned (OpenSpec.ofChange mproofInclusionsSpec)

/-- ITS FALSE NEIGHBOUR: 'it returns false'. Refute it at one input. -/
def mproofInclusionsWrong : ChangeSpec := { name := "mproofInclusions", fn := fun _ => fun
  | [d1, d2, d3, d4] => { results := [.lit (.bool false)], args := [d1, d2, d3, d4] }
  | _ => none }
def MproofInclusionsWrongFalsely : Prop := mproofInclusionsRow.holds Tryd.pinned (OpenSpec.ofChange mproofInclusionsWrong)

/-- 'notarylaw11.MproofConsistencies': WHATEVER THE INPUT: true; the input reads as it did. -/
def mproofConsistenciesSpec : ChangeSpec := { name := "mproofConsistencies", fn := fun _ => fun
  | [d1, d2, d3, d4] => { results := [.lit (.bool true)], args := [d1, d2, d3, d4] }
  | _ => none }
def mproofConsistenciesRow : OpenClaim := { program := "ytcdponddgnkecaadoor", sum := "48a8ba96c32161a92f5f3e0552ae357a8fcbc8731e5c01a0e9394cd49c85f3ae", func := "notary/notarylaw11.MproofConsistencies", spec := "mproofConsistencies", unfollowed := true, recurses := true, named := ["notary/sha.words"], apart := false, laid := [("notary/sha.words", laid_notary_sha_words)] }
def MproofConsistenciesSaid : Prop := mproofConsistenciesRow.holds Tryd.pinned (OpenSpec.ofChange mproofConsistenciesSpec)

/-- ITS FALSE NEIGHBOUR: 'it returns false'. Refute it at one input. -/
def mproofConsistenciesWrong : ChangeSpec := { name := "mproofConsistencies", fn := fun _ => fun
  | [d1, d2, d3, d4] => { results := [.lit (.bool false)], args := [d1, d2, d3, d4] }
  | _ => none }
def MproofConsistenciesWrongFalsely : Prop := mproofConsistenciesRow.holds Tryd.pinned (OpenSpec.ofChange mproofConsistenciesWrong)

/-- 'notarylaw11.MproofCounts': WHATEVER THE INPUT: true; the input reads as it did. -/
def mproofCountsSpec : ChangeSpec := { name := "mproofCounts", fn := fun _ => fun
  | [d1, d2, d3] => { results := [.lit (.bool true)], args := [d1, d2, d3] }
  | _ => none }
def mproofCountsRow : OpenClaim := { program := "ytcdponddgnkecaadoor", sum := "48a8ba96c32161a92f5f3e0552ae357a8fcbc8731e5c01a0e9394cd49c85f3ae", func := "notary/notarylaw11.MproofCounts", spec := "mproofCounts", unfollowed := true, recurses := true, named := ["notary/sha.words"], apart := false, laid := [("notary/sha.words", laid_notary_sha_words)] }
def MproofCountsSaid : Prop := mproofCountsRow.holds Tryd.pinned (OpenSpec.ofChange mproofCountsSpec)

/-- ITS FALSE NEIGHBOUR: 'it returns false'. Refute it at one input. -/
def mproofCountsWrong : ChangeSpec := { name := "mproofCounts", fn := fun _ => fun
  | [d1, d2, d3] => { results := [.lit (.bool false)], args := [d1, d2, d3] }
  | _ => none }
def MproofCountsWrongFalsely : Prop := mproofCountsRow.holds Tryd.pinned (OpenSpec.ofChange mproofCountsWrong)

/-- 'notarylaw11.MproofFixed': WHATEVER THE INPUT: true; the input reads as it did. -/
def mproofFixedSpec : ChangeSpec := { name := "mproofFixed", fn := fun _ => fun
  | [] => { results := [.lit (.bool true)], args := [] }
  | _ => none }
def mproofFixedRow : OpenClaim := { program := "ytcdponddgnkecaadoor", sum := "48a8ba96c32161a92f5f3e0552ae357a8fcbc8731e5c01a0e9394cd49c85f3ae", func := "notary/notarylaw11.MproofFixed", spec := "mproofFixed", unfollowed := true, recurses := true, named := ["notary/sha.words"], apart := false, laid := [("notary/sha.words", laid_notary_sha_words)] }
def MproofFixedSaid : Prop := mproofFixedRow.holds Tryd.pinned (OpenSpec.ofChange mproofFixedSpec)

/-- ITS FALSE NEIGHBOUR: 'it returns false'. Refute it at one input. -/
def mproofFixedWrong : ChangeSpec := { name := "mproofFixed", fn := fun _ => fun
  | [] => { results := [.lit (.bool false)], args := [] }
  | _ => none }
def MproofFixedWrongFalsely : Prop := mproofFixedRow.holds Tryd.pinned (OpenSpec.ofChange mproofFixedWrong)

/-- 'notarylaw11.MproofPast': WHATEVER THE INPUT: true; the input reads as it did. -/
def mproofPastSpec : ChangeSpec := { name := "mproofPast", fn := fun _ => fun
  | [d1, d2, d3, d4, d5, d6] => { results := [.lit (.bool true)], args := [d1, d2, d3, d4, d5, d6] }
  | _ => none }
def mproofPastRow : OpenClaim := { program := "ytcdponddgnkecaadoor", sum := "48a8ba96c32161a92f5f3e0552ae357a8fcbc8731e5c01a0e9394cd49c85f3ae", func := "notary/notarylaw11.MproofPast", spec := "mproofPast", unfollowed := true, recurses := true, named := ["notary/sha.words"], apart := false, laid := [("notary/sha.words", laid_notary_sha_words)] }
def MproofPastSaid : Prop := mproofPastRow.holds Tryd.pinned (OpenSpec.ofChange mproofPastSpec)

/-- ITS FALSE NEIGHBOUR: 'it returns false'. Refute it at one input. -/
def mproofPastWrong : ChangeSpec := { name := "mproofPast", fn := fun _ => fun
  | [d1, d2, d3, d4, d5, d6] => { results := [.lit (.bool false)], args := [d1, d2, d3, d4, d5, d6] }
  | _ => none }
def MproofPastWrongFalsely : Prop := mproofPastRow.holds Tryd.pinned (OpenSpec.ofChange mproofPastWrong)

/-- 'notarylaw11.MproofSince': WHATEVER THE INPUT: true; the input reads as it did. -/
def mproofSinceSpec : ChangeSpec := { name := "mproofSince", fn := fun _ => fun
  | [d1, d2, d3, d4] => { results := [.lit (.bool true)], args := [d1, d2, d3, d4] }
  | _ => none }
def mproofSinceRow : OpenClaim := { program := "ytcdponddgnkecaadoor", sum := "48a8ba96c32161a92f5f3e0552ae357a8fcbc8731e5c01a0e9394cd49c85f3ae", func := "notary/notarylaw11.MproofSince", spec := "mproofSince", unfollowed := true, recurses := true, named := ["notary/sha.words"], apart := false, laid := [("notary/sha.words", laid_notary_sha_words)] }
def MproofSinceSaid : Prop := mproofSinceRow.holds Tryd.pinned (OpenSpec.ofChange mproofSinceSpec)

/-- ITS FALSE NEIGHBOUR: 'it returns false'. Refute it at one input. -/
def mproofSinceWrong : ChangeSpec := { name := "mproofSince", fn := fun _ => fun
  | [d1, d2, d3, d4] => { results := [.lit (.bool false)], args := [d1, d2, d3, d4] }
  | _ => none }
def MproofSinceWrongFalsely : Prop := mproofSinceRow.holds Tryd.pinned (OpenSpec.ofChange mproofSinceWrong)

/-- 'notarylaw11.MproofMemory': WHATEVER THE INPUT: true; the input reads as it did. -/
def mproofMemorySpec : ChangeSpec := { name := "mproofMemory", fn := fun _ => fun
  | [d1, d2, d3, d4, d5] => { results := [.lit (.bool true)], args := [d1, d2, d3, d4, d5] }
  | _ => none }
def mproofMemoryRow : OpenClaim := { program := "ytcdponddgnkecaadoor", sum := "48a8ba96c32161a92f5f3e0552ae357a8fcbc8731e5c01a0e9394cd49c85f3ae", func := "notary/notarylaw11.MproofMemory", spec := "mproofMemory", unfollowed := true, recurses := true, named := ["notary/sha.words"], apart := false, laid := [("notary/sha.words", laid_notary_sha_words)] }
def MproofMemorySaid : Prop := mproofMemoryRow.holds Tryd.pinned (OpenSpec.ofChange mproofMemorySpec)

/-- ITS FALSE NEIGHBOUR: 'it returns false'. Refute it at one input. -/
def mproofMemoryWrong : ChangeSpec := { name := "mproofMemory", fn := fun _ => fun
  | [d1, d2, d3, d4, d5] => { results := [.lit (.bool false)], args := [d1, d2, d3, d4, d5] }
  | _ => none }
def MproofMemoryWrongFalsely : Prop := mproofMemoryRow.holds Tryd.pinned (OpenSpec.ofChange mproofMemoryWrong)

/-- 'notarylaw11.MproofFolds': WHATEVER THE INPUT: true; the input reads as it did. -/
def mproofFoldsSpec : ChangeSpec := { name := "mproofFolds", fn := fun _ => fun
  | [d1, d2, d3, d4] => { results := [.lit (.bool true)], args := [d1, d2, d3, d4] }
  | _ => none }
def mproofFoldsRow : OpenClaim := { program := "ytcdponddgnkecaadoor", sum := "48a8ba96c32161a92f5f3e0552ae357a8fcbc8731e5c01a0e9394cd49c85f3ae", func := "notary/notarylaw11.MproofFolds", spec := "mproofFolds", unfollowed := true, recurses := true, named := ["notary/sha.words"], apart := false, laid := [("notary/sha.words", laid_notary_sha_words)] }
def MproofFoldsSaid : Prop := mproofFoldsRow.holds Tryd.pinned (OpenSpec.ofChange mproofFoldsSpec)

/-- ITS FALSE NEIGHBOUR: 'it returns false'. Refute it at one input. -/
def mproofFoldsWrong : ChangeSpec := { name := "mproofFolds", fn := fun _ => fun
  | [d1, d2, d3, d4] => { results := [.lit (.bool false)], args := [d1, d2, d3, d4] }
  | _ => none }
def MproofFoldsWrongFalsely : Prop := mproofFoldsRow.holds Tryd.pinned (OpenSpec.ofChange mproofFoldsWrong)

/-- 'notarylaw12.McheckHonest': WHATEVER THE INPUT: true; the input reads as it did. -/
def mcheckHonestSpec : ChangeSpec := { name := "mcheckHonest", fn := fun _ => fun
  | [d1, d2, d3, d4] => { results := [.lit (.bool true)], args := [d1, d2, d3, d4] }
  | _ => none }
def mcheckHonestRow : OpenClaim := { program := "ytcdponddgnkecaadoor", sum := "48a8ba96c32161a92f5f3e0552ae357a8fcbc8731e5c01a0e9394cd49c85f3ae", func := "notary/notarylaw12.McheckHonest", spec := "mcheckHonest", unfollowed := true, recurses := true, named := ["notary/sha.words"], apart := false, laid := [("notary/sha.words", laid_notary_sha_words)] }
def McheckHonestSaid : Prop := mcheckHonestRow.holds Tryd.pinned (OpenSpec.ofChange mcheckHonestSpec)

/-- ITS FALSE NEIGHBOUR: 'it returns false'. Refute it at one input. -/
def mcheckHonestWrong : ChangeSpec := { name := "mcheckHonest", fn := fun _ => fun
  | [d1, d2, d3, d4] => { results := [.lit (.bool false)], args := [d1, d2, d3, d4] }
  | _ => none }
def McheckHonestWrongFalsely : Prop := mcheckHonestRow.holds Tryd.pinned (OpenSpec.ofChange mcheckHonestWrong)

/-- 'notarytop.WholeCounts': WHATEVER THE INPUT: true; the input reads as it did. -/
def wholeCountsSpec : ChangeSpec := { name := "wholeCounts", fn := fun _ => fun
  | [d1, d2, d3, d4] => { results := [.lit (.bool true)], args := [d1, d2, d3, d4] }
  | _ => none }
def wholeCountsRow : OpenClaim := { program := "ytcdponddgnkecaadoor", sum := "48a8ba96c32161a92f5f3e0552ae357a8fcbc8731e5c01a0e9394cd49c85f3ae", func := "notary/notarytop.WholeCounts", spec := "wholeCounts", unfollowed := true, recurses := true, named := ["notary/sha.words"], apart := false, laid := [("notary/sha.words", laid_notary_sha_words)] }
def WholeCountsSaid : Prop := wholeCountsRow.holds Tryd.pinned (OpenSpec.ofChange wholeCountsSpec)

/-- ITS FALSE NEIGHBOUR: 'it returns false'. Refute it at one input. -/
def wholeCountsWrong : ChangeSpec := { name := "wholeCounts", fn := fun _ => fun
  | [d1, d2, d3, d4] => { results := [.lit (.bool false)], args := [d1, d2, d3, d4] }
  | _ => none }
def WholeCountsWrongFalsely : Prop := wholeCountsRow.holds Tryd.pinned (OpenSpec.ofChange wholeCountsWrong)

/-- 'notarytop.WholeIncluded': WHATEVER THE INPUT: true; the input reads as it did. -/
def wholeIncludedSpec : ChangeSpec := { name := "wholeIncluded", fn := fun _ => fun
  | [d1, d2, d3, d4, d5] => { results := [.lit (.bool true)], args := [d1, d2, d3, d4, d5] }
  | _ => none }
def wholeIncludedRow : OpenClaim := { program := "ytcdponddgnkecaadoor", sum := "48a8ba96c32161a92f5f3e0552ae357a8fcbc8731e5c01a0e9394cd49c85f3ae", func := "notary/notarytop.WholeIncluded", spec := "wholeIncluded", unfollowed := true, recurses := true, named := ["notary/sha.words"], apart := false, laid := [("notary/sha.words", laid_notary_sha_words)] }
def WholeIncludedSaid : Prop := wholeIncludedRow.holds Tryd.pinned (OpenSpec.ofChange wholeIncludedSpec)

/-- ITS FALSE NEIGHBOUR: 'it returns false'. Refute it at one input. -/
def wholeIncludedWrong : ChangeSpec := { name := "wholeIncluded", fn := fun _ => fun
  | [d1, d2, d3, d4, d5] => { results := [.lit (.bool false)], args := [d1, d2, d3, d4, d5] }
  | _ => none }
def WholeIncludedWrongFalsely : Prop := wholeIncludedRow.holds Tryd.pinned (OpenSpec.ofChange wholeIncludedWrong)

/- THE SECOND FORM. 'bulk': how many values and letters a reading holds, each counted each time it is reached (what is shared counts as often as it is met; a slice's spare places count too). A statement '..UptoSaid' is the law's where the arguments, and the package variables that the reading takes, are together of bulk at most 1048576: NARROWER than '..Said'. Prove '..Said' where nothing that the law and all that it calls make is longer than what came in: it says more and counts as full. Else prove '..UptoSaid'. A law counts once. -/
mutual
def uptoBulk {H : Type} : DataW H → Nat
  | .lit (.string bytes) => bytes.length + 1
  | .lit _ => 1
  | .nil => 1
  | .ptr d => uptoBulk d + 1
  | .slice elems spare => uptoBulkAll elems + uptoBulkAll spare + 1
  | .agg parts => uptoBulkAll parts + 1
  | .iface _ d => uptoBulk d + 1
  | .map entries => uptoBulkEntries entries + 1
  | .held _ => 1
def uptoBulkAll {H : Type} : List (DataW H) → Nat
  | [] => 0
  | d :: r => uptoBulk d + uptoBulkAll r
def uptoBulkEntries {H : Type} : List (Lit × DataW H) → Nat
  | [] => 0
  | x :: r => uptoBulkEntry x + uptoBulkEntries r
def uptoBulkEntry {H : Type} : Lit × DataW H → Nat
  | (.string bytes, d) => bytes.length + uptoBulk d + 1
  | (_, d) => uptoBulk d + 1
 end
def uptoSmall : (H : Type) → List (DataW H) → Bool := fun _ ds => decide (uptoBulkAll ds ≤ 1048576)
def OpenSpec.upto (s : _root_.Go.ChangeSpec) : _root_.Go.OpenSpec := { _root_.Go.OpenSpec.ofChange s with cond := some uptoSmall }

/-- 'notarylaw11.MproofInclusions', WHERE WHAT IT READS IS OF BULK AT MOST 1048576: true; the input reads as it did. -/
def mproofInclusionsUptoRow : OpenClaim := { program := "ytcdponddgnkecaadoor", sum := "48a8ba96c32161a92f5f3e0552ae357a8fcbc8731e5c01a0e9394cd49c85f3ae", func := "notary/notarylaw11.MproofInclusions", spec := "mproofInclusions", unfollowed := true, recurses := true, named := ["notary/sha.words"], apart := false, laid := [("notary/sha.words", laid_notary_sha_words)], narrowed := true }
def MproofInclusionsUptoSaid : Prop := mproofInclusionsUptoRow.holds Tryd.pinned (OpenSpec.upto mproofInclusionsSpec)

/-- 'notarylaw11.MproofConsistencies', WHERE WHAT IT READS IS OF BULK AT MOST 1048576: true; the input reads as it did. -/
def mproofConsistenciesUptoRow : OpenClaim := { program := "ytcdponddgnkecaadoor", sum := "48a8ba96c32161a92f5f3e0552ae357a8fcbc8731e5c01a0e9394cd49c85f3ae", func := "notary/notarylaw11.MproofConsistencies", spec := "mproofConsistencies", unfollowed := true, recurses := true, named := ["notary/sha.words"], apart := false, laid := [("notary/sha.words", laid_notary_sha_words)], narrowed := true }
def MproofConsistenciesUptoSaid : Prop := mproofConsistenciesUptoRow.holds Tryd.pinned (OpenSpec.upto mproofConsistenciesSpec)

/-- 'notarylaw11.MproofCounts', WHERE WHAT IT READS IS OF BULK AT MOST 1048576: true; the input reads as it did. -/
def mproofCountsUptoRow : OpenClaim := { program := "ytcdponddgnkecaadoor", sum := "48a8ba96c32161a92f5f3e0552ae357a8fcbc8731e5c01a0e9394cd49c85f3ae", func := "notary/notarylaw11.MproofCounts", spec := "mproofCounts", unfollowed := true, recurses := true, named := ["notary/sha.words"], apart := false, laid := [("notary/sha.words", laid_notary_sha_words)], narrowed := true }
def MproofCountsUptoSaid : Prop := mproofCountsUptoRow.holds Tryd.pinned (OpenSpec.upto mproofCountsSpec)

/-- 'notarylaw11.MproofFixed', WHERE WHAT IT READS IS OF BULK AT MOST 1048576: true; the input reads as it did. -/
def mproofFixedUptoRow : OpenClaim := { program := "ytcdponddgnkecaadoor", sum := "48a8ba96c32161a92f5f3e0552ae357a8fcbc8731e5c01a0e9394cd49c85f3ae", func := "notary/notarylaw11.MproofFixed", spec := "mproofFixed", unfollowed := true, recurses := true, named := ["notary/sha.words"], apart := false, laid := [("notary/sha.words", laid_notary_sha_words)], narrowed := true }
def MproofFixedUptoSaid : Prop := mproofFixedUptoRow.holds Tryd.pinned (OpenSpec.upto mproofFixedSpec)

/-- 'notarylaw11.MproofPast', WHERE WHAT IT READS IS OF BULK AT MOST 1048576: true; the input reads as it did. -/
def mproofPastUptoRow : OpenClaim := { program := "ytcdponddgnkecaadoor", sum := "48a8ba96c32161a92f5f3e0552ae357a8fcbc8731e5c01a0e9394cd49c85f3ae", func := "notary/notarylaw11.MproofPast", spec := "mproofPast", unfollowed := true, recurses := true, named := ["notary/sha.words"], apart := false, laid := [("notary/sha.words", laid_notary_sha_words)], narrowed := true }
def MproofPastUptoSaid : Prop := mproofPastUptoRow.holds Tryd.pinned (OpenSpec.upto mproofPastSpec)

/-- 'notarylaw11.MproofSince', WHERE WHAT IT READS IS OF BULK AT MOST 1048576: true; the input reads as it did. -/
def mproofSinceUptoRow : OpenClaim := { program := "ytcdponddgnkecaadoor", sum := "48a8ba96c32161a92f5f3e0552ae357a8fcbc8731e5c01a0e9394cd49c85f3ae", func := "notary/notarylaw11.MproofSince", spec := "mproofSince", unfollowed := true, recurses := true, named := ["notary/sha.words"], apart := false, laid := [("notary/sha.words", laid_notary_sha_words)], narrowed := true }
def MproofSinceUptoSaid : Prop := mproofSinceUptoRow.holds Tryd.pinned (OpenSpec.upto mproofSinceSpec)

/-- 'notarylaw11.MproofMemory', WHERE WHAT IT READS IS OF BULK AT MOST 1048576: true; the input reads as it did. -/
def mproofMemoryUptoRow : OpenClaim := { program := "ytcdponddgnkecaadoor", sum := "48a8ba96c32161a92f5f3e0552ae357a8fcbc8731e5c01a0e9394cd49c85f3ae", func := "notary/notarylaw11.MproofMemory", spec := "mproofMemory", unfollowed := true, recurses := true, named := ["notary/sha.words"], apart := false, laid := [("notary/sha.words", laid_notary_sha_words)], narrowed := true }
def MproofMemoryUptoSaid : Prop := mproofMemoryUptoRow.holds Tryd.pinned (OpenSpec.upto mproofMemorySpec)

/-- 'notarylaw11.MproofFolds', WHERE WHAT IT READS IS OF BULK AT MOST 1048576: true; the input reads as it did. -/
def mproofFoldsUptoRow : OpenClaim := { program := "ytcdponddgnkecaadoor", sum := "48a8ba96c32161a92f5f3e0552ae357a8fcbc8731e5c01a0e9394cd49c85f3ae", func := "notary/notarylaw11.MproofFolds", spec := "mproofFolds", unfollowed := true, recurses := true, named := ["notary/sha.words"], apart := false, laid := [("notary/sha.words", laid_notary_sha_words)], narrowed := true }
def MproofFoldsUptoSaid : Prop := mproofFoldsUptoRow.holds Tryd.pinned (OpenSpec.upto mproofFoldsSpec)

/-- 'notarylaw12.McheckHonest', WHERE WHAT IT READS IS OF BULK AT MOST 1048576: true; the input reads as it did. -/
def mcheckHonestUptoRow : OpenClaim := { program := "ytcdponddgnkecaadoor", sum := "48a8ba96c32161a92f5f3e0552ae357a8fcbc8731e5c01a0e9394cd49c85f3ae", func := "notary/notarylaw12.McheckHonest", spec := "mcheckHonest", unfollowed := true, recurses := true, named := ["notary/sha.words"], apart := false, laid := [("notary/sha.words", laid_notary_sha_words)], narrowed := true }
def McheckHonestUptoSaid : Prop := mcheckHonestUptoRow.holds Tryd.pinned (OpenSpec.upto mcheckHonestSpec)

/-- 'notarytop.WholeCounts', WHERE WHAT IT READS IS OF BULK AT MOST 1048576: true; the input reads as it did. -/
def wholeCountsUptoRow : OpenClaim := { program := "ytcdponddgnkecaadoor", sum := "48a8ba96c32161a92f5f3e0552ae357a8fcbc8731e5c01a0e9394cd49c85f3ae", func := "notary/notarytop.WholeCounts", spec := "wholeCounts", unfollowed := true, recurses := true, named := ["notary/sha.words"], apart := false, laid := [("notary/sha.words", laid_notary_sha_words)], narrowed := true }
def WholeCountsUptoSaid : Prop := wholeCountsUptoRow.holds Tryd.pinned (OpenSpec.upto wholeCountsSpec)

/-- 'notarytop.WholeIncluded', WHERE WHAT IT READS IS OF BULK AT MOST 1048576: true; the input reads as it did. -/
def wholeIncludedUptoRow : OpenClaim := { program := "ytcdponddgnkecaadoor", sum := "48a8ba96c32161a92f5f3e0552ae357a8fcbc8731e5c01a0e9394cd49c85f3ae", func := "notary/notarytop.WholeIncluded", spec := "wholeIncluded", unfollowed := true, recurses := true, named := ["notary/sha.words"], apart := false, laid := [("notary/sha.words", laid_notary_sha_words)], narrowed := true }
def WholeIncludedUptoSaid : Prop := wholeIncludedUptoRow.holds Tryd.pinned (OpenSpec.upto wholeIncludedSpec)

end Rows
end Go.Proofs.YtcdponddgnkecaaDoor
