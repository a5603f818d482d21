/-
  NARROWER THAN 'FOR EVERY INPUT', by the rows' own cells (each row's printed sentence says how): MtreeGrows: laid · MtreeRanges: laid · MtreeEmpty: laid · MtreeKeeps: laid · MtreeSplits: laid · MtreeAnyhow: laid · MtreeForks: laid · MtreeBinds: laid · WholeTree: laid.
  DERIVED. THE GIVEN ROWS OF THIS SEAT. 9 by the template 'for every input the law returns true; each argument reads behind the call as it read before'; 0 by the template 'total and deterministic' (their statements: YtcappcjogcekkaaDoorTotals.lean).
  GIVEN WITH THE SEED: the statements are not yours to turn. If you find one false, say at which input.
  Laid BY PROGRAM, IN A SANDBOX (cutbox-rows.mjs): the forced cells as the released guide's own fill.sh prints them over the translation 213d25e872b54ab6… (all of the seat's roots in one cut). By AI agents, Wed Nov 11 2026. No macro, syntax, notation, axiom, sorry.
-/
import Derived.Test.YtcappcjogcekkaaDoorChecked
import GoSem.Claim
import GoSem.ClaimJoined
import GoSem.ClaimMapViews
import Derived.JoinedTies
import Derived.KernelRfl
namespace Go.Proofs.YtcappcjogcekkaaDoor
/- THE CELL 'sum', in the pinned program and in every row, IS THE sha256 OF THE DUMP (.gsa) THAT YtcappcjogcekkaaDoorProg.lean LOADS. Nothing in Lean hashes anything: it is a label: what it is worth is what the hold of that sum in a sandbox is worth. -/
noncomputable def Tryd.pinned : Pinned := { name := "ytcappcjogcekkaadoor", sum := "213d25e872b54ab6a29e5d66d27bba49a3cefa4dcbfad9c72b6167b523e09b29", checked := Tryd.checked }
namespace Rows
def none {H : Type} : Left H := { results := [], args := [] }

/- WHAT THE LISTED PACKAGE-LEVEL VARIABLES READ AS WHEN THE CALL BEGINS. Each datum BY PROGRAM (the guide's laid-datum.mjs) off the statement by which the dump's own 'gosem.cut.vars' lays the variable. In a bare row this is a premise. The card (YtcappcjogcekkaaDoorCards.lean) ties it to the program's text. -/
def laid_notary_sha_words {H : Type} : DataW H := .agg [.lit (.int .u32 1116352408), .lit (.int .u32 1899447441), .lit (.int .u32 3049323471), .lit (.int .u32 3921009573), .lit (.int .u32 961987163), .lit (.int .u32 1508970993), .lit (.int .u32 2453635748), .lit (.int .u32 2870763221), .lit (.int .u32 3624381080), .lit (.int .u32 310598401), .lit (.int .u32 607225278), .lit (.int .u32 1426881987), .lit (.int .u32 1925078388), .lit (.int .u32 2162078206), .lit (.int .u32 2614888103), .lit (.int .u32 3248222580), .lit (.int .u32 3835390401), .lit (.int .u32 4022224774), .lit (.int .u32 264347078), .lit (.int .u32 604807628), .lit (.int .u32 770255983), .lit (.int .u32 1249150122), .lit (.int .u32 1555081692), .lit (.int .u32 1996064986), .lit (.int .u32 2554220882), .lit (.int .u32 2821834349), .lit (.int .u32 2952996808), .lit (.int .u32 3210313671), .lit (.int .u32 3336571891), .lit (.int .u32 3584528711), .lit (.int .u32 113926993), .lit (.int .u32 338241895), .lit (.int .u32 666307205), .lit (.int .u32 773529912), .lit (.int .u32 1294757372), .lit (.int .u32 1396182291), .lit (.int .u32 1695183700), .lit (.int .u32 1986661051), .lit (.int .u32 2177026350), .lit (.int .u32 2456956037), .lit (.int .u32 2730485921), .lit (.int .u32 2820302411), .lit (.int .u32 3259730800), .lit (.int .u32 3345764771), .lit (.int .u32 3516065817), .lit (.int .u32 3600352804), .lit (.int .u32 4094571909), .lit (.int .u32 275423344), .lit (.int .u32 430227734), .lit (.int .u32 506948616), .lit (.int .u32 659060556), .lit (.int .u32 883997877), .lit (.int .u32 958139571), .lit (.int .u32 1322822218), .lit (.int .u32 1537002063), .lit (.int .u32 1747873779), .lit (.int .u32 1955562222), .lit (.int .u32 2024104815), .lit (.int .u32 2227730452), .lit (.int .u32 2361852424), .lit (.int .u32 2428436474), .lit (.int .u32 2756734187), .lit (.int .u32 3204031479), .lit (.int .u32 3329325298)]

/-- 'notarylaw10.MtreeGrows': WHATEVER THE INPUT: true; the input reads as it did. -/
def mtreeGrowsSpec : ChangeSpec := { name := "mtreeGrows", fn := fun _ => fun
  | [d1, d2] => { results := [.lit (.bool true)], args := [d1, d2] }
  | _ => none }
def mtreeGrowsRow : OpenClaim := { program := "ytcappcjogcekkaadoor", sum := "213d25e872b54ab6a29e5d66d27bba49a3cefa4dcbfad9c72b6167b523e09b29", func := "notary/notarylaw10.MtreeGrows", spec := "mtreeGrows", unfollowed := true, recurses := true, named := ["notary/sha.words"], apart := false, laid := [("notary/sha.words", laid_notary_sha_words)] }
def MtreeGrowsSaid : Prop := mtreeGrowsRow.holds Tryd.pinned (OpenSpec.ofChange mtreeGrowsSpec)

/-- ITS FALSE NEIGHBOUR: 'it returns false'. Refute it at one input. -/
def mtreeGrowsWrong : ChangeSpec := { name := "mtreeGrows", fn := fun _ => fun
  | [d1, d2] => { results := [.lit (.bool false)], args := [d1, d2] }
  | _ => none }
def MtreeGrowsWrongFalsely : Prop := mtreeGrowsRow.holds Tryd.pinned (OpenSpec.ofChange mtreeGrowsWrong)

/-- 'notarylaw10.MtreeRanges': WHATEVER THE INPUT: true; the input reads as it did. -/
def mtreeRangesSpec : ChangeSpec := { name := "mtreeRanges", fn := fun _ => fun
  | [d1, d2, d3] => { results := [.lit (.bool true)], args := [d1, d2, d3] }
  | _ => none }
def mtreeRangesRow : OpenClaim := { program := "ytcappcjogcekkaadoor", sum := "213d25e872b54ab6a29e5d66d27bba49a3cefa4dcbfad9c72b6167b523e09b29", func := "notary/notarylaw10.MtreeRanges", spec := "mtreeRanges", unfollowed := true, recurses := true, named := ["notary/sha.words"], apart := false, laid := [("notary/sha.words", laid_notary_sha_words)] }
def MtreeRangesSaid : Prop := mtreeRangesRow.holds Tryd.pinned (OpenSpec.ofChange mtreeRangesSpec)

/-- ITS FALSE NEIGHBOUR: 'it returns false'. Refute it at one input. -/
def mtreeRangesWrong : ChangeSpec := { name := "mtreeRanges", fn := fun _ => fun
  | [d1, d2, d3] => { results := [.lit (.bool false)], args := [d1, d2, d3] }
  | _ => none }
def MtreeRangesWrongFalsely : Prop := mtreeRangesRow.holds Tryd.pinned (OpenSpec.ofChange mtreeRangesWrong)

/-- 'notarylaw10.MtreeEmpty': WHATEVER THE INPUT: true; the input reads as it did. -/
def mtreeEmptySpec : ChangeSpec := { name := "mtreeEmpty", fn := fun _ => fun
  | [d1, d2, d3] => { results := [.lit (.bool true)], args := [d1, d2, d3] }
  | _ => none }
def mtreeEmptyRow : OpenClaim := { program := "ytcappcjogcekkaadoor", sum := "213d25e872b54ab6a29e5d66d27bba49a3cefa4dcbfad9c72b6167b523e09b29", func := "notary/notarylaw10.MtreeEmpty", spec := "mtreeEmpty", unfollowed := true, recurses := true, named := ["notary/sha.words"], apart := false, laid := [("notary/sha.words", laid_notary_sha_words)] }
def MtreeEmptySaid : Prop := mtreeEmptyRow.holds Tryd.pinned (OpenSpec.ofChange mtreeEmptySpec)

/-- ITS FALSE NEIGHBOUR: 'it returns false'. Refute it at one input. -/
def mtreeEmptyWrong : ChangeSpec := { name := "mtreeEmpty", fn := fun _ => fun
  | [d1, d2, d3] => { results := [.lit (.bool false)], args := [d1, d2, d3] }
  | _ => none }
def MtreeEmptyWrongFalsely : Prop := mtreeEmptyRow.holds Tryd.pinned (OpenSpec.ofChange mtreeEmptyWrong)

/-- 'notarylaw10.MtreeKeeps': WHATEVER THE INPUT: true; the input reads as it did. -/
def mtreeKeepsSpec : ChangeSpec := { name := "mtreeKeeps", fn := fun _ => fun
  | [d1, d2, d3] => { results := [.lit (.bool true)], args := [d1, d2, d3] }
  | _ => none }
def mtreeKeepsRow : OpenClaim := { program := "ytcappcjogcekkaadoor", sum := "213d25e872b54ab6a29e5d66d27bba49a3cefa4dcbfad9c72b6167b523e09b29", func := "notary/notarylaw10.MtreeKeeps", spec := "mtreeKeeps", unfollowed := true, recurses := true, named := ["notary/sha.words"], apart := false, laid := [("notary/sha.words", laid_notary_sha_words)] }
def MtreeKeepsSaid : Prop := mtreeKeepsRow.holds Tryd.pinned (OpenSpec.ofChange mtreeKeepsSpec)

/-- ITS FALSE NEIGHBOUR: 'it returns false'. Refute it at one input. -/
def mtreeKeepsWrong : ChangeSpec := { name := "mtreeKeeps", fn := fun _ => fun
  | [d1, d2, d3] => { results := [.lit (.bool false)], args := [d1, d2, d3] }
  | _ => none }
def MtreeKeepsWrongFalsely : Prop := mtreeKeepsRow.holds Tryd.pinned (OpenSpec.ofChange mtreeKeepsWrong)

/-- 'notarylaw10.MtreeSplits': WHATEVER THE INPUT: true; the input reads as it did. -/
def mtreeSplitsSpec : ChangeSpec := { name := "mtreeSplits", fn := fun _ => fun
  | [d1, d2, d3] => { results := [.lit (.bool true)], args := [d1, d2, d3] }
  | _ => none }
def mtreeSplitsRow : OpenClaim := { program := "ytcappcjogcekkaadoor", sum := "213d25e872b54ab6a29e5d66d27bba49a3cefa4dcbfad9c72b6167b523e09b29", func := "notary/notarylaw10.MtreeSplits", spec := "mtreeSplits", unfollowed := true, recurses := true, named := ["notary/sha.words"], apart := false, laid := [("notary/sha.words", laid_notary_sha_words)] }
def MtreeSplitsSaid : Prop := mtreeSplitsRow.holds Tryd.pinned (OpenSpec.ofChange mtreeSplitsSpec)

/-- ITS FALSE NEIGHBOUR: 'it returns false'. Refute it at one input. -/
def mtreeSplitsWrong : ChangeSpec := { name := "mtreeSplits", fn := fun _ => fun
  | [d1, d2, d3] => { results := [.lit (.bool false)], args := [d1, d2, d3] }
  | _ => none }
def MtreeSplitsWrongFalsely : Prop := mtreeSplitsRow.holds Tryd.pinned (OpenSpec.ofChange mtreeSplitsWrong)

/-- 'notarylaw10.MtreeAnyhow': WHATEVER THE INPUT: true; the input reads as it did. -/
def mtreeAnyhowSpec : ChangeSpec := { name := "mtreeAnyhow", fn := fun _ => fun
  | [d1, d2, d3] => { results := [.lit (.bool true)], args := [d1, d2, d3] }
  | _ => none }
def mtreeAnyhowRow : OpenClaim := { program := "ytcappcjogcekkaadoor", sum := "213d25e872b54ab6a29e5d66d27bba49a3cefa4dcbfad9c72b6167b523e09b29", func := "notary/notarylaw10.MtreeAnyhow", spec := "mtreeAnyhow", unfollowed := true, recurses := true, named := ["notary/sha.words"], apart := false, laid := [("notary/sha.words", laid_notary_sha_words)] }
def MtreeAnyhowSaid : Prop := mtreeAnyhowRow.holds Tryd.pinned (OpenSpec.ofChange mtreeAnyhowSpec)

/-- ITS FALSE NEIGHBOUR: 'it returns false'. Refute it at one input. -/
def mtreeAnyhowWrong : ChangeSpec := { name := "mtreeAnyhow", fn := fun _ => fun
  | [d1, d2, d3] => { results := [.lit (.bool false)], args := [d1, d2, d3] }
  | _ => none }
def MtreeAnyhowWrongFalsely : Prop := mtreeAnyhowRow.holds Tryd.pinned (OpenSpec.ofChange mtreeAnyhowWrong)

/-- 'notarylaw10.MtreeForks': WHATEVER THE INPUT: true; the input reads as it did. -/
def mtreeForksSpec : ChangeSpec := { name := "mtreeForks", fn := fun _ => fun
  | [d1, d2, d3, d4] => { results := [.lit (.bool true)], args := [d1, d2, d3, d4] }
  | _ => none }
def mtreeForksRow : OpenClaim := { program := "ytcappcjogcekkaadoor", sum := "213d25e872b54ab6a29e5d66d27bba49a3cefa4dcbfad9c72b6167b523e09b29", func := "notary/notarylaw10.MtreeForks", spec := "mtreeForks", unfollowed := true, recurses := true, named := ["notary/sha.words"], apart := false, laid := [("notary/sha.words", laid_notary_sha_words)] }
def MtreeForksSaid : Prop := mtreeForksRow.holds Tryd.pinned (OpenSpec.ofChange mtreeForksSpec)

/-- ITS FALSE NEIGHBOUR: 'it returns false'. Refute it at one input. -/
def mtreeForksWrong : ChangeSpec := { name := "mtreeForks", fn := fun _ => fun
  | [d1, d2, d3, d4] => { results := [.lit (.bool false)], args := [d1, d2, d3, d4] }
  | _ => none }
def MtreeForksWrongFalsely : Prop := mtreeForksRow.holds Tryd.pinned (OpenSpec.ofChange mtreeForksWrong)

/-- 'notarylaw10.MtreeBinds': WHATEVER THE INPUT: true; the input reads as it did. -/
def mtreeBindsSpec : ChangeSpec := { name := "mtreeBinds", fn := fun _ => fun
  | [d1, d2, d3] => { results := [.lit (.bool true)], args := [d1, d2, d3] }
  | _ => none }
def mtreeBindsRow : OpenClaim := { program := "ytcappcjogcekkaadoor", sum := "213d25e872b54ab6a29e5d66d27bba49a3cefa4dcbfad9c72b6167b523e09b29", func := "notary/notarylaw10.MtreeBinds", spec := "mtreeBinds", unfollowed := true, recurses := true, named := ["notary/sha.words"], apart := false, laid := [("notary/sha.words", laid_notary_sha_words)] }
def MtreeBindsSaid : Prop := mtreeBindsRow.holds Tryd.pinned (OpenSpec.ofChange mtreeBindsSpec)

/-- ITS FALSE NEIGHBOUR: 'it returns false'. Refute it at one input. -/
def mtreeBindsWrong : ChangeSpec := { name := "mtreeBinds", fn := fun _ => fun
  | [d1, d2, d3] => { results := [.lit (.bool false)], args := [d1, d2, d3] }
  | _ => none }
def MtreeBindsWrongFalsely : Prop := mtreeBindsRow.holds Tryd.pinned (OpenSpec.ofChange mtreeBindsWrong)

/-- 'notarytop.WholeTree': WHATEVER THE INPUT: true; the input reads as it did. -/
def wholeTreeSpec : ChangeSpec := { name := "wholeTree", fn := fun _ => fun
  | [d1, d2, d3, d4, d5] => { results := [.lit (.bool true)], args := [d1, d2, d3, d4, d5] }
  | _ => none }
def wholeTreeRow : OpenClaim := { program := "ytcappcjogcekkaadoor", sum := "213d25e872b54ab6a29e5d66d27bba49a3cefa4dcbfad9c72b6167b523e09b29", func := "notary/notarytop.WholeTree", spec := "wholeTree", unfollowed := true, recurses := true, named := ["notary/sha.words"], apart := false, laid := [("notary/sha.words", laid_notary_sha_words)] }
def WholeTreeSaid : Prop := wholeTreeRow.holds Tryd.pinned (OpenSpec.ofChange wholeTreeSpec)

/-- ITS FALSE NEIGHBOUR: 'it returns false'. Refute it at one input. -/
def wholeTreeWrong : ChangeSpec := { name := "wholeTree", fn := fun _ => fun
  | [d1, d2, d3, d4, d5] => { results := [.lit (.bool false)], args := [d1, d2, d3, d4, d5] }
  | _ => none }
def WholeTreeWrongFalsely : Prop := wholeTreeRow.holds Tryd.pinned (OpenSpec.ofChange wholeTreeWrong)

/- THE SECOND FORM. 'bulk': how many values and letters a reading holds, each counted each time it is reached (what is shared counts as often as it is met; a slice's spare places count too). A statement '..UptoSaid' is the law's where the arguments, and the package variables that the reading takes, are together of bulk at most 1048576: NARROWER than '..Said'. Prove '..Said' where nothing that the law and all that it calls make is longer than what came in: it says more and counts as full. Else prove '..UptoSaid'. A law counts once. -/
mutual
def uptoBulk {H : Type} : DataW H → Nat
  | .lit (.string bytes) => bytes.length + 1
  | .lit _ => 1
  | .nil => 1
  | .ptr d => uptoBulk d + 1
  | .slice elems spare => uptoBulkAll elems + uptoBulkAll spare + 1
  | .agg parts => uptoBulkAll parts + 1
  | .iface _ d => uptoBulk d + 1
  | .map entries => uptoBulkEntries entries + 1
  | .held _ => 1
def uptoBulkAll {H : Type} : List (DataW H) → Nat
  | [] => 0
  | d :: r => uptoBulk d + uptoBulkAll r
def uptoBulkEntries {H : Type} : List (Lit × DataW H) → Nat
  | [] => 0
  | x :: r => uptoBulkEntry x + uptoBulkEntries r
def uptoBulkEntry {H : Type} : Lit × DataW H → Nat
  | (.string bytes, d) => bytes.length + uptoBulk d + 1
  | (_, d) => uptoBulk d + 1
 end
def uptoSmall : (H : Type) → List (DataW H) → Bool := fun _ ds => decide (uptoBulkAll ds ≤ 1048576)
def OpenSpec.upto (s : _root_.Go.ChangeSpec) : _root_.Go.OpenSpec := { _root_.Go.OpenSpec.ofChange s with cond := some uptoSmall }

/-- 'notarylaw10.MtreeGrows', WHERE WHAT IT READS IS OF BULK AT MOST 1048576: true; the input reads as it did. -/
def mtreeGrowsUptoRow : OpenClaim := { program := "ytcappcjogcekkaadoor", sum := "213d25e872b54ab6a29e5d66d27bba49a3cefa4dcbfad9c72b6167b523e09b29", func := "notary/notarylaw10.MtreeGrows", spec := "mtreeGrows", unfollowed := true, recurses := true, named := ["notary/sha.words"], apart := false, laid := [("notary/sha.words", laid_notary_sha_words)], narrowed := true }
def MtreeGrowsUptoSaid : Prop := mtreeGrowsUptoRow.holds Tryd.pinned (OpenSpec.upto mtreeGrowsSpec)

/-- 'notarylaw10.MtreeRanges', WHERE WHAT IT READS IS OF BULK AT MOST 1048576: true; the input reads as it did. -/
def mtreeRangesUptoRow : OpenClaim := { program := "ytcappcjogcekkaadoor", sum := "213d25e872b54ab6a29e5d66d27bba49a3cefa4dcbfad9c72b6167b523e09b29", func := "notary/notarylaw10.MtreeRanges", spec := "mtreeRanges", unfollowed := true, recurses := true, named := ["notary/sha.words"], apart := false, laid := [("notary/sha.words", laid_notary_sha_words)], narrowed := true }
def MtreeRangesUptoSaid : Prop := mtreeRangesUptoRow.holds Tryd.pinned (OpenSpec.upto mtreeRangesSpec)

/-- 'notarylaw10.MtreeEmpty', WHERE WHAT IT READS IS OF BULK AT MOST 1048576: true; the input reads as it did. -/
def mtreeEmptyUptoRow : OpenClaim := { program := "ytcappcjogcekkaadoor", sum := "213d25e872b54ab6a29e5d66d27bba49a3cefa4dcbfad9c72b6167b523e09b29", func := "notary/notarylaw10.MtreeEmpty", spec := "mtreeEmpty", unfollowed := true, recurses := true, named := ["notary/sha.words"], apart := false, laid := [("notary/sha.words", laid_notary_sha_words)], narrowed := true }
def MtreeEmptyUptoSaid : Prop := mtreeEmptyUptoRow.holds Tryd.pinned (OpenSpec.upto mtreeEmptySpec)

/-- 'notarylaw10.MtreeKeeps', WHERE WHAT IT READS IS OF BULK AT MOST 1048576: true; the input reads as it did. -/
def mtreeKeepsUptoRow : OpenClaim := { program := "ytcappcjogcekkaadoor", sum := "213d25e872b54ab6a29e5d66d27bba49a3cefa4dcbfad9c72b6167b523e09b29", func := "notary/notarylaw10.MtreeKeeps", spec := "mtreeKeeps", unfollowed := true, recurses := true, named := ["notary/sha.words"], apart := false, laid := [("notary/sha.words", laid_notary_sha_words)], narrowed := true }
def MtreeKeepsUptoSaid : Prop := mtreeKeepsUptoRow.holds Tryd.pinned (OpenSpec.upto mtreeKeepsSpec)

/-- 'notarylaw10.MtreeSplits', WHERE WHAT IT READS IS OF BULK AT MOST 1048576: true; the input reads as it did. -/
def mtreeSplitsUptoRow : OpenClaim := { program := "ytcappcjogcekkaadoor", sum := "213d25e872b54ab6a29e5d66d27bba49a3cefa4dcbfad9c72b6167b523e09b29", func := "notary/notarylaw10.MtreeSplits", spec := "mtreeSplits", unfollowed := true, recurses := true, named := ["notary/sha.words"], apart := false, laid := [("notary/sha.words", laid_notary_sha_words)], narrowed := true }
def MtreeSplitsUptoSaid : Prop := mtreeSplitsUptoRow.holds Tryd.pinned (OpenSpec.upto mtreeSplitsSpec)

/-- 'notarylaw10.MtreeAnyhow', WHERE WHAT IT READS IS OF BULK AT MOST 1048576: true; the input reads as it did. -/
def mtreeAnyhowUptoRow : OpenClaim := { program := "ytcappcjogcekkaadoor", sum := "213d25e872b54ab6a29e5d66d27bba49a3cefa4dcbfad9c72b6167b523e09b29", func := "notary/notarylaw10.MtreeAnyhow", spec := "mtreeAnyhow", unfollowed := true, recurses := true, named := ["notary/sha.words"], apart := false, laid := [("notary/sha.words", laid_notary_sha_words)], narrowed := true }
def MtreeAnyhowUptoSaid : Prop := mtreeAnyhowUptoRow.holds Tryd.pinned (OpenSpec.upto mtreeAnyhowSpec)

/-- 'notarylaw10.MtreeForks', WHERE WHAT IT READS IS OF BULK AT MOST 1048576: true; the input reads as it did. -/
def mtreeForksUptoRow : OpenClaim := { program := "ytcappcjogcekkaadoor", sum := "213d25e872b54ab6a29e5d66d27bba49a3cefa4dcbfad9c72b6167b523e09b29", func := "notary/notarylaw10.MtreeForks", spec := "mtreeForks", unfollowed := true, recurses := true, named := ["notary/sha.words"], apart := false, laid := [("notary/sha.words", laid_notary_sha_words)], narrowed := true }
def MtreeForksUptoSaid : Prop := mtreeForksUptoRow.holds Tryd.pinned (OpenSpec.upto mtreeForksSpec)

/-- 'notarylaw10.MtreeBinds', WHERE WHAT IT READS IS OF BULK AT MOST 1048576: true; the input reads as it did. -/
def mtreeBindsUptoRow : OpenClaim := { program := "ytcappcjogcekkaadoor", sum := "213d25e872b54ab6a29e5d66d27bba49a3cefa4dcbfad9c72b6167b523e09b29", func := "notary/notarylaw10.MtreeBinds", spec := "mtreeBinds", unfollowed := true, recurses := true, named := ["notary/sha.words"], apart := false, laid := [("notary/sha.words", laid_notary_sha_words)], narrowed := true }
def MtreeBindsUptoSaid : Prop := mtreeBindsUptoRow.holds Tryd.pinned (OpenSpec.upto mtreeBindsSpec)

/-- 'notarytop.WholeTree', WHERE WHAT IT READS IS OF BULK AT MOST 1048576: true; the input reads as it did. -/
def wholeTreeUptoRow : OpenClaim := { program := "ytcappcjogcekkaadoor", sum := "213d25e872b54ab6a29e5d66d27bba49a3cefa4dcbfad9c72b6167b523e09b29", func := "notary/notarytop.WholeTree", spec := "wholeTree", unfollowed := true, recurses := true, named := ["notary/sha.words"], apart := false, laid := [("notary/sha.words", laid_notary_sha_words)], narrowed := true }
def WholeTreeUptoSaid : Prop := wholeTreeUptoRow.holds Tryd.pinned (OpenSpec.upto wholeTreeSpec)

end Rows
end Go.Proofs.YtcappcjogcekkaaDoor
