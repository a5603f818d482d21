/-
  No cell of these rows narrows 'for every input' (looked for: loops, veiled, ifaces, maps, wideKeys, modest, calm, conditions, laid).
  DERIVED. THE GIVEN ROWS OF THIS SEAT. 9 by the template 'for every input the law returns true; each argument reads behind the call as it read before'; 0 by the template 'total and deterministic' (their statements: YtjiajflhfnmkmaaTotals.lean).
  GIVEN WITH THE SEED: the statements are not yours to turn. If you find one false, say at which input.
  Laid BY PROGRAM, IN A SANDBOX (cutbox-rows.mjs): the forced cells as the released guide's own fill.sh prints them over the translation 4e33e1c70fb82bab… (all of the seat's roots in one cut). By AI agents, Wed Nov 11 2026. No macro, syntax, notation, axiom, sorry.
-/
import Derived.Test.YtjiajflhfnmkmaaChecked
import GoSem.Claim
import GoSem.ClaimJoined
import GoSem.ClaimMapViews
import Derived.JoinedTies
import Derived.KernelRfl
namespace Go.Proofs.Ytjiajflhfnmkmaa
/- THE CELL 'sum', in the pinned program and in every row, IS THE sha256 OF THE DUMP (.gsa) THAT YtjiajflhfnmkmaaProg.lean LOADS. Nothing in Lean hashes anything: it is a label: what it is worth is what the hold of that sum in a sandbox is worth. -/
noncomputable def Try.pinned : Pinned := { name := "ytjiajflhfnmkmaa", sum := "4e33e1c70fb82babb334cd3193e788d188af81ba90a1f26728f3143259388428", checked := Try.checked }
namespace Rows
def none {H : Type} : Left H := { results := [], args := [] }

/-- 'notarylaw22.BatonPlays': WHATEVER THE INPUT: true; the input reads as it did. -/
def batonPlaysSpec : ChangeSpec := { name := "batonPlays", fn := fun _ => fun
  | [d1, d2, d3] => { results := [.lit (.bool true)], args := [d1, d2, d3] }
  | _ => none }
def batonPlaysRow : OpenClaim := { program := "ytjiajflhfnmkmaa", sum := "4e33e1c70fb82babb334cd3193e788d188af81ba90a1f26728f3143259388428", func := "notary/notarylaw22.BatonPlays", spec := "batonPlays", inPlace := ["(*sync.WaitGroup).Add", "internal/race.ReleaseMerge", "internal/race.Disable", "internal/race.Enable", "internal/synctest.IsInBubble", "internal/synctest.Associate[sync.WaitGroup]", "sync.fatal", "sync/atomic.OrUint64", "sync/atomic.AddUint64", "internal/race.Read", "sync/atomic.LoadUint64", "sync/atomic.StoreUint64", "internal/synctest.Disassociate[sync.WaitGroup]", "sync.runtime_Semrelease", "(*sync.WaitGroup).Done", "(*sync.WaitGroup).Wait", "internal/race.Acquire", "internal/synctest.IsAssociated[sync.WaitGroup]", "sync/atomic.CompareAndSwapUint64", "internal/race.Write", "sync.runtime_SemacquireWaitGroup"], unfollowed := true, recurses := true, leaving := true, apart := false }
def BatonPlaysSaid : Prop := batonPlaysRow.holds Try.pinned (OpenSpec.ofChange batonPlaysSpec)

/-- ITS FALSE NEIGHBOUR: 'it returns false'. Refute it at one input. -/
def batonPlaysWrong : ChangeSpec := { name := "batonPlays", fn := fun _ => fun
  | [d1, d2, d3] => { results := [.lit (.bool false)], args := [d1, d2, d3] }
  | _ => none }
def BatonPlaysWrongFalsely : Prop := batonPlaysRow.holds Try.pinned (OpenSpec.ofChange batonPlaysWrong)

/-- 'notarylaw22.BatonTwice': WHATEVER THE INPUT: true; the input reads as it did. -/
def batonTwiceSpec : ChangeSpec := { name := "batonTwice", fn := fun _ => fun
  | [d1, d2, d3] => { results := [.lit (.bool true)], args := [d1, d2, d3] }
  | _ => none }
def batonTwiceRow : OpenClaim := { program := "ytjiajflhfnmkmaa", sum := "4e33e1c70fb82babb334cd3193e788d188af81ba90a1f26728f3143259388428", func := "notary/notarylaw22.BatonTwice", spec := "batonTwice", inPlace := ["(*sync.WaitGroup).Add", "internal/race.ReleaseMerge", "internal/race.Disable", "internal/race.Enable", "internal/synctest.IsInBubble", "internal/synctest.Associate[sync.WaitGroup]", "sync.fatal", "sync/atomic.OrUint64", "sync/atomic.AddUint64", "internal/race.Read", "sync/atomic.LoadUint64", "sync/atomic.StoreUint64", "internal/synctest.Disassociate[sync.WaitGroup]", "sync.runtime_Semrelease", "(*sync.WaitGroup).Done", "(*sync.WaitGroup).Wait", "internal/race.Acquire", "internal/synctest.IsAssociated[sync.WaitGroup]", "sync/atomic.CompareAndSwapUint64", "internal/race.Write", "sync.runtime_SemacquireWaitGroup"], unfollowed := true, recurses := true, leaving := true, apart := false }
def BatonTwiceSaid : Prop := batonTwiceRow.holds Try.pinned (OpenSpec.ofChange batonTwiceSpec)

/-- ITS FALSE NEIGHBOUR: 'it returns false'. Refute it at one input. -/
def batonTwiceWrong : ChangeSpec := { name := "batonTwice", fn := fun _ => fun
  | [d1, d2, d3] => { results := [.lit (.bool false)], args := [d1, d2, d3] }
  | _ => none }
def BatonTwiceWrongFalsely : Prop := batonTwiceRow.holds Try.pinned (OpenSpec.ofChange batonTwiceWrong)

/-- 'notarylaw22.BatonOdd': WHATEVER THE INPUT: true; the input reads as it did. -/
def batonOddSpec : ChangeSpec := { name := "batonOdd", fn := fun _ => fun
  | [d1, d2, d3] => { results := [.lit (.bool true)], args := [d1, d2, d3] }
  | _ => none }
def batonOddRow : OpenClaim := { program := "ytjiajflhfnmkmaa", sum := "4e33e1c70fb82babb334cd3193e788d188af81ba90a1f26728f3143259388428", func := "notary/notarylaw22.BatonOdd", spec := "batonOdd", inPlace := ["(*sync.WaitGroup).Add", "internal/race.ReleaseMerge", "internal/race.Disable", "internal/race.Enable", "internal/synctest.IsInBubble", "internal/synctest.Associate[sync.WaitGroup]", "sync.fatal", "sync/atomic.OrUint64", "sync/atomic.AddUint64", "internal/race.Read", "sync/atomic.LoadUint64", "sync/atomic.StoreUint64", "internal/synctest.Disassociate[sync.WaitGroup]", "sync.runtime_Semrelease", "(*sync.WaitGroup).Done", "(*sync.WaitGroup).Wait", "internal/race.Acquire", "internal/synctest.IsAssociated[sync.WaitGroup]", "sync/atomic.CompareAndSwapUint64", "internal/race.Write", "sync.runtime_SemacquireWaitGroup"], unfollowed := true, recurses := true, leaving := true, apart := false }
def BatonOddSaid : Prop := batonOddRow.holds Try.pinned (OpenSpec.ofChange batonOddSpec)

/-- ITS FALSE NEIGHBOUR: 'it returns false'. Refute it at one input. -/
def batonOddWrong : ChangeSpec := { name := "batonOdd", fn := fun _ => fun
  | [d1, d2, d3] => { results := [.lit (.bool false)], args := [d1, d2, d3] }
  | _ => none }
def BatonOddWrongFalsely : Prop := batonOddRow.holds Try.pinned (OpenSpec.ofChange batonOddWrong)

/-- 'notarylaw22.BatonShape': WHATEVER THE INPUT: true; the input reads as it did. -/
def batonShapeSpec : ChangeSpec := { name := "batonShape", fn := fun _ => fun
  | [d1, d2, d3] => { results := [.lit (.bool true)], args := [d1, d2, d3] }
  | _ => none }
def batonShapeRow : OpenClaim := { program := "ytjiajflhfnmkmaa", sum := "4e33e1c70fb82babb334cd3193e788d188af81ba90a1f26728f3143259388428", func := "notary/notarylaw22.BatonShape", spec := "batonShape", inPlace := ["(*sync.WaitGroup).Add", "internal/race.ReleaseMerge", "internal/race.Disable", "internal/race.Enable", "internal/synctest.IsInBubble", "internal/synctest.Associate[sync.WaitGroup]", "sync.fatal", "sync/atomic.OrUint64", "sync/atomic.AddUint64", "internal/race.Read", "sync/atomic.LoadUint64", "sync/atomic.StoreUint64", "internal/synctest.Disassociate[sync.WaitGroup]", "sync.runtime_Semrelease", "(*sync.WaitGroup).Done", "(*sync.WaitGroup).Wait", "internal/race.Acquire", "internal/synctest.IsAssociated[sync.WaitGroup]", "sync/atomic.CompareAndSwapUint64", "internal/race.Write", "sync.runtime_SemacquireWaitGroup"], unfollowed := true, recurses := true, leaving := true, apart := false }
def BatonShapeSaid : Prop := batonShapeRow.holds Try.pinned (OpenSpec.ofChange batonShapeSpec)

/-- ITS FALSE NEIGHBOUR: 'it returns false'. Refute it at one input. -/
def batonShapeWrong : ChangeSpec := { name := "batonShape", fn := fun _ => fun
  | [d1, d2, d3] => { results := [.lit (.bool false)], args := [d1, d2, d3] }
  | _ => none }
def BatonShapeWrongFalsely : Prop := batonShapeRow.holds Try.pinned (OpenSpec.ofChange batonShapeWrong)

/-- 'notarylaw22.BatonAlone': WHATEVER THE INPUT: true; the input reads as it did. -/
def batonAloneSpec : ChangeSpec := { name := "batonAlone", fn := fun _ => fun
  | [d1, d2, d3] => { results := [.lit (.bool true)], args := [d1, d2, d3] }
  | _ => none }
def batonAloneRow : OpenClaim := { program := "ytjiajflhfnmkmaa", sum := "4e33e1c70fb82babb334cd3193e788d188af81ba90a1f26728f3143259388428", func := "notary/notarylaw22.BatonAlone", spec := "batonAlone", inPlace := ["(*sync.WaitGroup).Add", "internal/race.ReleaseMerge", "internal/race.Disable", "internal/race.Enable", "internal/synctest.IsInBubble", "internal/synctest.Associate[sync.WaitGroup]", "sync.fatal", "sync/atomic.OrUint64", "sync/atomic.AddUint64", "internal/race.Read", "sync/atomic.LoadUint64", "sync/atomic.StoreUint64", "internal/synctest.Disassociate[sync.WaitGroup]", "sync.runtime_Semrelease", "(*sync.WaitGroup).Done", "(*sync.WaitGroup).Wait", "internal/race.Acquire", "internal/synctest.IsAssociated[sync.WaitGroup]", "sync/atomic.CompareAndSwapUint64", "internal/race.Write", "sync.runtime_SemacquireWaitGroup"], unfollowed := true, recurses := true, leaving := true, apart := false }
def BatonAloneSaid : Prop := batonAloneRow.holds Try.pinned (OpenSpec.ofChange batonAloneSpec)

/-- ITS FALSE NEIGHBOUR: 'it returns false'. Refute it at one input. -/
def batonAloneWrong : ChangeSpec := { name := "batonAlone", fn := fun _ => fun
  | [d1, d2, d3] => { results := [.lit (.bool false)], args := [d1, d2, d3] }
  | _ => none }
def BatonAloneWrongFalsely : Prop := batonAloneRow.holds Try.pinned (OpenSpec.ofChange batonAloneWrong)

/-- 'notarylaw22.BatonSplits': WHATEVER THE INPUT: true; the input reads as it did. -/
def batonSplitsSpec : ChangeSpec := { name := "batonSplits", fn := fun _ => fun
  | [d1, d2, d3] => { results := [.lit (.bool true)], args := [d1, d2, d3] }
  | _ => none }
def batonSplitsRow : OpenClaim := { program := "ytjiajflhfnmkmaa", sum := "4e33e1c70fb82babb334cd3193e788d188af81ba90a1f26728f3143259388428", func := "notary/notarylaw22.BatonSplits", spec := "batonSplits", inPlace := ["(*sync.WaitGroup).Add", "internal/race.ReleaseMerge", "internal/race.Disable", "internal/race.Enable", "internal/synctest.IsInBubble", "internal/synctest.Associate[sync.WaitGroup]", "sync.fatal", "sync/atomic.OrUint64", "sync/atomic.AddUint64", "internal/race.Read", "sync/atomic.LoadUint64", "sync/atomic.StoreUint64", "internal/synctest.Disassociate[sync.WaitGroup]", "sync.runtime_Semrelease", "(*sync.WaitGroup).Done", "(*sync.WaitGroup).Wait", "internal/race.Acquire", "internal/synctest.IsAssociated[sync.WaitGroup]", "sync/atomic.CompareAndSwapUint64", "internal/race.Write", "sync.runtime_SemacquireWaitGroup"], unfollowed := true, recurses := true, leaving := true, apart := false }
def BatonSplitsSaid : Prop := batonSplitsRow.holds Try.pinned (OpenSpec.ofChange batonSplitsSpec)

/-- ITS FALSE NEIGHBOUR: 'it returns false'. Refute it at one input. -/
def batonSplitsWrong : ChangeSpec := { name := "batonSplits", fn := fun _ => fun
  | [d1, d2, d3] => { results := [.lit (.bool false)], args := [d1, d2, d3] }
  | _ => none }
def BatonSplitsWrongFalsely : Prop := batonSplitsRow.holds Try.pinned (OpenSpec.ofChange batonSplitsWrong)

/-- 'notarylaw22.BatonStranger': WHATEVER THE INPUT: true; the input reads as it did. -/
def batonStrangerSpec : ChangeSpec := { name := "batonStranger", fn := fun _ => fun
  | [d1, d2, d3] => { results := [.lit (.bool true)], args := [d1, d2, d3] }
  | _ => none }
def batonStrangerRow : OpenClaim := { program := "ytjiajflhfnmkmaa", sum := "4e33e1c70fb82babb334cd3193e788d188af81ba90a1f26728f3143259388428", func := "notary/notarylaw22.BatonStranger", spec := "batonStranger", inPlace := ["(*sync.WaitGroup).Add", "internal/race.ReleaseMerge", "internal/race.Disable", "internal/race.Enable", "internal/synctest.IsInBubble", "internal/synctest.Associate[sync.WaitGroup]", "sync.fatal", "sync/atomic.OrUint64", "sync/atomic.AddUint64", "internal/race.Read", "sync/atomic.LoadUint64", "sync/atomic.StoreUint64", "internal/synctest.Disassociate[sync.WaitGroup]", "sync.runtime_Semrelease", "(*sync.WaitGroup).Done", "(*sync.WaitGroup).Wait", "internal/race.Acquire", "internal/synctest.IsAssociated[sync.WaitGroup]", "sync/atomic.CompareAndSwapUint64", "internal/race.Write", "sync.runtime_SemacquireWaitGroup"], unfollowed := true, recurses := true, leaving := true, apart := false }
def BatonStrangerSaid : Prop := batonStrangerRow.holds Try.pinned (OpenSpec.ofChange batonStrangerSpec)

/-- ITS FALSE NEIGHBOUR: 'it returns false'. Refute it at one input. -/
def batonStrangerWrong : ChangeSpec := { name := "batonStranger", fn := fun _ => fun
  | [d1, d2, d3] => { results := [.lit (.bool false)], args := [d1, d2, d3] }
  | _ => none }
def BatonStrangerWrongFalsely : Prop := batonStrangerRow.holds Try.pinned (OpenSpec.ofChange batonStrangerWrong)

/-- 'notarylaw22.BatonEnds': WHATEVER THE INPUT: true; the input reads as it did. -/
def batonEndsSpec : ChangeSpec := { name := "batonEnds", fn := fun _ => fun
  | [d1, d2] => { results := [.lit (.bool true)], args := [d1, d2] }
  | _ => none }
def batonEndsRow : OpenClaim := { program := "ytjiajflhfnmkmaa", sum := "4e33e1c70fb82babb334cd3193e788d188af81ba90a1f26728f3143259388428", func := "notary/notarylaw22.BatonEnds", spec := "batonEnds", inPlace := ["(*sync.WaitGroup).Add", "internal/race.ReleaseMerge", "internal/race.Disable", "internal/race.Enable", "internal/synctest.IsInBubble", "internal/synctest.Associate[sync.WaitGroup]", "sync.fatal", "sync/atomic.OrUint64", "sync/atomic.AddUint64", "internal/race.Read", "sync/atomic.LoadUint64", "sync/atomic.StoreUint64", "internal/synctest.Disassociate[sync.WaitGroup]", "sync.runtime_Semrelease", "(*sync.WaitGroup).Done", "(*sync.WaitGroup).Wait", "internal/race.Acquire", "internal/synctest.IsAssociated[sync.WaitGroup]", "sync/atomic.CompareAndSwapUint64", "internal/race.Write", "sync.runtime_SemacquireWaitGroup"], unfollowed := true, recurses := true, leaving := true, apart := false }
def BatonEndsSaid : Prop := batonEndsRow.holds Try.pinned (OpenSpec.ofChange batonEndsSpec)

/-- ITS FALSE NEIGHBOUR: 'it returns false'. Refute it at one input. -/
def batonEndsWrong : ChangeSpec := { name := "batonEnds", fn := fun _ => fun
  | [d1, d2] => { results := [.lit (.bool false)], args := [d1, d2] }
  | _ => none }
def BatonEndsWrongFalsely : Prop := batonEndsRow.holds Try.pinned (OpenSpec.ofChange batonEndsWrong)

/-- 'notarytop.WholeTurns': WHATEVER THE INPUT: true; the input reads as it did. -/
def wholeTurnsSpec : ChangeSpec := { name := "wholeTurns", fn := fun _ => fun
  | [d1, d2] => { results := [.lit (.bool true)], args := [d1, d2] }
  | _ => none }
def wholeTurnsRow : OpenClaim := { program := "ytjiajflhfnmkmaa", sum := "4e33e1c70fb82babb334cd3193e788d188af81ba90a1f26728f3143259388428", func := "notary/notarytop.WholeTurns", spec := "wholeTurns", inPlace := ["(*sync.WaitGroup).Add", "internal/race.ReleaseMerge", "internal/race.Disable", "internal/race.Enable", "internal/synctest.IsInBubble", "internal/synctest.Associate[sync.WaitGroup]", "sync.fatal", "sync/atomic.OrUint64", "sync/atomic.AddUint64", "internal/race.Read", "sync/atomic.LoadUint64", "sync/atomic.StoreUint64", "internal/synctest.Disassociate[sync.WaitGroup]", "sync.runtime_Semrelease", "(*sync.WaitGroup).Done", "(*sync.WaitGroup).Wait", "internal/race.Acquire", "internal/synctest.IsAssociated[sync.WaitGroup]", "sync/atomic.CompareAndSwapUint64", "internal/race.Write", "sync.runtime_SemacquireWaitGroup"], unfollowed := true, recurses := true, leaving := true, apart := false }
def WholeTurnsSaid : Prop := wholeTurnsRow.holds Try.pinned (OpenSpec.ofChange wholeTurnsSpec)

/-- ITS FALSE NEIGHBOUR: 'it returns false'. Refute it at one input. -/
def wholeTurnsWrong : ChangeSpec := { name := "wholeTurns", fn := fun _ => fun
  | [d1, d2] => { results := [.lit (.bool false)], args := [d1, d2] }
  | _ => none }
def WholeTurnsWrongFalsely : Prop := wholeTurnsRow.holds Try.pinned (OpenSpec.ofChange wholeTurnsWrong)

/- THE SECOND FORM. 'bulk': how many values and letters a reading holds, each counted each time it is reached (what is shared counts as often as it is met; a slice's spare places count too). A statement '..UptoSaid' is the law's where the arguments, and the package variables that the reading takes, are together of bulk at most 1048576: NARROWER than '..Said'. Prove '..Said' where nothing that the law and all that it calls make is longer than what came in: it says more and counts as full. Else prove '..UptoSaid'. A law counts once. -/
mutual
def uptoBulk {H : Type} : DataW H → Nat
  | .lit (.string bytes) => bytes.length + 1
  | .lit _ => 1
  | .nil => 1
  | .ptr d => uptoBulk d + 1
  | .slice elems spare => uptoBulkAll elems + uptoBulkAll spare + 1
  | .agg parts => uptoBulkAll parts + 1
  | .iface _ d => uptoBulk d + 1
  | .map entries => uptoBulkEntries entries + 1
  | .held _ => 1
def uptoBulkAll {H : Type} : List (DataW H) → Nat
  | [] => 0
  | d :: r => uptoBulk d + uptoBulkAll r
def uptoBulkEntries {H : Type} : List (Lit × DataW H) → Nat
  | [] => 0
  | x :: r => uptoBulkEntry x + uptoBulkEntries r
def uptoBulkEntry {H : Type} : Lit × DataW H → Nat
  | (.string bytes, d) => bytes.length + uptoBulk d + 1
  | (_, d) => uptoBulk d + 1
 end
def uptoSmall : (H : Type) → List (DataW H) → Bool := fun _ ds => decide (uptoBulkAll ds ≤ 1048576)
def OpenSpec.upto (s : _root_.Go.ChangeSpec) : _root_.Go.OpenSpec := { _root_.Go.OpenSpec.ofChange s with cond := some uptoSmall }

/-- 'notarylaw22.BatonPlays', WHERE WHAT IT READS IS OF BULK AT MOST 1048576: true; the input reads as it did. -/
def batonPlaysUptoRow : OpenClaim := { program := "ytjiajflhfnmkmaa", sum := "4e33e1c70fb82babb334cd3193e788d188af81ba90a1f26728f3143259388428", func := "notary/notarylaw22.BatonPlays", spec := "batonPlays", inPlace := ["(*sync.WaitGroup).Add", "internal/race.ReleaseMerge", "internal/race.Disable", "internal/race.Enable", "internal/synctest.IsInBubble", "internal/synctest.Associate[sync.WaitGroup]", "sync.fatal", "sync/atomic.OrUint64", "sync/atomic.AddUint64", "internal/race.Read", "sync/atomic.LoadUint64", "sync/atomic.StoreUint64", "internal/synctest.Disassociate[sync.WaitGroup]", "sync.runtime_Semrelease", "(*sync.WaitGroup).Done", "(*sync.WaitGroup).Wait", "internal/race.Acquire", "internal/synctest.IsAssociated[sync.WaitGroup]", "sync/atomic.CompareAndSwapUint64", "internal/race.Write", "sync.runtime_SemacquireWaitGroup"], unfollowed := true, recurses := true, leaving := true, apart := false, narrowed := true }
def BatonPlaysUptoSaid : Prop := batonPlaysUptoRow.holds Try.pinned (OpenSpec.upto batonPlaysSpec)

/-- 'notarylaw22.BatonTwice', WHERE WHAT IT READS IS OF BULK AT MOST 1048576: true; the input reads as it did. -/
def batonTwiceUptoRow : OpenClaim := { program := "ytjiajflhfnmkmaa", sum := "4e33e1c70fb82babb334cd3193e788d188af81ba90a1f26728f3143259388428", func := "notary/notarylaw22.BatonTwice", spec := "batonTwice", inPlace := ["(*sync.WaitGroup).Add", "internal/race.ReleaseMerge", "internal/race.Disable", "internal/race.Enable", "internal/synctest.IsInBubble", "internal/synctest.Associate[sync.WaitGroup]", "sync.fatal", "sync/atomic.OrUint64", "sync/atomic.AddUint64", "internal/race.Read", "sync/atomic.LoadUint64", "sync/atomic.StoreUint64", "internal/synctest.Disassociate[sync.WaitGroup]", "sync.runtime_Semrelease", "(*sync.WaitGroup).Done", "(*sync.WaitGroup).Wait", "internal/race.Acquire", "internal/synctest.IsAssociated[sync.WaitGroup]", "sync/atomic.CompareAndSwapUint64", "internal/race.Write", "sync.runtime_SemacquireWaitGroup"], unfollowed := true, recurses := true, leaving := true, apart := false, narrowed := true }
def BatonTwiceUptoSaid : Prop := batonTwiceUptoRow.holds Try.pinned (OpenSpec.upto batonTwiceSpec)

/-- 'notarylaw22.BatonOdd', WHERE WHAT IT READS IS OF BULK AT MOST 1048576: true; the input reads as it did. -/
def batonOddUptoRow : OpenClaim := { program := "ytjiajflhfnmkmaa", sum := "4e33e1c70fb82babb334cd3193e788d188af81ba90a1f26728f3143259388428", func := "notary/notarylaw22.BatonOdd", spec := "batonOdd", inPlace := ["(*sync.WaitGroup).Add", "internal/race.ReleaseMerge", "internal/race.Disable", "internal/race.Enable", "internal/synctest.IsInBubble", "internal/synctest.Associate[sync.WaitGroup]", "sync.fatal", "sync/atomic.OrUint64", "sync/atomic.AddUint64", "internal/race.Read", "sync/atomic.LoadUint64", "sync/atomic.StoreUint64", "internal/synctest.Disassociate[sync.WaitGroup]", "sync.runtime_Semrelease", "(*sync.WaitGroup).Done", "(*sync.WaitGroup).Wait", "internal/race.Acquire", "internal/synctest.IsAssociated[sync.WaitGroup]", "sync/atomic.CompareAndSwapUint64", "internal/race.Write", "sync.runtime_SemacquireWaitGroup"], unfollowed := true, recurses := true, leaving := true, apart := false, narrowed := true }
def BatonOddUptoSaid : Prop := batonOddUptoRow.holds Try.pinned (OpenSpec.upto batonOddSpec)

/-- 'notarylaw22.BatonShape', WHERE WHAT IT READS IS OF BULK AT MOST 1048576: true; the input reads as it did. -/
def batonShapeUptoRow : OpenClaim := { program := "ytjiajflhfnmkmaa", sum := "4e33e1c70fb82babb334cd3193e788d188af81ba90a1f26728f3143259388428", func := "notary/notarylaw22.BatonShape", spec := "batonShape", inPlace := ["(*sync.WaitGroup).Add", "internal/race.ReleaseMerge", "internal/race.Disable", "internal/race.Enable", "internal/synctest.IsInBubble", "internal/synctest.Associate[sync.WaitGroup]", "sync.fatal", "sync/atomic.OrUint64", "sync/atomic.AddUint64", "internal/race.Read", "sync/atomic.LoadUint64", "sync/atomic.StoreUint64", "internal/synctest.Disassociate[sync.WaitGroup]", "sync.runtime_Semrelease", "(*sync.WaitGroup).Done", "(*sync.WaitGroup).Wait", "internal/race.Acquire", "internal/synctest.IsAssociated[sync.WaitGroup]", "sync/atomic.CompareAndSwapUint64", "internal/race.Write", "sync.runtime_SemacquireWaitGroup"], unfollowed := true, recurses := true, leaving := true, apart := false, narrowed := true }
def BatonShapeUptoSaid : Prop := batonShapeUptoRow.holds Try.pinned (OpenSpec.upto batonShapeSpec)

/-- 'notarylaw22.BatonAlone', WHERE WHAT IT READS IS OF BULK AT MOST 1048576: true; the input reads as it did. -/
def batonAloneUptoRow : OpenClaim := { program := "ytjiajflhfnmkmaa", sum := "4e33e1c70fb82babb334cd3193e788d188af81ba90a1f26728f3143259388428", func := "notary/notarylaw22.BatonAlone", spec := "batonAlone", inPlace := ["(*sync.WaitGroup).Add", "internal/race.ReleaseMerge", "internal/race.Disable", "internal/race.Enable", "internal/synctest.IsInBubble", "internal/synctest.Associate[sync.WaitGroup]", "sync.fatal", "sync/atomic.OrUint64", "sync/atomic.AddUint64", "internal/race.Read", "sync/atomic.LoadUint64", "sync/atomic.StoreUint64", "internal/synctest.Disassociate[sync.WaitGroup]", "sync.runtime_Semrelease", "(*sync.WaitGroup).Done", "(*sync.WaitGroup).Wait", "internal/race.Acquire", "internal/synctest.IsAssociated[sync.WaitGroup]", "sync/atomic.CompareAndSwapUint64", "internal/race.Write", "sync.runtime_SemacquireWaitGroup"], unfollowed := true, recurses := true, leaving := true, apart := false, narrowed := true }
def BatonAloneUptoSaid : Prop := batonAloneUptoRow.holds Try.pinned (OpenSpec.upto batonAloneSpec)

/-- 'notarylaw22.BatonSplits', WHERE WHAT IT READS IS OF BULK AT MOST 1048576: true; the input reads as it did. -/
def batonSplitsUptoRow : OpenClaim := { program := "ytjiajflhfnmkmaa", sum := "4e33e1c70fb82babb334cd3193e788d188af81ba90a1f26728f3143259388428", func := "notary/notarylaw22.BatonSplits", spec := "batonSplits", inPlace := ["(*sync.WaitGroup).Add", "internal/race.ReleaseMerge", "internal/race.Disable", "internal/race.Enable", "internal/synctest.IsInBubble", "internal/synctest.Associate[sync.WaitGroup]", "sync.fatal", "sync/atomic.OrUint64", "sync/atomic.AddUint64", "internal/race.Read", "sync/atomic.LoadUint64", "sync/atomic.StoreUint64", "internal/synctest.Disassociate[sync.WaitGroup]", "sync.runtime_Semrelease", "(*sync.WaitGroup).Done", "(*sync.WaitGroup).Wait", "internal/race.Acquire", "internal/synctest.IsAssociated[sync.WaitGroup]", "sync/atomic.CompareAndSwapUint64", "internal/race.Write", "sync.runtime_SemacquireWaitGroup"], unfollowed := true, recurses := true, leaving := true, apart := false, narrowed := true }
def BatonSplitsUptoSaid : Prop := batonSplitsUptoRow.holds Try.pinned (OpenSpec.upto batonSplitsSpec)

/-- 'notarylaw22.BatonStranger', WHERE WHAT IT READS IS OF BULK AT MOST 1048576: true; the input reads as it did. -/
def batonStrangerUptoRow : OpenClaim := { program := "ytjiajflhfnmkmaa", sum := "4e33e1c70fb82babb334cd3193e788d188af81ba90a1f26728f3143259388428", func := "notary/notarylaw22.BatonStranger", spec := "batonStranger", inPlace := ["(*sync.WaitGroup).Add", "internal/race.ReleaseMerge", "internal/race.Disable", "internal/race.Enable", "internal/synctest.IsInBubble", "internal/synctest.Associate[sync.WaitGroup]", "sync.fatal", "sync/atomic.OrUint64", "sync/atomic.AddUint64", "internal/race.Read", "sync/atomic.LoadUint64", "sync/atomic.StoreUint64", "internal/synctest.Disassociate[sync.WaitGroup]", "sync.runtime_Semrelease", "(*sync.WaitGroup).Done", "(*sync.WaitGroup).Wait", "internal/race.Acquire", "internal/synctest.IsAssociated[sync.WaitGroup]", "sync/atomic.CompareAndSwapUint64", "internal/race.Write", "sync.runtime_SemacquireWaitGroup"], unfollowed := true, recurses := true, leaving := true, apart := false, narrowed := true }
def BatonStrangerUptoSaid : Prop := batonStrangerUptoRow.holds Try.pinned (OpenSpec.upto batonStrangerSpec)

/-- 'notarylaw22.BatonEnds', WHERE WHAT IT READS IS OF BULK AT MOST 1048576: true; the input reads as it did. -/
def batonEndsUptoRow : OpenClaim := { program := "ytjiajflhfnmkmaa", sum := "4e33e1c70fb82babb334cd3193e788d188af81ba90a1f26728f3143259388428", func := "notary/notarylaw22.BatonEnds", spec := "batonEnds", inPlace := ["(*sync.WaitGroup).Add", "internal/race.ReleaseMerge", "internal/race.Disable", "internal/race.Enable", "internal/synctest.IsInBubble", "internal/synctest.Associate[sync.WaitGroup]", "sync.fatal", "sync/atomic.OrUint64", "sync/atomic.AddUint64", "internal/race.Read", "sync/atomic.LoadUint64", "sync/atomic.StoreUint64", "internal/synctest.Disassociate[sync.WaitGroup]", "sync.runtime_Semrelease", "(*sync.WaitGroup).Done", "(*sync.WaitGroup).Wait", "internal/race.Acquire", "internal/synctest.IsAssociated[sync.WaitGroup]", "sync/atomic.CompareAndSwapUint64", "internal/race.Write", "sync.runtime_SemacquireWaitGroup"], unfollowed := true, recurses := true, leaving := true, apart := false, narrowed := true }
def BatonEndsUptoSaid : Prop := batonEndsUptoRow.holds Try.pinned (OpenSpec.upto batonEndsSpec)

/-- 'notarytop.WholeTurns', WHERE WHAT IT READS IS OF BULK AT MOST 1048576: true; the input reads as it did. -/
def wholeTurnsUptoRow : OpenClaim := { program := "ytjiajflhfnmkmaa", sum := "4e33e1c70fb82babb334cd3193e788d188af81ba90a1f26728f3143259388428", func := "notary/notarytop.WholeTurns", spec := "wholeTurns", inPlace := ["(*sync.WaitGroup).Add", "internal/race.ReleaseMerge", "internal/race.Disable", "internal/race.Enable", "internal/synctest.IsInBubble", "internal/synctest.Associate[sync.WaitGroup]", "sync.fatal", "sync/atomic.OrUint64", "sync/atomic.AddUint64", "internal/race.Read", "sync/atomic.LoadUint64", "sync/atomic.StoreUint64", "internal/synctest.Disassociate[sync.WaitGroup]", "sync.runtime_Semrelease", "(*sync.WaitGroup).Done", "(*sync.WaitGroup).Wait", "internal/race.Acquire", "internal/synctest.IsAssociated[sync.WaitGroup]", "sync/atomic.CompareAndSwapUint64", "internal/race.Write", "sync.runtime_SemacquireWaitGroup"], unfollowed := true, recurses := true, leaving := true, apart := false, narrowed := true }
def WholeTurnsUptoSaid : Prop := wholeTurnsUptoRow.holds Try.pinned (OpenSpec.upto wholeTurnsSpec)

end Rows
end Go.Proofs.Ytjiajflhfnmkmaa
