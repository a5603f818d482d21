/-
  NARROWER THAN 'FOR EVERY INPUT', by the rows' own cells (each row's printed sentence says how): McheckRootOfs: laid · McheckInclusions: laid · McheckRootsOfs: laid · McheckPowers: laid · McheckShows: laid · McheckConsistencies: laid · McheckKeeps: laid · McheckCounts: laid · WholeRootOf: laid.
  DERIVED. THE GIVEN ROWS OF THIS SEAT. 9 by the template 'for every input the law returns true; each argument reads behind the call as it read before'; 0 by the template 'total and deterministic' (their statements: YtbhbhdojmacpmaaDoorTotals.lean).
  GIVEN WITH THE SEED: the statements are not yours to turn. If you find one false, say at which input.
  Laid BY PROGRAM, IN A SANDBOX (cutbox-rows.mjs): the forced cells as the released guide's own fill.sh prints them over the translation cbd98e5f2a0e56fb… (all of the seat's roots in one cut). By AI agents, Wed Nov 11 2026. No macro, syntax, notation, axiom, sorry.
-/
import Derived.Test.YtbhbhdojmacpmaaDoorChecked
import GoSem.Claim
import GoSem.ClaimJoined
import GoSem.ClaimMapViews
import Derived.JoinedTies
import Derived.KernelRfl
namespace Go.Proofs.YtbhbhdojmacpmaaDoor
/- THE CELL 'sum', in the pinned program and in every row, IS THE sha256 OF THE DUMP (.gsa) THAT YtbhbhdojmacpmaaDoorProg.lean LOADS. Nothing in Lean hashes anything: it is a label: what it is worth is what the hold of that sum in a sandbox is worth. -/
noncomputable def Tryd.pinned : Pinned := { name := "ytbhbhdojmacpmaadoor", sum := "cbd98e5f2a0e56fbb87ed891f492179542a9bf398c163b4642fb2eab59385d2f", checked := Tryd.checked }
namespace Rows
def none {H : Type} : Left H := { results := [], args := [] }

/- WHAT THE LISTED PACKAGE-LEVEL VARIABLES READ AS WHEN THE CALL BEGINS. Each datum BY PROGRAM (the guide's laid-datum.mjs) off the statement by which the dump's own 'gosem.cut.vars' lays the variable. In a bare row this is a premise. The card (YtbhbhdojmacpmaaDoorCards.lean) ties it to the program's text. -/
def laid_notary_sha_words {H : Type} : DataW H := .agg [.lit (.int .u32 1116352408), .lit (.int .u32 1899447441), .lit (.int .u32 3049323471), .lit (.int .u32 3921009573), .lit (.int .u32 961987163), .lit (.int .u32 1508970993), .lit (.int .u32 2453635748), .lit (.int .u32 2870763221), .lit (.int .u32 3624381080), .lit (.int .u32 310598401), .lit (.int .u32 607225278), .lit (.int .u32 1426881987), .lit (.int .u32 1925078388), .lit (.int .u32 2162078206), .lit (.int .u32 2614888103), .lit (.int .u32 3248222580), .lit (.int .u32 3835390401), .lit (.int .u32 4022224774), .lit (.int .u32 264347078), .lit (.int .u32 604807628), .lit (.int .u32 770255983), .lit (.int .u32 1249150122), .lit (.int .u32 1555081692), .lit (.int .u32 1996064986), .lit (.int .u32 2554220882), .lit (.int .u32 2821834349), .lit (.int .u32 2952996808), .lit (.int .u32 3210313671), .lit (.int .u32 3336571891), .lit (.int .u32 3584528711), .lit (.int .u32 113926993), .lit (.int .u32 338241895), .lit (.int .u32 666307205), .lit (.int .u32 773529912), .lit (.int .u32 1294757372), .lit (.int .u32 1396182291), .lit (.int .u32 1695183700), .lit (.int .u32 1986661051), .lit (.int .u32 2177026350), .lit (.int .u32 2456956037), .lit (.int .u32 2730485921), .lit (.int .u32 2820302411), .lit (.int .u32 3259730800), .lit (.int .u32 3345764771), .lit (.int .u32 3516065817), .lit (.int .u32 3600352804), .lit (.int .u32 4094571909), .lit (.int .u32 275423344), .lit (.int .u32 430227734), .lit (.int .u32 506948616), .lit (.int .u32 659060556), .lit (.int .u32 883997877), .lit (.int .u32 958139571), .lit (.int .u32 1322822218), .lit (.int .u32 1537002063), .lit (.int .u32 1747873779), .lit (.int .u32 1955562222), .lit (.int .u32 2024104815), .lit (.int .u32 2227730452), .lit (.int .u32 2361852424), .lit (.int .u32 2428436474), .lit (.int .u32 2756734187), .lit (.int .u32 3204031479), .lit (.int .u32 3329325298)]

/-- 'notarylaw12.McheckRootOfs': WHATEVER THE INPUT: true; the input reads as it did. -/
def mcheckRootOfsSpec : ChangeSpec := { name := "mcheckRootOfs", fn := fun _ => fun
  | [d] => { results := [.lit (.bool true)], args := [d] }
  | _ => none }
def mcheckRootOfsRow : OpenClaim := { program := "ytbhbhdojmacpmaadoor", sum := "cbd98e5f2a0e56fbb87ed891f492179542a9bf398c163b4642fb2eab59385d2f", func := "notary/notarylaw12.McheckRootOfs", spec := "mcheckRootOfs", recurses := true, named := ["notary/sha.words"], apart := false, laid := [("notary/sha.words", laid_notary_sha_words)] }
def McheckRootOfsSaid : Prop := mcheckRootOfsRow.holds Tryd.pinned (OpenSpec.ofChange mcheckRootOfsSpec)

/-- ITS FALSE NEIGHBOUR: 'it returns false'. Refute it at one input. -/
def mcheckRootOfsWrong : ChangeSpec := { name := "mcheckRootOfs", fn := fun _ => fun
  | [d] => { results := [.lit (.bool false)], args := [d] }
  | _ => none }
def McheckRootOfsWrongFalsely : Prop := mcheckRootOfsRow.holds Tryd.pinned (OpenSpec.ofChange mcheckRootOfsWrong)

/-- 'notarylaw12.McheckInclusions': WHATEVER THE INPUT: true; the input reads as it did. -/
def mcheckInclusionsSpec : ChangeSpec := { name := "mcheckInclusions", fn := fun _ => fun
  | [d] => { results := [.lit (.bool true)], args := [d] }
  | _ => none }
def mcheckInclusionsRow : OpenClaim := { program := "ytbhbhdojmacpmaadoor", sum := "cbd98e5f2a0e56fbb87ed891f492179542a9bf398c163b4642fb2eab59385d2f", func := "notary/notarylaw12.McheckInclusions", spec := "mcheckInclusions", recurses := true, named := ["notary/sha.words"], apart := false, laid := [("notary/sha.words", laid_notary_sha_words)] }
def McheckInclusionsSaid : Prop := mcheckInclusionsRow.holds Tryd.pinned (OpenSpec.ofChange mcheckInclusionsSpec)

/-- ITS FALSE NEIGHBOUR: 'it returns false'. Refute it at one input. -/
def mcheckInclusionsWrong : ChangeSpec := { name := "mcheckInclusions", fn := fun _ => fun
  | [d] => { results := [.lit (.bool false)], args := [d] }
  | _ => none }
def McheckInclusionsWrongFalsely : Prop := mcheckInclusionsRow.holds Tryd.pinned (OpenSpec.ofChange mcheckInclusionsWrong)

/-- 'notarylaw12.McheckRootsOfs': WHATEVER THE INPUT: true; the input reads as it did. -/
def mcheckRootsOfsSpec : ChangeSpec := { name := "mcheckRootsOfs", fn := fun _ => fun
  | [d] => { results := [.lit (.bool true)], args := [d] }
  | _ => none }
def mcheckRootsOfsRow : OpenClaim := { program := "ytbhbhdojmacpmaadoor", sum := "cbd98e5f2a0e56fbb87ed891f492179542a9bf398c163b4642fb2eab59385d2f", func := "notary/notarylaw12.McheckRootsOfs", spec := "mcheckRootsOfs", recurses := true, named := ["notary/sha.words"], apart := false, laid := [("notary/sha.words", laid_notary_sha_words)] }
def McheckRootsOfsSaid : Prop := mcheckRootsOfsRow.holds Tryd.pinned (OpenSpec.ofChange mcheckRootsOfsSpec)

/-- ITS FALSE NEIGHBOUR: 'it returns false'. Refute it at one input. -/
def mcheckRootsOfsWrong : ChangeSpec := { name := "mcheckRootsOfs", fn := fun _ => fun
  | [d] => { results := [.lit (.bool false)], args := [d] }
  | _ => none }
def McheckRootsOfsWrongFalsely : Prop := mcheckRootsOfsRow.holds Tryd.pinned (OpenSpec.ofChange mcheckRootsOfsWrong)

/-- 'notarylaw12.McheckPowers': WHATEVER THE INPUT: true; the input reads as it did. -/
def mcheckPowersSpec : ChangeSpec := { name := "mcheckPowers", fn := fun _ => fun
  | [d] => { results := [.lit (.bool true)], args := [d] }
  | _ => none }
def mcheckPowersRow : OpenClaim := { program := "ytbhbhdojmacpmaadoor", sum := "cbd98e5f2a0e56fbb87ed891f492179542a9bf398c163b4642fb2eab59385d2f", func := "notary/notarylaw12.McheckPowers", spec := "mcheckPowers", recurses := true, named := ["notary/sha.words"], apart := false, laid := [("notary/sha.words", laid_notary_sha_words)] }
def McheckPowersSaid : Prop := mcheckPowersRow.holds Tryd.pinned (OpenSpec.ofChange mcheckPowersSpec)

/-- ITS FALSE NEIGHBOUR: 'it returns false'. Refute it at one input. -/
def mcheckPowersWrong : ChangeSpec := { name := "mcheckPowers", fn := fun _ => fun
  | [d] => { results := [.lit (.bool false)], args := [d] }
  | _ => none }
def McheckPowersWrongFalsely : Prop := mcheckPowersRow.holds Tryd.pinned (OpenSpec.ofChange mcheckPowersWrong)

/-- 'notarylaw12.McheckShows': WHATEVER THE INPUT: true; the input reads as it did. -/
def mcheckShowsSpec : ChangeSpec := { name := "mcheckShows", fn := fun _ => fun
  | [d1, d2, d3] => { results := [.lit (.bool true)], args := [d1, d2, d3] }
  | _ => none }
def mcheckShowsRow : OpenClaim := { program := "ytbhbhdojmacpmaadoor", sum := "cbd98e5f2a0e56fbb87ed891f492179542a9bf398c163b4642fb2eab59385d2f", func := "notary/notarylaw12.McheckShows", spec := "mcheckShows", recurses := true, named := ["notary/sha.words"], apart := false, laid := [("notary/sha.words", laid_notary_sha_words)] }
def McheckShowsSaid : Prop := mcheckShowsRow.holds Tryd.pinned (OpenSpec.ofChange mcheckShowsSpec)

/-- ITS FALSE NEIGHBOUR: 'it returns false'. Refute it at one input. -/
def mcheckShowsWrong : ChangeSpec := { name := "mcheckShows", fn := fun _ => fun
  | [d1, d2, d3] => { results := [.lit (.bool false)], args := [d1, d2, d3] }
  | _ => none }
def McheckShowsWrongFalsely : Prop := mcheckShowsRow.holds Tryd.pinned (OpenSpec.ofChange mcheckShowsWrong)

/-- 'notarylaw12.McheckConsistencies': WHATEVER THE INPUT: true; the input reads as it did. -/
def mcheckConsistenciesSpec : ChangeSpec := { name := "mcheckConsistencies", fn := fun _ => fun
  | [d] => { results := [.lit (.bool true)], args := [d] }
  | _ => none }
def mcheckConsistenciesRow : OpenClaim := { program := "ytbhbhdojmacpmaadoor", sum := "cbd98e5f2a0e56fbb87ed891f492179542a9bf398c163b4642fb2eab59385d2f", func := "notary/notarylaw12.McheckConsistencies", spec := "mcheckConsistencies", recurses := true, named := ["notary/sha.words"], apart := false, laid := [("notary/sha.words", laid_notary_sha_words)] }
def McheckConsistenciesSaid : Prop := mcheckConsistenciesRow.holds Tryd.pinned (OpenSpec.ofChange mcheckConsistenciesSpec)

/-- ITS FALSE NEIGHBOUR: 'it returns false'. Refute it at one input. -/
def mcheckConsistenciesWrong : ChangeSpec := { name := "mcheckConsistencies", fn := fun _ => fun
  | [d] => { results := [.lit (.bool false)], args := [d] }
  | _ => none }
def McheckConsistenciesWrongFalsely : Prop := mcheckConsistenciesRow.holds Tryd.pinned (OpenSpec.ofChange mcheckConsistenciesWrong)

/-- 'notarylaw12.McheckKeeps': WHATEVER THE INPUT: true; the input reads as it did. -/
def mcheckKeepsSpec : ChangeSpec := { name := "mcheckKeeps", fn := fun _ => fun
  | [d1, d2] => { results := [.lit (.bool true)], args := [d1, d2] }
  | _ => none }
def mcheckKeepsRow : OpenClaim := { program := "ytbhbhdojmacpmaadoor", sum := "cbd98e5f2a0e56fbb87ed891f492179542a9bf398c163b4642fb2eab59385d2f", func := "notary/notarylaw12.McheckKeeps", spec := "mcheckKeeps", recurses := true, named := ["notary/sha.words"], apart := false, laid := [("notary/sha.words", laid_notary_sha_words)] }
def McheckKeepsSaid : Prop := mcheckKeepsRow.holds Tryd.pinned (OpenSpec.ofChange mcheckKeepsSpec)

/-- ITS FALSE NEIGHBOUR: 'it returns false'. Refute it at one input. -/
def mcheckKeepsWrong : ChangeSpec := { name := "mcheckKeeps", fn := fun _ => fun
  | [d1, d2] => { results := [.lit (.bool false)], args := [d1, d2] }
  | _ => none }
def McheckKeepsWrongFalsely : Prop := mcheckKeepsRow.holds Tryd.pinned (OpenSpec.ofChange mcheckKeepsWrong)

/-- 'notarylaw12.McheckCounts': WHATEVER THE INPUT: true; the input reads as it did. -/
def mcheckCountsSpec : ChangeSpec := { name := "mcheckCounts", fn := fun _ => fun
  | [d] => { results := [.lit (.bool true)], args := [d] }
  | _ => none }
def mcheckCountsRow : OpenClaim := { program := "ytbhbhdojmacpmaadoor", sum := "cbd98e5f2a0e56fbb87ed891f492179542a9bf398c163b4642fb2eab59385d2f", func := "notary/notarylaw12.McheckCounts", spec := "mcheckCounts", recurses := true, named := ["notary/sha.words"], apart := false, laid := [("notary/sha.words", laid_notary_sha_words)] }
def McheckCountsSaid : Prop := mcheckCountsRow.holds Tryd.pinned (OpenSpec.ofChange mcheckCountsSpec)

/-- ITS FALSE NEIGHBOUR: 'it returns false'. Refute it at one input. -/
def mcheckCountsWrong : ChangeSpec := { name := "mcheckCounts", fn := fun _ => fun
  | [d] => { results := [.lit (.bool false)], args := [d] }
  | _ => none }
def McheckCountsWrongFalsely : Prop := mcheckCountsRow.holds Tryd.pinned (OpenSpec.ofChange mcheckCountsWrong)

/-- 'notarytop.WholeRootOf': WHATEVER THE INPUT: true; the input reads as it did. -/
def wholeRootOfSpec : ChangeSpec := { name := "wholeRootOf", fn := fun _ => fun
  | [d1, d2, d3, d4, d5, d6] => { results := [.lit (.bool true)], args := [d1, d2, d3, d4, d5, d6] }
  | _ => none }
def wholeRootOfRow : OpenClaim := { program := "ytbhbhdojmacpmaadoor", sum := "cbd98e5f2a0e56fbb87ed891f492179542a9bf398c163b4642fb2eab59385d2f", func := "notary/notarytop.WholeRootOf", spec := "wholeRootOf", recurses := true, named := ["notary/sha.words"], apart := false, laid := [("notary/sha.words", laid_notary_sha_words)] }
def WholeRootOfSaid : Prop := wholeRootOfRow.holds Tryd.pinned (OpenSpec.ofChange wholeRootOfSpec)

/-- ITS FALSE NEIGHBOUR: 'it returns false'. Refute it at one input. -/
def wholeRootOfWrong : ChangeSpec := { name := "wholeRootOf", fn := fun _ => fun
  | [d1, d2, d3, d4, d5, d6] => { results := [.lit (.bool false)], args := [d1, d2, d3, d4, d5, d6] }
  | _ => none }
def WholeRootOfWrongFalsely : Prop := wholeRootOfRow.holds Tryd.pinned (OpenSpec.ofChange wholeRootOfWrong)

/- THE SECOND FORM. 'bulk': how many values and letters a reading holds, each counted each time it is reached (what is shared counts as often as it is met; a slice's spare places count too). A statement '..UptoSaid' is the law's where the arguments, and the package variables that the reading takes, are together of bulk at most 1048576: NARROWER than '..Said'. Prove '..Said' where nothing that the law and all that it calls make is longer than what came in: it says more and counts as full. Else prove '..UptoSaid'. A law counts once. -/
mutual
def uptoBulk {H : Type} : DataW H → Nat
  | .lit (.string bytes) => bytes.length + 1
  | .lit _ => 1
  | .nil => 1
  | .ptr d => uptoBulk d + 1
  | .slice elems spare => uptoBulkAll elems + uptoBulkAll spare + 1
  | .agg parts => uptoBulkAll parts + 1
  | .iface _ d => uptoBulk d + 1
  | .map entries => uptoBulkEntries entries + 1
  | .held _ => 1
def uptoBulkAll {H : Type} : List (DataW H) → Nat
  | [] => 0
  | d :: r => uptoBulk d + uptoBulkAll r
def uptoBulkEntries {H : Type} : List (Lit × DataW H) → Nat
  | [] => 0
  | x :: r => uptoBulkEntry x + uptoBulkEntries r
def uptoBulkEntry {H : Type} : Lit × DataW H → Nat
  | (.string bytes, d) => bytes.length + uptoBulk d + 1
  | (_, d) => uptoBulk d + 1
 end
def uptoSmall : (H : Type) → List (DataW H) → Bool := fun _ ds => decide (uptoBulkAll ds ≤ 1048576)
def OpenSpec.upto (s : _root_.Go.ChangeSpec) : _root_.Go.OpenSpec := { _root_.Go.OpenSpec.ofChange s with cond := some uptoSmall }

/-- 'notarylaw12.McheckRootOfs', WHERE WHAT IT READS IS OF BULK AT MOST 1048576: true; the input reads as it did. -/
def mcheckRootOfsUptoRow : OpenClaim := { program := "ytbhbhdojmacpmaadoor", sum := "cbd98e5f2a0e56fbb87ed891f492179542a9bf398c163b4642fb2eab59385d2f", func := "notary/notarylaw12.McheckRootOfs", spec := "mcheckRootOfs", recurses := true, named := ["notary/sha.words"], apart := false, laid := [("notary/sha.words", laid_notary_sha_words)], narrowed := true }
def McheckRootOfsUptoSaid : Prop := mcheckRootOfsUptoRow.holds Tryd.pinned (OpenSpec.upto mcheckRootOfsSpec)

/-- 'notarylaw12.McheckInclusions', WHERE WHAT IT READS IS OF BULK AT MOST 1048576: true; the input reads as it did. -/
def mcheckInclusionsUptoRow : OpenClaim := { program := "ytbhbhdojmacpmaadoor", sum := "cbd98e5f2a0e56fbb87ed891f492179542a9bf398c163b4642fb2eab59385d2f", func := "notary/notarylaw12.McheckInclusions", spec := "mcheckInclusions", recurses := true, named := ["notary/sha.words"], apart := false, laid := [("notary/sha.words", laid_notary_sha_words)], narrowed := true }
def McheckInclusionsUptoSaid : Prop := mcheckInclusionsUptoRow.holds Tryd.pinned (OpenSpec.upto mcheckInclusionsSpec)

/-- 'notarylaw12.McheckRootsOfs', WHERE WHAT IT READS IS OF BULK AT MOST 1048576: true; the input reads as it did. -/
def mcheckRootsOfsUptoRow : OpenClaim := { program := "ytbhbhdojmacpmaadoor", sum := "cbd98e5f2a0e56fbb87ed891f492179542a9bf398c163b4642fb2eab59385d2f", func := "notary/notarylaw12.McheckRootsOfs", spec := "mcheckRootsOfs", recurses := true, named := ["notary/sha.words"], apart := false, laid := [("notary/sha.words", laid_notary_sha_words)], narrowed := true }
def McheckRootsOfsUptoSaid : Prop := mcheckRootsOfsUptoRow.holds Tryd.pinned (OpenSpec.upto mcheckRootsOfsSpec)

/-- 'notarylaw12.McheckPowers', WHERE WHAT IT READS IS OF BULK AT MOST 1048576: true; the input reads as it did. -/
def mcheckPowersUptoRow : OpenClaim := { program := "ytbhbhdojmacpmaadoor", sum := "cbd98e5f2a0e56fbb87ed891f492179542a9bf398c163b4642fb2eab59385d2f", func := "notary/notarylaw12.McheckPowers", spec := "mcheckPowers", recurses := true, named := ["notary/sha.words"], apart := false, laid := [("notary/sha.words", laid_notary_sha_words)], narrowed := true }
def McheckPowersUptoSaid : Prop := mcheckPowersUptoRow.holds Tryd.pinned (OpenSpec.upto mcheckPowersSpec)

/-- 'notarylaw12.McheckShows', WHERE WHAT IT READS IS OF BULK AT MOST 1048576: true; the input reads as it did. -/
def mcheckShowsUptoRow : OpenClaim := { program := "ytbhbhdojmacpmaadoor", sum := "cbd98e5f2a0e56fbb87ed891f492179542a9bf398c163b4642fb2eab59385d2f", func := "notary/notarylaw12.McheckShows", spec := "mcheckShows", recurses := true, named := ["notary/sha.words"], apart := false, laid := [("notary/sha.words", laid_notary_sha_words)], narrowed := true }
def McheckShowsUptoSaid : Prop := mcheckShowsUptoRow.holds Tryd.pinned (OpenSpec.upto mcheckShowsSpec)

/-- 'notarylaw12.McheckConsistencies', WHERE WHAT IT READS IS OF BULK AT MOST 1048576: true; the input reads as it did. -/
def mcheckConsistenciesUptoRow : OpenClaim := { program := "ytbhbhdojmacpmaadoor", sum := "cbd98e5f2a0e56fbb87ed891f492179542a9bf398c163b4642fb2eab59385d2f", func := "notary/notarylaw12.McheckConsistencies", spec := "mcheckConsistencies", recurses := true, named := ["notary/sha.words"], apart := false, laid := [("notary/sha.words", laid_notary_sha_words)], narrowed := true }
def McheckConsistenciesUptoSaid : Prop := mcheckConsistenciesUptoRow.holds Tryd.pinned (OpenSpec.upto mcheckConsistenciesSpec)

/-- 'notarylaw12.McheckKeeps', WHERE WHAT IT READS IS OF BULK AT MOST 1048576: true; the input reads as it did. -/
def mcheckKeepsUptoRow : OpenClaim := { program := "ytbhbhdojmacpmaadoor", sum := "cbd98e5f2a0e56fbb87ed891f492179542a9bf398c163b4642fb2eab59385d2f", func := "notary/notarylaw12.McheckKeeps", spec := "mcheckKeeps", recurses := true, named := ["notary/sha.words"], apart := false, laid := [("notary/sha.words", laid_notary_sha_words)], narrowed := true }
def McheckKeepsUptoSaid : Prop := mcheckKeepsUptoRow.holds Tryd.pinned (OpenSpec.upto mcheckKeepsSpec)

/-- 'notarylaw12.McheckCounts', WHERE WHAT IT READS IS OF BULK AT MOST 1048576: true; the input reads as it did. -/
def mcheckCountsUptoRow : OpenClaim := { program := "ytbhbhdojmacpmaadoor", sum := "cbd98e5f2a0e56fbb87ed891f492179542a9bf398c163b4642fb2eab59385d2f", func := "notary/notarylaw12.McheckCounts", spec := "mcheckCounts", recurses := true, named := ["notary/sha.words"], apart := false, laid := [("notary/sha.words", laid_notary_sha_words)], narrowed := true }
def McheckCountsUptoSaid : Prop := mcheckCountsUptoRow.holds Tryd.pinned (OpenSpec.upto mcheckCountsSpec)

/-- 'notarytop.WholeRootOf', WHERE WHAT IT READS IS OF BULK AT MOST 1048576: true; the input reads as it did. -/
def wholeRootOfUptoRow : OpenClaim := { program := "ytbhbhdojmacpmaadoor", sum := "cbd98e5f2a0e56fbb87ed891f492179542a9bf398c163b4642fb2eab59385d2f", func := "notary/notarytop.WholeRootOf", spec := "wholeRootOf", recurses := true, named := ["notary/sha.words"], apart := false, laid := [("notary/sha.words", laid_notary_sha_words)], narrowed := true }
def WholeRootOfUptoSaid : Prop := wholeRootOfUptoRow.holds Tryd.pinned (OpenSpec.upto wholeRootOfSpec)

end Rows
end Go.Proofs.YtbhbhdojmacpmaaDoor
