/-
  NARROWER THAN 'FOR EVERY INPUT', by the rows' own cells (each row's printed sentence says how): ShaSums: laid · ShaBlocks: laid · ShaPads: laid · ShaConstants: laid · ShaPieces: laid · ShaChain: laid · ShaMemory: laid · ShaCopies: laid · ShaNil: laid · WholeSha: laid.
  DERIVED. THE GIVEN ROWS OF THIS SEAT. 10 by the template 'for every input the law returns true; each argument reads behind the call as it read before'; 0 by the template 'total and deterministic' (their statements: YtiagaoeaploijaaDoorTotals.lean).
  GIVEN WITH THE SEED: the statements are not yours to turn. If you find one false, say at which input.
  Laid BY PROGRAM, IN A SANDBOX (cutbox-rows.mjs): the forced cells as the released guide's own fill.sh prints them over the translation 1e95c9473745865f… (all of the seat's roots in one cut). By AI agents, Wed Nov 11 2026. No macro, syntax, notation, axiom, sorry.
-/
import Derived.Test.YtiagaoeaploijaaDoorChecked
import GoSem.Claim
import GoSem.ClaimJoined
import GoSem.ClaimMapViews
import Derived.JoinedTies
import Derived.KernelRfl
namespace Go.Proofs.YtiagaoeaploijaaDoor
/- THE CELL 'sum', in the pinned program and in every row, IS THE sha256 OF THE DUMP (.gsa) THAT YtiagaoeaploijaaDoorProg.lean LOADS. Nothing in Lean hashes anything: it is a label: what it is worth is what the hold of that sum in a sandbox is worth. -/
noncomputable def Tryd.pinned : Pinned := { name := "ytiagaoeaploijaadoor", sum := "1e95c9473745865f7a1c3edf6e45fddfb62096f9426c68968acc5851e6968e68", checked := Tryd.checked }
namespace Rows
def none {H : Type} : Left H := { results := [], args := [] }

/- WHAT THE LISTED PACKAGE-LEVEL VARIABLES READ AS WHEN THE CALL BEGINS. Each datum BY PROGRAM (the guide's laid-datum.mjs) off the statement by which the dump's own 'gosem.cut.vars' lays the variable. In a bare row this is a premise. The card (YtiagaoeaploijaaDoorCards.lean) ties it to the program's text. -/
def laid_notary_sha_words {H : Type} : DataW H := .agg [.lit (.int .u32 1116352408), .lit (.int .u32 1899447441), .lit (.int .u32 3049323471), .lit (.int .u32 3921009573), .lit (.int .u32 961987163), .lit (.int .u32 1508970993), .lit (.int .u32 2453635748), .lit (.int .u32 2870763221), .lit (.int .u32 3624381080), .lit (.int .u32 310598401), .lit (.int .u32 607225278), .lit (.int .u32 1426881987), .lit (.int .u32 1925078388), .lit (.int .u32 2162078206), .lit (.int .u32 2614888103), .lit (.int .u32 3248222580), .lit (.int .u32 3835390401), .lit (.int .u32 4022224774), .lit (.int .u32 264347078), .lit (.int .u32 604807628), .lit (.int .u32 770255983), .lit (.int .u32 1249150122), .lit (.int .u32 1555081692), .lit (.int .u32 1996064986), .lit (.int .u32 2554220882), .lit (.int .u32 2821834349), .lit (.int .u32 2952996808), .lit (.int .u32 3210313671), .lit (.int .u32 3336571891), .lit (.int .u32 3584528711), .lit (.int .u32 113926993), .lit (.int .u32 338241895), .lit (.int .u32 666307205), .lit (.int .u32 773529912), .lit (.int .u32 1294757372), .lit (.int .u32 1396182291), .lit (.int .u32 1695183700), .lit (.int .u32 1986661051), .lit (.int .u32 2177026350), .lit (.int .u32 2456956037), .lit (.int .u32 2730485921), .lit (.int .u32 2820302411), .lit (.int .u32 3259730800), .lit (.int .u32 3345764771), .lit (.int .u32 3516065817), .lit (.int .u32 3600352804), .lit (.int .u32 4094571909), .lit (.int .u32 275423344), .lit (.int .u32 430227734), .lit (.int .u32 506948616), .lit (.int .u32 659060556), .lit (.int .u32 883997877), .lit (.int .u32 958139571), .lit (.int .u32 1322822218), .lit (.int .u32 1537002063), .lit (.int .u32 1747873779), .lit (.int .u32 1955562222), .lit (.int .u32 2024104815), .lit (.int .u32 2227730452), .lit (.int .u32 2361852424), .lit (.int .u32 2428436474), .lit (.int .u32 2756734187), .lit (.int .u32 3204031479), .lit (.int .u32 3329325298)]

/-- 'notarylaw02.ShaSums': WHATEVER THE INPUT: true; the input reads as it did. -/
def shaSumsSpec : ChangeSpec := { name := "shaSums", fn := fun _ => fun
  | [d] => { results := [.lit (.bool true)], args := [d] }
  | _ => none }
def shaSumsRow : OpenClaim := { program := "ytiagaoeaploijaadoor", sum := "1e95c9473745865f7a1c3edf6e45fddfb62096f9426c68968acc5851e6968e68", func := "notary/notarylaw02.ShaSums", spec := "shaSums", named := ["notary/sha.words"], apart := false, laid := [("notary/sha.words", laid_notary_sha_words)] }
def ShaSumsSaid : Prop := shaSumsRow.holds Tryd.pinned (OpenSpec.ofChange shaSumsSpec)

/-- ITS FALSE NEIGHBOUR: 'it returns false'. Refute it at one input. -/
def shaSumsWrong : ChangeSpec := { name := "shaSums", fn := fun _ => fun
  | [d] => { results := [.lit (.bool false)], args := [d] }
  | _ => none }
def ShaSumsWrongFalsely : Prop := shaSumsRow.holds Tryd.pinned (OpenSpec.ofChange shaSumsWrong)

/-- 'notarylaw02.ShaBlocks': WHATEVER THE INPUT: true; the input reads as it did. -/
def shaBlocksSpec : ChangeSpec := { name := "shaBlocks", fn := fun _ => fun
  | [d1, d2] => { results := [.lit (.bool true)], args := [d1, d2] }
  | _ => none }
def shaBlocksRow : OpenClaim := { program := "ytiagaoeaploijaadoor", sum := "1e95c9473745865f7a1c3edf6e45fddfb62096f9426c68968acc5851e6968e68", func := "notary/notarylaw02.ShaBlocks", spec := "shaBlocks", named := ["notary/sha.words"], apart := false, laid := [("notary/sha.words", laid_notary_sha_words)] }
def ShaBlocksSaid : Prop := shaBlocksRow.holds Tryd.pinned (OpenSpec.ofChange shaBlocksSpec)

/-- ITS FALSE NEIGHBOUR: 'it returns false'. Refute it at one input. -/
def shaBlocksWrong : ChangeSpec := { name := "shaBlocks", fn := fun _ => fun
  | [d1, d2] => { results := [.lit (.bool false)], args := [d1, d2] }
  | _ => none }
def ShaBlocksWrongFalsely : Prop := shaBlocksRow.holds Tryd.pinned (OpenSpec.ofChange shaBlocksWrong)

/-- 'notarylaw02.ShaPads': WHATEVER THE INPUT: true; the input reads as it did. -/
def shaPadsSpec : ChangeSpec := { name := "shaPads", fn := fun _ => fun
  | [d] => { results := [.lit (.bool true)], args := [d] }
  | _ => none }
def shaPadsRow : OpenClaim := { program := "ytiagaoeaploijaadoor", sum := "1e95c9473745865f7a1c3edf6e45fddfb62096f9426c68968acc5851e6968e68", func := "notary/notarylaw02.ShaPads", spec := "shaPads", named := ["notary/sha.words"], apart := false, laid := [("notary/sha.words", laid_notary_sha_words)] }
def ShaPadsSaid : Prop := shaPadsRow.holds Tryd.pinned (OpenSpec.ofChange shaPadsSpec)

/-- ITS FALSE NEIGHBOUR: 'it returns false'. Refute it at one input. -/
def shaPadsWrong : ChangeSpec := { name := "shaPads", fn := fun _ => fun
  | [d] => { results := [.lit (.bool false)], args := [d] }
  | _ => none }
def ShaPadsWrongFalsely : Prop := shaPadsRow.holds Tryd.pinned (OpenSpec.ofChange shaPadsWrong)

/-- 'notarylaw02.ShaConstants': WHATEVER THE INPUT: true; the input reads as it did. -/
def shaConstantsSpec : ChangeSpec := { name := "shaConstants", fn := fun _ => fun
  | [] => { results := [.lit (.bool true)], args := [] }
  | _ => none }
def shaConstantsRow : OpenClaim := { program := "ytiagaoeaploijaadoor", sum := "1e95c9473745865f7a1c3edf6e45fddfb62096f9426c68968acc5851e6968e68", func := "notary/notarylaw02.ShaConstants", spec := "shaConstants", named := ["notary/sha.words"], apart := false, laid := [("notary/sha.words", laid_notary_sha_words)] }
def ShaConstantsSaid : Prop := shaConstantsRow.holds Tryd.pinned (OpenSpec.ofChange shaConstantsSpec)

/-- ITS FALSE NEIGHBOUR: 'it returns false'. Refute it at one input. -/
def shaConstantsWrong : ChangeSpec := { name := "shaConstants", fn := fun _ => fun
  | [] => { results := [.lit (.bool false)], args := [] }
  | _ => none }
def ShaConstantsWrongFalsely : Prop := shaConstantsRow.holds Tryd.pinned (OpenSpec.ofChange shaConstantsWrong)

/-- 'notarylaw02.ShaPieces': WHATEVER THE INPUT: true; the input reads as it did. -/
def shaPiecesSpec : ChangeSpec := { name := "shaPieces", fn := fun _ => fun
  | [d1, d2] => { results := [.lit (.bool true)], args := [d1, d2] }
  | _ => none }
def shaPiecesRow : OpenClaim := { program := "ytiagaoeaploijaadoor", sum := "1e95c9473745865f7a1c3edf6e45fddfb62096f9426c68968acc5851e6968e68", func := "notary/notarylaw02.ShaPieces", spec := "shaPieces", named := ["notary/sha.words"], apart := false, laid := [("notary/sha.words", laid_notary_sha_words)] }
def ShaPiecesSaid : Prop := shaPiecesRow.holds Tryd.pinned (OpenSpec.ofChange shaPiecesSpec)

/-- ITS FALSE NEIGHBOUR: 'it returns false'. Refute it at one input. -/
def shaPiecesWrong : ChangeSpec := { name := "shaPieces", fn := fun _ => fun
  | [d1, d2] => { results := [.lit (.bool false)], args := [d1, d2] }
  | _ => none }
def ShaPiecesWrongFalsely : Prop := shaPiecesRow.holds Tryd.pinned (OpenSpec.ofChange shaPiecesWrong)

/-- 'notarylaw02.ShaChain': WHATEVER THE INPUT: true; the input reads as it did. -/
def shaChainSpec : ChangeSpec := { name := "shaChain", fn := fun _ => fun
  | [d] => { results := [.lit (.bool true)], args := [d] }
  | _ => none }
def shaChainRow : OpenClaim := { program := "ytiagaoeaploijaadoor", sum := "1e95c9473745865f7a1c3edf6e45fddfb62096f9426c68968acc5851e6968e68", func := "notary/notarylaw02.ShaChain", spec := "shaChain", named := ["notary/sha.words"], apart := false, laid := [("notary/sha.words", laid_notary_sha_words)] }
def ShaChainSaid : Prop := shaChainRow.holds Tryd.pinned (OpenSpec.ofChange shaChainSpec)

/-- ITS FALSE NEIGHBOUR: 'it returns false'. Refute it at one input. -/
def shaChainWrong : ChangeSpec := { name := "shaChain", fn := fun _ => fun
  | [d] => { results := [.lit (.bool false)], args := [d] }
  | _ => none }
def ShaChainWrongFalsely : Prop := shaChainRow.holds Tryd.pinned (OpenSpec.ofChange shaChainWrong)

/-- 'notarylaw02.ShaMemory': WHATEVER THE INPUT: true; the input reads as it did. -/
def shaMemorySpec : ChangeSpec := { name := "shaMemory", fn := fun _ => fun
  | [d1, d2] => { results := [.lit (.bool true)], args := [d1, d2] }
  | _ => none }
def shaMemoryRow : OpenClaim := { program := "ytiagaoeaploijaadoor", sum := "1e95c9473745865f7a1c3edf6e45fddfb62096f9426c68968acc5851e6968e68", func := "notary/notarylaw02.ShaMemory", spec := "shaMemory", named := ["notary/sha.words"], apart := false, laid := [("notary/sha.words", laid_notary_sha_words)] }
def ShaMemorySaid : Prop := shaMemoryRow.holds Tryd.pinned (OpenSpec.ofChange shaMemorySpec)

/-- ITS FALSE NEIGHBOUR: 'it returns false'. Refute it at one input. -/
def shaMemoryWrong : ChangeSpec := { name := "shaMemory", fn := fun _ => fun
  | [d1, d2] => { results := [.lit (.bool false)], args := [d1, d2] }
  | _ => none }
def ShaMemoryWrongFalsely : Prop := shaMemoryRow.holds Tryd.pinned (OpenSpec.ofChange shaMemoryWrong)

/-- 'notarylaw02.ShaCopies': WHATEVER THE INPUT: true; the input reads as it did. -/
def shaCopiesSpec : ChangeSpec := { name := "shaCopies", fn := fun _ => fun
  | [d1, d2, d3] => { results := [.lit (.bool true)], args := [d1, d2, d3] }
  | _ => none }
def shaCopiesRow : OpenClaim := { program := "ytiagaoeaploijaadoor", sum := "1e95c9473745865f7a1c3edf6e45fddfb62096f9426c68968acc5851e6968e68", func := "notary/notarylaw02.ShaCopies", spec := "shaCopies", named := ["notary/sha.words"], apart := false, laid := [("notary/sha.words", laid_notary_sha_words)] }
def ShaCopiesSaid : Prop := shaCopiesRow.holds Tryd.pinned (OpenSpec.ofChange shaCopiesSpec)

/-- ITS FALSE NEIGHBOUR: 'it returns false'. Refute it at one input. -/
def shaCopiesWrong : ChangeSpec := { name := "shaCopies", fn := fun _ => fun
  | [d1, d2, d3] => { results := [.lit (.bool false)], args := [d1, d2, d3] }
  | _ => none }
def ShaCopiesWrongFalsely : Prop := shaCopiesRow.holds Tryd.pinned (OpenSpec.ofChange shaCopiesWrong)

/-- 'notarylaw02.ShaNil': WHATEVER THE INPUT: true; the input reads as it did. -/
def shaNilSpec : ChangeSpec := { name := "shaNil", fn := fun _ => fun
  | [] => { results := [.lit (.bool true)], args := [] }
  | _ => none }
def shaNilRow : OpenClaim := { program := "ytiagaoeaploijaadoor", sum := "1e95c9473745865f7a1c3edf6e45fddfb62096f9426c68968acc5851e6968e68", func := "notary/notarylaw02.ShaNil", spec := "shaNil", named := ["notary/sha.words"], apart := false, laid := [("notary/sha.words", laid_notary_sha_words)] }
def ShaNilSaid : Prop := shaNilRow.holds Tryd.pinned (OpenSpec.ofChange shaNilSpec)

/-- ITS FALSE NEIGHBOUR: 'it returns false'. Refute it at one input. -/
def shaNilWrong : ChangeSpec := { name := "shaNil", fn := fun _ => fun
  | [] => { results := [.lit (.bool false)], args := [] }
  | _ => none }
def ShaNilWrongFalsely : Prop := shaNilRow.holds Tryd.pinned (OpenSpec.ofChange shaNilWrong)

/-- 'notarytop.WholeSha': WHATEVER THE INPUT: true; the input reads as it did. -/
def wholeShaSpec : ChangeSpec := { name := "wholeSha", fn := fun _ => fun
  | [d1, d2] => { results := [.lit (.bool true)], args := [d1, d2] }
  | _ => none }
def wholeShaRow : OpenClaim := { program := "ytiagaoeaploijaadoor", sum := "1e95c9473745865f7a1c3edf6e45fddfb62096f9426c68968acc5851e6968e68", func := "notary/notarytop.WholeSha", spec := "wholeSha", named := ["notary/sha.words"], apart := false, laid := [("notary/sha.words", laid_notary_sha_words)] }
def WholeShaSaid : Prop := wholeShaRow.holds Tryd.pinned (OpenSpec.ofChange wholeShaSpec)

/-- ITS FALSE NEIGHBOUR: 'it returns false'. Refute it at one input. -/
def wholeShaWrong : ChangeSpec := { name := "wholeSha", fn := fun _ => fun
  | [d1, d2] => { results := [.lit (.bool false)], args := [d1, d2] }
  | _ => none }
def WholeShaWrongFalsely : Prop := wholeShaRow.holds Tryd.pinned (OpenSpec.ofChange wholeShaWrong)

/- THE SECOND FORM. 'bulk': how many values and letters a reading holds, each counted each time it is reached (what is shared counts as often as it is met; a slice's spare places count too). A statement '..UptoSaid' is the law's where the arguments, and the package variables that the reading takes, are together of bulk at most 1048576: NARROWER than '..Said'. Prove '..Said' where nothing that the law and all that it calls make is longer than what came in: it says more and counts as full. Else prove '..UptoSaid'. A law counts once. -/
mutual
def uptoBulk {H : Type} : DataW H → Nat
  | .lit (.string bytes) => bytes.length + 1
  | .lit _ => 1
  | .nil => 1
  | .ptr d => uptoBulk d + 1
  | .slice elems spare => uptoBulkAll elems + uptoBulkAll spare + 1
  | .agg parts => uptoBulkAll parts + 1
  | .iface _ d => uptoBulk d + 1
  | .map entries => uptoBulkEntries entries + 1
  | .held _ => 1
def uptoBulkAll {H : Type} : List (DataW H) → Nat
  | [] => 0
  | d :: r => uptoBulk d + uptoBulkAll r
def uptoBulkEntries {H : Type} : List (Lit × DataW H) → Nat
  | [] => 0
  | x :: r => uptoBulkEntry x + uptoBulkEntries r
def uptoBulkEntry {H : Type} : Lit × DataW H → Nat
  | (.string bytes, d) => bytes.length + uptoBulk d + 1
  | (_, d) => uptoBulk d + 1
 end
def uptoSmall : (H : Type) → List (DataW H) → Bool := fun _ ds => decide (uptoBulkAll ds ≤ 1048576)
def OpenSpec.upto (s : _root_.Go.ChangeSpec) : _root_.Go.OpenSpec := { _root_.Go.OpenSpec.ofChange s with cond := some uptoSmall }

/-- 'notarylaw02.ShaSums', WHERE WHAT IT READS IS OF BULK AT MOST 1048576: true; the input reads as it did. -/
def shaSumsUptoRow : OpenClaim := { program := "ytiagaoeaploijaadoor", sum := "1e95c9473745865f7a1c3edf6e45fddfb62096f9426c68968acc5851e6968e68", func := "notary/notarylaw02.ShaSums", spec := "shaSums", named := ["notary/sha.words"], apart := false, laid := [("notary/sha.words", laid_notary_sha_words)], narrowed := true }
def ShaSumsUptoSaid : Prop := shaSumsUptoRow.holds Tryd.pinned (OpenSpec.upto shaSumsSpec)

/-- 'notarylaw02.ShaBlocks', WHERE WHAT IT READS IS OF BULK AT MOST 1048576: true; the input reads as it did. -/
def shaBlocksUptoRow : OpenClaim := { program := "ytiagaoeaploijaadoor", sum := "1e95c9473745865f7a1c3edf6e45fddfb62096f9426c68968acc5851e6968e68", func := "notary/notarylaw02.ShaBlocks", spec := "shaBlocks", named := ["notary/sha.words"], apart := false, laid := [("notary/sha.words", laid_notary_sha_words)], narrowed := true }
def ShaBlocksUptoSaid : Prop := shaBlocksUptoRow.holds Tryd.pinned (OpenSpec.upto shaBlocksSpec)

/-- 'notarylaw02.ShaPads', WHERE WHAT IT READS IS OF BULK AT MOST 1048576: true; the input reads as it did. -/
def shaPadsUptoRow : OpenClaim := { program := "ytiagaoeaploijaadoor", sum := "1e95c9473745865f7a1c3edf6e45fddfb62096f9426c68968acc5851e6968e68", func := "notary/notarylaw02.ShaPads", spec := "shaPads", named := ["notary/sha.words"], apart := false, laid := [("notary/sha.words", laid_notary_sha_words)], narrowed := true }
def ShaPadsUptoSaid : Prop := shaPadsUptoRow.holds Tryd.pinned (OpenSpec.upto shaPadsSpec)

/-- 'notarylaw02.ShaConstants', WHERE WHAT IT READS IS OF BULK AT MOST 1048576: true; the input reads as it did. -/
def shaConstantsUptoRow : OpenClaim := { program := "ytiagaoeaploijaadoor", sum := "1e95c9473745865f7a1c3edf6e45fddfb62096f9426c68968acc5851e6968e68", func := "notary/notarylaw02.ShaConstants", spec := "shaConstants", named := ["notary/sha.words"], apart := false, laid := [("notary/sha.words", laid_notary_sha_words)], narrowed := true }
def ShaConstantsUptoSaid : Prop := shaConstantsUptoRow.holds Tryd.pinned (OpenSpec.upto shaConstantsSpec)

/-- 'notarylaw02.ShaPieces', WHERE WHAT IT READS IS OF BULK AT MOST 1048576: true; the input reads as it did. -/
def shaPiecesUptoRow : OpenClaim := { program := "ytiagaoeaploijaadoor", sum := "1e95c9473745865f7a1c3edf6e45fddfb62096f9426c68968acc5851e6968e68", func := "notary/notarylaw02.ShaPieces", spec := "shaPieces", named := ["notary/sha.words"], apart := false, laid := [("notary/sha.words", laid_notary_sha_words)], narrowed := true }
def ShaPiecesUptoSaid : Prop := shaPiecesUptoRow.holds Tryd.pinned (OpenSpec.upto shaPiecesSpec)

/-- 'notarylaw02.ShaChain', WHERE WHAT IT READS IS OF BULK AT MOST 1048576: true; the input reads as it did. -/
def shaChainUptoRow : OpenClaim := { program := "ytiagaoeaploijaadoor", sum := "1e95c9473745865f7a1c3edf6e45fddfb62096f9426c68968acc5851e6968e68", func := "notary/notarylaw02.ShaChain", spec := "shaChain", named := ["notary/sha.words"], apart := false, laid := [("notary/sha.words", laid_notary_sha_words)], narrowed := true }
def ShaChainUptoSaid : Prop := shaChainUptoRow.holds Tryd.pinned (OpenSpec.upto shaChainSpec)

/-- 'notarylaw02.ShaMemory', WHERE WHAT IT READS IS OF BULK AT MOST 1048576: true; the input reads as it did. -/
def shaMemoryUptoRow : OpenClaim := { program := "ytiagaoeaploijaadoor", sum := "1e95c9473745865f7a1c3edf6e45fddfb62096f9426c68968acc5851e6968e68", func := "notary/notarylaw02.ShaMemory", spec := "shaMemory", named := ["notary/sha.words"], apart := false, laid := [("notary/sha.words", laid_notary_sha_words)], narrowed := true }
def ShaMemoryUptoSaid : Prop := shaMemoryUptoRow.holds Tryd.pinned (OpenSpec.upto shaMemorySpec)

/-- 'notarylaw02.ShaCopies', WHERE WHAT IT READS IS OF BULK AT MOST 1048576: true; the input reads as it did. -/
def shaCopiesUptoRow : OpenClaim := { program := "ytiagaoeaploijaadoor", sum := "1e95c9473745865f7a1c3edf6e45fddfb62096f9426c68968acc5851e6968e68", func := "notary/notarylaw02.ShaCopies", spec := "shaCopies", named := ["notary/sha.words"], apart := false, laid := [("notary/sha.words", laid_notary_sha_words)], narrowed := true }
def ShaCopiesUptoSaid : Prop := shaCopiesUptoRow.holds Tryd.pinned (OpenSpec.upto shaCopiesSpec)

/-- 'notarylaw02.ShaNil', WHERE WHAT IT READS IS OF BULK AT MOST 1048576: true; the input reads as it did. -/
def shaNilUptoRow : OpenClaim := { program := "ytiagaoeaploijaadoor", sum := "1e95c9473745865f7a1c3edf6e45fddfb62096f9426c68968acc5851e6968e68", func := "notary/notarylaw02.ShaNil", spec := "shaNil", named := ["notary/sha.words"], apart := false, laid := [("notary/sha.words", laid_notary_sha_words)], narrowed := true }
def ShaNilUptoSaid : Prop := shaNilUptoRow.holds Tryd.pinned (OpenSpec.upto shaNilSpec)

/-- 'notarytop.WholeSha', WHERE WHAT IT READS IS OF BULK AT MOST 1048576: true; the input reads as it did. -/
def wholeShaUptoRow : OpenClaim := { program := "ytiagaoeaploijaadoor", sum := "1e95c9473745865f7a1c3edf6e45fddfb62096f9426c68968acc5851e6968e68", func := "notary/notarytop.WholeSha", spec := "wholeSha", named := ["notary/sha.words"], apart := false, laid := [("notary/sha.words", laid_notary_sha_words)], narrowed := true }
def WholeShaUptoSaid : Prop := wholeShaUptoRow.holds Tryd.pinned (OpenSpec.upto wholeShaSpec)

end Rows
end Go.Proofs.YtiagaoeaploijaaDoor
