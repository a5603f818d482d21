/- What the rows of this seat share: the world of the witnesses; how the arguments are opened; the given bound. -/
import Derived.Test.YtbhbhdojmacpmaaDoorCards
import Derived.Test.YtbhbhdojmacpmaaDoorTie
import Derived.Test.YtbhbhdojmacpmaaDoorSxQ
import Derived.Test.YtbhbhdojmacpmaaDoorMck4
import Derived.Test.YtbhbhdojmacpmaaDoorShaV
import Derived.Lib.LaidTab
set_option linter.unusedVariables false
set_option linter.unusedSimpArgs false
namespace Go.Proofs.YtbhbhdojmacpmaaDoor
open Go.Sx Go.Ps Go.ChangeShapes Go.WideShapes Go.ChangeAt Go.RowKit

theorem own : ownKnob Tryd.prog.godebug = none := by kernel_rfl
theorem laidOut : laidOutB Tryd.prog = true := by kernel_rfl
theorem gTab : Tryd.prog.globalNamed "notary/sha.words" = some 0 := by kernel_rfl
theorem gTabType : (Tryd.prog.globals[0]?).map (·.type) = some 109 := by kernel_rfl
theorem cellsTab : Tryd.prog.cellsOf 109 = 64 := by kernel_rfl
theorem cellsWord : Tryd.prog.cellsOf 99 = 1 := by kernel_rfl
def tabZ : List Int := KT.map fun x => (x.toNat : Int)
theorem laid_is : [("notary/sha.words", Rows.laid_notary_sha_words (H := Unit))] = [("notary/sha.words", Lib.tabData .u32 tabZ)] := by kernel_rfl
theorem kw {W : World} (h : laidMetH Tryd.prog [("notary/sha.words", Rows.laid_notary_sha_words)] W) : KW W := by
  have h1 : laidMetH Tryd.prog [("notary/sha.words", Lib.tabData .u32 tabZ)] W := laid_is ▸ h
  have h2 : Lib.TabIs Tryd.prog W "notary/sha.words" .u32 tabZ := Lib.tabIs_of_head (rest := []) gTab gTabType Tryd.underlying109 Tryd.underlying99 cellsWord cellsTab h1
  intro i hi
  have hi' : i < tabZ.length := hi
  rw [h2.cell gTab i hi']
  have hi2 : i < KT.length := hi
  have h3 : tabZ.getD i 0 = ((gw KT i).toNat : Int) := by simp [tabZ, gw, List.getD_eq_getElem?_getD, hi2]
  rw [h3]; rfl
/-- A world for the witness: the settled one, the table holding its words. -/
noncomputable def laidWorld (os : Os) : World :=
  { World.holding Tryd.prog os ⟨#[], #[], []⟩ with heap := (World.holding Tryd.prog os ⟨#[], #[], []⟩).heap.modify 0 fun
      | .cells _ t frozen => .cells (tabZ.map fun z => Value.int .u32 z).toArray t frozen
      | o => o }

/-! The bound of the second form. -/
theorem bulkAll {H : Type} : ∀ l : List (DataW H), Rows.uptoBulkAll l = (l.map Rows.uptoBulk).sum
  | [] => rfl
  | x :: r => by rw [Rows.uptoBulkAll, bulkAll r]; rfl
theorem bulk {H : Type} : Bulk (H := H) Rows.uptoBulk where
  pos d := by
    cases d with
    | lit l => cases l <;> simp [Rows.uptoBulk]
    | _ => simp [Rows.uptoBulk]
  slice el sp := by rw [Rows.uptoBulk, bulkAll, bulkAll]
  agg ps := by rw [Rows.uptoBulk, bulkAll]
  str bs := by simp [Rows.uptoBulk]
theorem bulk_bound {H : Type} {l : List (DataW H)} (hk : Rows.uptoSmall H l = true) : (l.map Rows.uptoBulk).sum ≤ 1048576 := by
  rw [← bulkAll]; simpa [Rows.uptoSmall] using hk
theorem o5 {H : Type} {enc : TypeId × Value → H} : Opener enc Tryd.prog Rows.uptoBulk 5 (fun x => [vU8 x]) noOk noSz := opener_u8 bulk Tryd.underlying5
theorem o23 {H : Type} {enc : TypeId × Value → H} : Opener enc Tryd.prog Rows.uptoBulk 23 (fun l : List UInt8 => l.map vU8) (fun w (l : List UInt8) => l.length = 32 ∧ ∀ x ∈ l, noOk w x) noSz := opener_arr bulk Tryd.underlying23 (by kernel_rfl) (by kernel_rfl) o5
theorem o3 {H : Type} {enc : TypeId × Value → H} : Opener enc Tryd.prog Rows.uptoBulk 3 (fun x => [vInt x]) okInt noSz := opener_int bulk Tryd.underlying3
theorem o24 {H : Type} {enc : TypeId × Value → H} : Opener enc Tryd.prog Rows.uptoBulk 24 (fun x => [vU64 x]) noOk noSz := opener_u64 bulk Tryd.underlying24
theorem o25 {H : Type} {enc : TypeId × Value → H} : Opener enc Tryd.prog Rows.uptoBulk 25 (fun s : Sl (List UInt8) => [s.v]) (Sl.ok (fun l : List UInt8 => l.map vU8) 32 (fun w (l : List UInt8) => l.length = 32 ∧ ∀ x ∈ l, noOk w x)) (Sl.sz noSz) := opener_slice (n := 32) (b := 32) bulk Tryd.underlying25 (by kernel_rfl) (by kernel_rfl) (by decide) o23
theorem o27 {H : Type} {enc : TypeId × Value → H} : Opener enc Tryd.prog Rows.uptoBulk 27 (fun x : (Int) × (List UInt8) × (UInt64) × (UInt64) × (Sl (List UInt8)) × (List UInt8) × Unit => ((fun x => [vInt x]) x.1 ++ ((fun l : List UInt8 => l.map vU8) x.2.1 ++ ((fun x => [vU64 x]) x.2.2.1 ++ ((fun x => [vU64 x]) x.2.2.2.1 ++ ((fun s : Sl (List UInt8) => [s.v]) x.2.2.2.2.1 ++ ((fun l : List UInt8 => l.map vU8) x.2.2.2.2.2.1 ++ []))))))) (fun w (x : (Int) × (List UInt8) × (UInt64) × (UInt64) × (Sl (List UInt8)) × (List UInt8) × Unit) => (okInt w x.1 ∧ ((fun w (l : List UInt8) => l.length = 32 ∧ ∀ x ∈ l, noOk w x) w x.2.1 ∧ (noOk w x.2.2.1 ∧ (noOk w x.2.2.2.1 ∧ ((Sl.ok (fun l : List UInt8 => l.map vU8) 32 (fun w (l : List UInt8) => l.length = 32 ∧ ∀ x ∈ l, noOk w x)) w x.2.2.2.2.1 ∧ ((fun w (l : List UInt8) => l.length = 32 ∧ ∀ x ∈ l, noOk w x) w x.2.2.2.2.2.1 ∧ noOk w x.2.2.2.2.2.2))))))) (fun x : (Int) × (List UInt8) × (UInt64) × (UInt64) × (Sl (List UInt8)) × (List UInt8) × Unit => (noSz x.1 + (noSz x.2.1 + (noSz x.2.2.1 + (noSz x.2.2.2.1 + ((Sl.sz noSz) x.2.2.2.2.1 + (noSz x.2.2.2.2.2.1 + noSz x.2.2.2.2.2.2))))))) := by
  have h := (fields_cons (enc := enc) (P := Tryd.prog) (B := Rows.uptoBulk) (t := 3) (k := 0) (n := 1) (by kernel_rfl) o3 (fields_cons (t := 23) (k := 1) (n := 32) (by kernel_rfl) o23 (fields_cons (t := 24) (k := 33) (n := 1) (by kernel_rfl) o24 (fields_cons (t := 24) (k := 34) (n := 1) (by kernel_rfl) o24 (fields_cons (t := 25) (k := 35) (n := 1) (by kernel_rfl) o25 (fields_cons (t := 23) (k := 36) (n := 32) (by kernel_rfl) o23 fields_nil))))))
  exact opener_struct (L := [(3, 0), (23, 1), (24, 33), (24, 34), (25, 35), (23, 36)]) bulk Tryd.underlying27 (by kernel_rfl) (by kernel_rfl) h
structure AskProof (w : World) (s : Sl (List UInt8)) : Prop where
  el : ∀ d ∈ s.xs, d.length = 32
  rd : Rd w s.a (s.xs.flatMap fun d => d.map vU8)
  le : s.xs.length ≤ s.c
  lt : s.xs.length < 9223372036854775808
  hb : (s.xs.length + 2) * 32 ≤ 140737488355328
  hb8 : s.xs.length + 8 ≤ 4398046511104
theorem askProof {w : World} {s : Sl (List UInt8)} (h : (Sl.ok (fun l : List UInt8 => l.map vU8) 32 (fun w (l : List UInt8) => l.length = 32 ∧ ∀ x ∈ l, noOk w x)) w s) : AskProof w s := by
  have h1 := h.bytes
  have h2 := h.le
  exact ⟨fun d hd => (h.each d hd).1, h.rd, h2, by have := h1; omega, by have := h1; omega, by have := h1; omega⟩
theorem oAsk {H : Type} {enc : TypeId × Value → H} : Opener enc Tryd.prog Rows.uptoBulk 27 (fun x : Int × List UInt8 × UInt64 × UInt64 × Sl (List UInt8) × List UInt8 => askC x.1 x.2.1 x.2.2.1 x.2.2.2.1 x.2.2.2.2.1.v x.2.2.2.2.2) (fun w (x : Int × List UInt8 × UInt64 × UInt64 × Sl (List UInt8) × List UInt8) => okInt w x.1 ∧ x.2.1.length = 32 ∧ AskProof w x.2.2.2.2.1 ∧ x.2.2.2.2.2.length = 32) (fun x : Int × List UInt8 × UInt64 × UInt64 × Sl (List UInt8) × List UInt8 => x.2.2.2.2.1.c) := Opener.map o27 (fun x => (x.1, x.2.1, x.2.2.1, x.2.2.2.1, x.2.2.2.2.1, x.2.2.2.2.2.1)) (fun _ x _ => by simp [askC]) (fun _ x h => ⟨h.1, h.2.1.1, askProof h.2.2.2.2.1, h.2.2.2.2.2.1.1⟩) (fun x => by simp only [Sl.sz]; omega)
end Go.Proofs.YtbhbhdojmacpmaaDoor
