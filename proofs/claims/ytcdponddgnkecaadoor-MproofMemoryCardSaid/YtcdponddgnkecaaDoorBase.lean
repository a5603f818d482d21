import Derived.Test.YtcdponddgnkecaaDoorCards
import Derived.Test.YtcdponddgnkecaaDoorTie
import Derived.Test.YtcdponddgnkecaaDoorSxL
import Derived.Test.YtcdponddgnkecaaDoorMt7
import Derived.Test.YtcdponddgnkecaaDoorPSha
import Derived.Lib.LaidTab
set_option linter.unusedVariables false
set_option linter.unusedSimpArgs false
namespace Go.Proofs.YtcdponddgnkecaaDoor
open Go.Sx Go.Ps Go.ChangeShapes Go.WideShapes Go.ChangeAt Go.RowKit

theorem own : ownKnob Tryd.prog.godebug = none := by kernel_rfl
theorem laidOut : laidOutB Tryd.prog = true := by kernel_rfl
theorem gTab : Tryd.prog.globalNamed "notary/sha.words" = some 0 := by kernel_rfl
theorem gTabType : (Tryd.prog.globals[0]?).map (·.type) = some 144 := by kernel_rfl
theorem cellsTab : Tryd.prog.cellsOf 144 = 64 := by kernel_rfl
theorem cellsWord : Tryd.prog.cellsOf 135 = 1 := by kernel_rfl
def tabZ : List Int := KT.map fun x => (x.toNat : Int)
theorem laid_is : [("notary/sha.words", Rows.laid_notary_sha_words (H := Unit))] = [("notary/sha.words", Lib.tabData .u32 tabZ)] := by kernel_rfl
theorem kw {W : World} (h : laidMetH Tryd.prog [("notary/sha.words", Rows.laid_notary_sha_words)] W) : KW W := by
  have h1 : laidMetH Tryd.prog [("notary/sha.words", Lib.tabData .u32 tabZ)] W := laid_is ▸ h
  have h2 : Lib.TabIs Tryd.prog W "notary/sha.words" .u32 tabZ := Lib.tabIs_of_head (rest := []) gTab gTabType Tryd.underlying144 Tryd.underlying135 cellsWord cellsTab h1
  intro i hi
  have hi' : i < tabZ.length := hi
  rw [h2.cell gTab i hi']
  have hi2 : i < KT.length := hi
  have h3 : tabZ.getD i 0 = ((gw KT i).toNat : Int) := by simp [tabZ, gw, List.getD_eq_getElem?_getD, hi2]
  rw [h3]; rfl
/-- A world for the witness: the settled one, the table holding its words. -/
noncomputable def laidWorld (os : Os) : World :=
  { World.holding Tryd.prog os ⟨#[], #[], []⟩ with heap := (World.holding Tryd.prog os ⟨#[], #[], []⟩).heap.modify 0 fun
      | .cells _ t frozen => .cells (tabZ.map fun z => Value.int .u32 z).toArray t frozen
      | o => o }

/-! The bound of the second form. -/
theorem bulkAll {H : Type} : ∀ l : List (DataW H), Rows.uptoBulkAll l = (l.map Rows.uptoBulk).sum
  | [] => rfl
  | x :: r => by rw [Rows.uptoBulkAll, bulkAll r]; rfl
theorem bulk {H : Type} : Bulk (H := H) Rows.uptoBulk where
  pos d := by
    cases d with
    | lit l => cases l <;> simp [Rows.uptoBulk]
    | _ => simp [Rows.uptoBulk]
  slice el sp := by rw [Rows.uptoBulk, bulkAll, bulkAll]
  agg ps := by rw [Rows.uptoBulk, bulkAll]
  str bs := by simp [Rows.uptoBulk]
theorem bulk_bound {H : Type} {l : List (DataW H)} (hk : Rows.uptoSmall H l = true) : (l.map Rows.uptoBulk).sum ≤ 1048576 := by
  rw [← bulkAll]; simpa [Rows.uptoSmall] using hk
theorem o5 {H : Type} {enc : TypeId × Value → H} : Opener enc Tryd.prog Rows.uptoBulk 5 (fun x => [vU8 x]) noOk noSz := opener_u8 bulk Tryd.underlying5
theorem o41 {H : Type} {enc : TypeId × Value → H} : Opener enc Tryd.prog Rows.uptoBulk 41 (fun l : List UInt8 => l.map vU8) (fun w (l : List UInt8) => l.length = 32 ∧ ∀ x ∈ l, noOk w x) noSz := opener_arr bulk Tryd.underlying41 (by kernel_rfl) (by kernel_rfl) o5
theorem o22 {H : Type} {enc : TypeId × Value → H} : Opener enc Tryd.prog Rows.uptoBulk 22 (fun s : Sl (List UInt8) => [s.v]) (Sl.ok (fun l : List UInt8 => l.map vU8) 32 (fun w (l : List UInt8) => l.length = 32 ∧ ∀ x ∈ l, noOk w x)) (Sl.sz noSz) := opener_slice (n := 32) (b := 32) bulk Tryd.underlying22 (by kernel_rfl) (by kernel_rfl) (by decide) o41
theorem o23 {H : Type} {enc : TypeId × Value → H} : Opener enc Tryd.prog Rows.uptoBulk 23 (fun x => [vU64 x]) noOk noSz := opener_u64 bulk Tryd.underlying23
theorem o3 {H : Type} {enc : TypeId × Value → H} : Opener enc Tryd.prog Rows.uptoBulk 3 (fun x => [vInt x]) okInt noSz := opener_int bulk Tryd.underlying3
theorem o56 {H : Type} {enc : TypeId × Value → H} : Opener enc Tryd.prog Rows.uptoBulk 56 (fun x => [vU16 x]) noOk noSz := opener_u16 bulk Tryd.underlying56
structure DgList (w : World) (s : Sl (List UInt8)) : Prop where
  el : ∀ d ∈ s.xs, d.length = 32
  rd : Rd w s.a (s.xs.flatMap fun d => d.map vU8)
  le : s.xs.length ≤ s.c
  lt : s.xs.length < 9223372036854775808
  hb : s.xs.length * 32 ≤ 140737488351232
theorem dgList {w : World} {s : Sl (List UInt8)} (h : (Sl.ok (fun l : List UInt8 => l.map vU8) 32 (fun w (l : List UInt8) => l.length = 32 ∧ ∀ x ∈ l, noOk w x)) w s) : DgList w s := by
  have h1 := h.bytes
  have h2 := h.le
  exact ⟨fun d hd => (h.each d hd).1, h.rd, h2, by have := h1; omega, by have := h1; omega⟩
end Go.Proofs.YtcdponddgnkecaaDoor
