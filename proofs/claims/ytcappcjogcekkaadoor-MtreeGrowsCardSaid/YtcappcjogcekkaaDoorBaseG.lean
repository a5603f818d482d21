/- What the rows of this seat share: the world of the witnesses; how the arguments are opened; the given bound. -/
import Derived.Test.YtcappcjogcekkaaDoorCards
import Derived.Test.YtcappcjogcekkaaDoorTie
import Derived.Test.YtcappcjogcekkaaDoorSxQ
import Derived.Test.YtcappcjogcekkaaDoorMt15
import Derived.Test.YtcappcjogcekkaaDoorShaV
import Derived.Lib.LaidTab
set_option linter.unusedVariables false
set_option linter.unusedSimpArgs false
namespace Go.Proofs.YtcappcjogcekkaaDoor
open Go.Sx Go.Ps Go.ChangeShapes Go.WideShapes Go.ChangeAt Go.RowKit

theorem own : ownKnob Tryd.prog.godebug = none := by kernel_rfl
theorem laidOut : laidOutB Tryd.prog = true := by kernel_rfl
theorem gTab : Tryd.prog.globalNamed "notary/sha.words" = some 0 := by kernel_rfl
theorem gTabType : (Tryd.prog.globals[0]?).map (·.type) = some 123 := by kernel_rfl
theorem cellsTab : Tryd.prog.cellsOf 123 = 64 := by kernel_rfl
theorem cellsWord : Tryd.prog.cellsOf 111 = 1 := by kernel_rfl
def tabZ : List Int := KT.map fun x => (x.toNat : Int)
theorem laid_is : [("notary/sha.words", Rows.laid_notary_sha_words (H := Unit))] = [("notary/sha.words", Lib.tabData .u32 tabZ)] := by kernel_rfl
theorem kw {W : World} (h : laidMetH Tryd.prog [("notary/sha.words", Rows.laid_notary_sha_words)] W) : KW W := by
  have h1 : laidMetH Tryd.prog [("notary/sha.words", Lib.tabData .u32 tabZ)] W := laid_is ▸ h
  have h2 : Lib.TabIs Tryd.prog W "notary/sha.words" .u32 tabZ := Lib.tabIs_of_head (rest := []) gTab gTabType Tryd.underlying123 Tryd.underlying111 cellsWord cellsTab h1
  intro i hi
  have hi' : i < tabZ.length := hi
  rw [h2.cell gTab i hi']
  have hi2 : i < KT.length := hi
  have h3 : tabZ.getD i 0 = ((gw KT i).toNat : Int) := by simp [tabZ, gw, List.getD_eq_getElem?_getD, hi2]
  rw [h3]; rfl
/-- A world for the witness: the settled one, the table holding its words. -/
noncomputable def laidWorld (os : Os) : World :=
  { World.holding Tryd.prog os ⟨#[], #[], []⟩ with heap := (World.holding Tryd.prog os ⟨#[], #[], []⟩).heap.modify 0 fun
      | .cells _ t frozen => .cells (tabZ.map fun z => Value.int .u32 z).toArray t frozen
      | o => o }

/-! The bound of the second form. -/
theorem bulkAll {H : Type} : ∀ l : List (DataW H), Rows.uptoBulkAll l = (l.map Rows.uptoBulk).sum
  | [] => rfl
  | x :: r => by rw [Rows.uptoBulkAll, bulkAll r]; rfl
theorem bulk {H : Type} : Bulk (H := H) Rows.uptoBulk where
  pos d := by
    cases d with
    | lit l => cases l <;> simp [Rows.uptoBulk]
    | _ => simp [Rows.uptoBulk]
  slice el sp := by rw [Rows.uptoBulk, bulkAll, bulkAll]
  agg ps := by rw [Rows.uptoBulk, bulkAll]
  str bs := by simp [Rows.uptoBulk]
theorem bulk_bound {H : Type} {l : List (DataW H)} (hk : Rows.uptoSmall H l = true) : (l.map Rows.uptoBulk).sum ≤ 1048576 := by
  rw [← bulkAll]; simpa [Rows.uptoSmall] using hk
theorem o5 {H : Type} {enc : TypeId × Value → H} : Opener enc Tryd.prog Rows.uptoBulk 5 (fun x => [vU8 x]) noOk noSz := opener_u8 bulk Tryd.underlying5
theorem o43 {H : Type} {enc : TypeId × Value → H} : Opener enc Tryd.prog Rows.uptoBulk 43 (fun l : List UInt8 => l.map vU8) (fun w (l : List UInt8) => l.length = 32 ∧ ∀ x ∈ l, noOk w x) noSz := opener_arr bulk Tryd.underlying43 (by kernel_rfl) (by kernel_rfl) o5
theorem o32 {H : Type} {enc : TypeId × Value → H} : Opener enc Tryd.prog Rows.uptoBulk 32 (fun s : Sl (List UInt8) => [s.v]) (Sl.ok (fun l : List UInt8 => l.map vU8) 32 (fun w (l : List UInt8) => l.length = 32 ∧ ∀ x ∈ l, noOk w x)) (Sl.sz noSz) := opener_slice (n := 32) (b := 32) bulk Tryd.underlying32 (by kernel_rfl) (by kernel_rfl) (by decide) o43
theorem o3 {H : Type} {enc : TypeId × Value → H} : Opener enc Tryd.prog Rows.uptoBulk 3 (fun x => [vInt x]) okInt noSz := opener_int bulk Tryd.underlying3
theorem o34 {H : Type} {enc : TypeId × Value → H} : Opener enc Tryd.prog Rows.uptoBulk 34 (fun x : (Int) × (Sl (List UInt8)) × Unit => ((fun x => [vInt x]) x.1 ++ ((fun s : Sl (List UInt8) => [s.v]) x.2.1 ++ []))) (fun w (x : (Int) × (Sl (List UInt8)) × Unit) => (okInt w x.1 ∧ ((Sl.ok (fun l : List UInt8 => l.map vU8) 32 (fun w (l : List UInt8) => l.length = 32 ∧ ∀ x ∈ l, noOk w x)) w x.2.1 ∧ noOk w x.2.2))) (fun x : (Int) × (Sl (List UInt8)) × Unit => (noSz x.1 + ((Sl.sz noSz) x.2.1 + noSz x.2.2))) := by
  have h := (fields_cons (enc := enc) (P := Tryd.prog) (B := Rows.uptoBulk) (t := 3) (k := 0) (n := 1) (by kernel_rfl) o3 (fields_cons (t := 32) (k := 1) (n := 1) (by kernel_rfl) o32 fields_nil))
  exact opener_struct (L := [(3, 0), (32, 1)]) bulk Tryd.underlying34 (by kernel_rfl) (by kernel_rfl) h
theorem dgL {w : World} {s : Sl (List UInt8)} (h : (Sl.ok (fun l : List UInt8 => l.map vU8) 32 (fun w (l : List UInt8) => l.length = 32 ∧ ∀ x ∈ l, noOk w x)) w s) : DgL w s := by
  have h1 := h.bytes
  have h2 := h.le
  exact ⟨fun d hd => (h.each d hd).1, h.rd, h2, by have := h1; omega⟩
theorem oGrw {H : Type} {enc : TypeId × Value → H} : Opener enc Tryd.prog Rows.uptoBulk 34 (fun g : Grw => gC g) (fun w (g : Grw) => okInt w g.1 ∧ DgL w g.2) (fun g : Grw => g.2.c) := Opener.map o34 (fun x => (x.1, x.2.1)) (fun _ x _ => by simp [gC]) (fun _ x h => ⟨h.1, dgL h.2.1⟩) (fun x => by simp only [Sl.sz]; omega)
theorem o22 {H : Type} {enc : TypeId × Value → H} : Opener enc Tryd.prog Rows.uptoBulk 22 (fun s : Sl (Grw) => [s.v]) (Sl.ok (fun g : Grw => gC g) 32 (fun w (g : Grw) => okInt w g.1 ∧ DgL w g.2)) (Sl.sz (fun g : Grw => g.2.c)) := opener_slice (n := 2) (b := 32) bulk Tryd.underlying22 (by kernel_rfl) (by kernel_rfl) (by decide) oGrw
end Go.Proofs.YtcappcjogcekkaaDoor
