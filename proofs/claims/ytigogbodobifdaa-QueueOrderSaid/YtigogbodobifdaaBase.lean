import Derived.Test.YtigogbodobifdaaRows
import Derived.Test.YtigogbodobifdaaChecked
import Derived.ProofKit
import Derived.LaidLaws
import Derived.Test.YtigogbodobifdaaSxQ
import Derived.Test.YtigogbodobifdaaSxY
set_option linter.unusedVariables false
set_option linter.unusedSimpArgs false
namespace Go.Proofs.Ytigogbodobifdaa
open Go.Sx Go.Ps Go.ChangeShapes Go.WideShapes Go.ChangeAt Go.RowKit

theorem own : ownKnob Try.prog.godebug = none := by kernel_rfl
theorem laidOut : laidOutB Try.prog = true := by kernel_rfl
noncomputable def laidWorld (os : Os) : World := World.holding Try.prog os ⟨#[], #[], []⟩

/-! The bound of the second form. -/
theorem bulkAll {H : Type} : ∀ l : List (DataW H), Rows.uptoBulkAll l = (l.map Rows.uptoBulk).sum
  | [] => rfl
  | x :: r => by rw [Rows.uptoBulkAll, bulkAll r]; rfl
theorem bulk {H : Type} : Bulk (H := H) Rows.uptoBulk where
  pos d := by
    cases d with
    | lit l => cases l <;> simp [Rows.uptoBulk]
    | _ => simp [Rows.uptoBulk]
  slice el sp := by rw [Rows.uptoBulk, bulkAll, bulkAll]
  agg ps := by rw [Rows.uptoBulk, bulkAll]
  str bs := by simp [Rows.uptoBulk]
theorem bulk_bound {H : Type} {l : List (DataW H)} (hk : Rows.uptoSmall H l = true) : (l.map Rows.uptoBulk).sum ≤ 1048576 := by
  rw [← bulkAll]; simpa [Rows.uptoSmall] using hk
theorem o3 {H : Type} {enc : TypeId × Value → H} : Opener enc Try.prog Rows.uptoBulk 3 (fun x => [vInt x]) okInt noSz := opener_int bulk Try.underlying3
theorem o9 {H : Type} {enc : TypeId × Value → H} : Opener enc Try.prog Rows.uptoBulk 9 (fun x => [.string x]) noOk noSz := opener_string bulk Try.underlying9
theorem o5 {H : Type} {enc : TypeId × Value → H} : Opener enc Try.prog Rows.uptoBulk 5 (fun x => [vU8 x]) noOk noSz := opener_u8 bulk Try.underlying5
theorem o32 {H : Type} {enc : TypeId × Value → H} : Opener enc Try.prog Rows.uptoBulk 32 (fun x : (Int) × (Int) × Unit => ((fun x => [vInt x]) x.1 ++ ((fun x => [vInt x]) x.2.1 ++ []))) (fun w (x : (Int) × (Int) × Unit) => (okInt w x.1 ∧ (okInt w x.2.1 ∧ noOk w x.2.2))) (fun x : (Int) × (Int) × Unit => (noSz x.1 + (noSz x.2.1 + noSz x.2.2))) := by
  have h := (fields_cons (enc := enc) (P := Try.prog) (B := Rows.uptoBulk) (t := 3) (k := 0) (n := 1) (by kernel_rfl) o3 (fields_cons (t := 3) (k := 1) (n := 1) (by kernel_rfl) o3 fields_nil))
  exact opener_struct (L := [(3, 0), (3, 1)]) bulk Try.underlying32 (by kernel_rfl) (by kernel_rfl) h
theorem o22 {H : Type} {enc : TypeId × Value → H} : Opener enc Try.prog Rows.uptoBulk 22 (fun s : Sl ((Int) × (Int) × Unit) => [s.v]) (Sl.ok (fun x : (Int) × (Int) × Unit => ((fun x => [vInt x]) x.1 ++ ((fun x => [vInt x]) x.2.1 ++ []))) 16 (fun w (x : (Int) × (Int) × Unit) => (okInt w x.1 ∧ (okInt w x.2.1 ∧ noOk w x.2.2)))) (Sl.sz (fun x : (Int) × (Int) × Unit => (noSz x.1 + (noSz x.2.1 + noSz x.2.2)))) := opener_slice (n := 2) (b := 16) bulk Try.underlying22 (by kernel_rfl) (by kernel_rfl) (by decide) o32
theorem o59 {H : Type} {enc : TypeId × Value → H} : Opener enc Try.prog Rows.uptoBulk 59 (fun x => [.int .i8 x]) okI8 noSz := opener_i8 bulk Try.underlying59
theorem o58 {H : Type} {enc : TypeId × Value → H} : Opener enc Try.prog Rows.uptoBulk 58 (fun s : Sl (Int) => [s.v]) (Sl.ok (fun x => [.int .i8 x]) 1 okI8) (Sl.sz noSz) := opener_slice (n := 1) (b := 1) bulk Try.underlying58 (by kernel_rfl) (by kernel_rfl) (by decide) o59
theorem o41 {H : Type} {enc : TypeId × Value → H} : Opener enc Try.prog Rows.uptoBulk 41 (fun s : Sl (UInt8) => [s.v]) (Sl.ok (fun x => [vU8 x]) 1 noOk) (Sl.sz noSz) := opener_slice (n := 1) (b := 1) bulk Try.underlying41 (by kernel_rfl) (by kernel_rfl) (by decide) o5
theorem o36 {H : Type} {enc : TypeId × Value → H} : Opener enc Try.prog Rows.uptoBulk 36 (fun s : Sl (Sl (UInt8)) => [s.v]) (Sl.ok (fun s : Sl (UInt8) => [s.v]) 24 (Sl.ok (fun x => [vU8 x]) 1 noOk)) (Sl.sz (Sl.sz noSz)) := opener_slice (n := 1) (b := 24) bulk Try.underlying36 (by kernel_rfl) (by kernel_rfl) (by decide) o41
theorem o4 {H : Type} {enc : TypeId × Value → H} : Opener enc Try.prog Rows.uptoBulk 4 (fun x => [.bool x]) noOk noSz := opener_bool bulk Try.underlying4
theorem o37 {H : Type} {enc : TypeId × Value → H} : Opener enc Try.prog Rows.uptoBulk 37 (fun s : Sl (Bool) => [s.v]) (Sl.ok (fun x => [.bool x]) 1 noOk) (Sl.sz noSz) := opener_slice (n := 1) (b := 1) bulk Try.underlying37 (by kernel_rfl) (by kernel_rfl) (by decide) o4
end Go.Proofs.Ytigogbodobifdaa
