import Derived.Test.YtiagaoeaploijaaDoorCards
import Derived.Test.YtiagaoeaploijaaDoorTie
import Derived.Test.YtiagaoeaploijaaDoorSxR
import Derived.Test.YtiagaoeaploijaaDoorShaV
import Derived.Lib.LaidTab
set_option linter.unusedVariables false
set_option linter.unusedSimpArgs false
namespace Go.Proofs.YtiagaoeaploijaaDoor
open Go.Sx Go.Ps Go.ChangeShapes Go.WideShapes Go.ChangeAt Go.RowKit

theorem own : ownKnob Tryd.prog.godebug = none := by kernel_rfl
theorem laidOut : laidOutB Tryd.prog = true := by kernel_rfl
theorem gTab : Tryd.prog.globalNamed "notary/sha.words" = some 0 := by kernel_rfl
theorem gTabType : (Tryd.prog.globals[0]?).map (·.type) = some 54 := by kernel_rfl
theorem cellsTab : Tryd.prog.cellsOf 54 = 64 := by kernel_rfl
theorem cellsWord : Tryd.prog.cellsOf 29 = 1 := by kernel_rfl
def tabZ : List Int := KT.map fun x => (x.toNat : Int)
theorem laid_is : [("notary/sha.words", Rows.laid_notary_sha_words (H := Unit))] = [("notary/sha.words", Lib.tabData .u32 tabZ)] := by kernel_rfl
theorem kw {W : World} (h : laidMetH Tryd.prog [("notary/sha.words", Rows.laid_notary_sha_words)] W) : KW W := by
  have h1 : laidMetH Tryd.prog [("notary/sha.words", Lib.tabData .u32 tabZ)] W := laid_is ▸ h
  have h2 : Lib.TabIs Tryd.prog W "notary/sha.words" .u32 tabZ := Lib.tabIs_of_head (rest := []) gTab gTabType Tryd.underlying54 Tryd.underlying29 cellsWord cellsTab h1
  intro i hi
  have hi' : i < tabZ.length := hi
  rw [h2.cell gTab i hi']
  have hi2 : i < KT.length := hi
  have h3 : tabZ.getD i 0 = ((gw KT i).toNat : Int) := by simp [tabZ, gw, List.getD_eq_getElem?_getD, hi2]
  rw [h3]; rfl
/-- A world for the witness: the settled one, the table holding its words. -/
noncomputable def laidWorld (os : Os) : World :=
  { World.holding Tryd.prog os ⟨#[], #[], []⟩ with heap := (World.holding Tryd.prog os ⟨#[], #[], []⟩).heap.modify 0 fun
      | .cells _ t frozen => .cells (tabZ.map fun z => Value.int .u32 z).toArray t frozen
      | o => o }

/-! The bound of the second form. -/
theorem bulk_part {H : Type} {d : DataW H} {l : List (DataW H)} (h : d ∈ l) : Rows.uptoBulk d ≤ Rows.uptoBulkAll l := by
  induction l with
  | nil => cases h
  | cons x r ih =>
    simp only [Rows.uptoBulkAll]
    cases List.mem_cons.1 h with
    | inl e => subst e; omega
    | inr e => have := ih e; omega
theorem bulk_one {H : Type} (d : DataW H) : 1 ≤ Rows.uptoBulk d := by
  cases d with
  | lit l => cases l <;> simp [Rows.uptoBulk]
  | nil => simp [Rows.uptoBulk]
  | ptr d => simp [Rows.uptoBulk]
  | slice elems spare => simp [Rows.uptoBulk]
  | agg parts => simp [Rows.uptoBulk]
  | iface t d => simp [Rows.uptoBulk]
  | map entries => simp [Rows.uptoBulk]
  | held h => simp [Rows.uptoBulk]
theorem bulk_len {H : Type} (l : List (DataW H)) : l.length ≤ Rows.uptoBulkAll l := by
  induction l with
  | nil => simp [Rows.uptoBulkAll]
  | cons x r ih => have := bulk_one x; simp only [Rows.uptoBulkAll, List.length_cons]; omega
theorem room_bulk {H : Type} {d : DataW H} {c : Nat} (hr : Room d c) {l : List (DataW H)} (h : d ∈ l) : c ≤ Rows.uptoBulkAll l := by
  have h1 := bulk_part h
  rcases hr with ⟨_, rfl⟩ | ⟨el, sp, rfl, rfl⟩
  · exact Nat.zero_le _
  · have h2 := bulk_len el; have h3 := bulk_len sp
    simp only [Rows.uptoBulk] at h1
    omega
theorem bulk_bound {H : Type} {l : List (DataW H)} (hk : Rows.uptoSmall H l = true) : Rows.uptoBulkAll l ≤ 1048576 := by
  simpa [Rows.uptoSmall] using hk
end Go.Proofs.YtiagaoeaploijaaDoor
