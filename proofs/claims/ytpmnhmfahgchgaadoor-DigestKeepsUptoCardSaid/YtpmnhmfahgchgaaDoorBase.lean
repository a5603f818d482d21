import Derived.Test.YtpmnhmfahgchgaaDoorCards
import Derived.Test.YtpmnhmfahgchgaaDoorTie
import Derived.Test.YtpmnhmfahgchgaaDoorSxQ
import Derived.Test.YtpmnhmfahgchgaaDoorDigV
import Derived.Test.YtpmnhmfahgchgaaDoorShaV
import Derived.Lib.LaidTab
set_option linter.unusedVariables false
set_option linter.unusedSimpArgs false
namespace Go.Proofs.YtpmnhmfahgchgaaDoor
open Go.Sx Go.Ps Go.ChangeShapes Go.WideShapes Go.ChangeAt Go.RowKit

theorem own : ownKnob Tryd.prog.godebug = none := by kernel_rfl
theorem laidOut : laidOutB Tryd.prog = true := by kernel_rfl
theorem gTab : Tryd.prog.globalNamed "notary/sha.words" = some 0 := by kernel_rfl
theorem gTabType : (Tryd.prog.globals[0]?).map (·.type) = some 131 := by kernel_rfl
theorem cellsTab : Tryd.prog.cellsOf 131 = 64 := by kernel_rfl
theorem cellsWord : Tryd.prog.cellsOf 113 = 1 := by kernel_rfl
def tabZ : List Int := KT.map fun x => (x.toNat : Int)
theorem laid_is : [("notary/sha.words", Rows.laid_notary_sha_words (H := Unit))] = [("notary/sha.words", Lib.tabData .u32 tabZ)] := by kernel_rfl
theorem kw {W : World} (h : laidMetH Tryd.prog [("notary/sha.words", Rows.laid_notary_sha_words)] W) : KW W := by
  have h1 : laidMetH Tryd.prog [("notary/sha.words", Lib.tabData .u32 tabZ)] W := laid_is ▸ h
  have h2 : Lib.TabIs Tryd.prog W "notary/sha.words" .u32 tabZ := Lib.tabIs_of_head (rest := []) gTab gTabType Tryd.underlying131 Tryd.underlying113 cellsWord cellsTab h1
  intro i hi
  have hi' : i < tabZ.length := hi
  rw [h2.cell gTab i hi']
  have hi2 : i < KT.length := hi
  have h3 : tabZ.getD i 0 = ((gw KT i).toNat : Int) := by simp [tabZ, gw, List.getD_eq_getElem?_getD, hi2]
  rw [h3]; rfl
/-- A world for the witness: the settled one, the table holding its words. -/
noncomputable def laidWorld (os : Os) : World :=
  { World.holding Tryd.prog os ⟨#[], #[], []⟩ with heap := (World.holding Tryd.prog os ⟨#[], #[], []⟩).heap.modify 0 fun
      | .cells _ t frozen => .cells (tabZ.map fun z => Value.int .u32 z).toArray t frozen
      | o => o }

/-! The bound of the second form. -/
theorem bulkAll {H : Type} : ∀ l : List (DataW H), Rows.uptoBulkAll l = (l.map Rows.uptoBulk).sum
  | [] => rfl
  | x :: r => by rw [Rows.uptoBulkAll, bulkAll r]; rfl
theorem bulk {H : Type} : Bulk (H := H) Rows.uptoBulk where
  pos d := by
    cases d with
    | lit l => cases l <;> simp [Rows.uptoBulk]
    | _ => simp [Rows.uptoBulk]
  slice el sp := by rw [Rows.uptoBulk, bulkAll, bulkAll]
  agg ps := by rw [Rows.uptoBulk, bulkAll]
  str bs := by simp [Rows.uptoBulk]
theorem bulk_bound {H : Type} {l : List (DataW H)} (hk : Rows.uptoSmall H l = true) : (l.map Rows.uptoBulk).sum ≤ 1048576 := by
  rw [← bulkAll]; simpa [Rows.uptoSmall] using hk
theorem o3 {H : Type} {enc : TypeId × Value → H} : Opener enc Tryd.prog Rows.uptoBulk 3 (fun x => [vInt x]) okInt noSz := opener_int bulk Tryd.underlying3
theorem o5 {H : Type} {enc : TypeId × Value → H} : Opener enc Tryd.prog Rows.uptoBulk 5 (fun x => [vU8 x]) noOk noSz := opener_u8 bulk Tryd.underlying5
theorem o25 {H : Type} {enc : TypeId × Value → H} : Opener enc Tryd.prog Rows.uptoBulk 25 (fun s : Sl (UInt8) => [s.v]) (Sl.ok (fun x => [vU8 x]) 1 noOk) (Sl.sz noSz) := opener_slice (n := 1) (b := 1) bulk Tryd.underlying25 (by kernel_rfl) (by kernel_rfl) (by decide) o5
theorem o27 {H : Type} {enc : TypeId × Value → H} : Opener enc Tryd.prog Rows.uptoBulk 27 (fun l : List UInt8 => l.map vU8) (fun w (l : List UInt8) => l.length = 32 ∧ ∀ x ∈ l, noOk w x) noSz := opener_arr bulk Tryd.underlying27 (by kernel_rfl) (by kernel_rfl) o5
theorem o101 {H : Type} {enc : TypeId × Value → H} : Opener enc Tryd.prog Rows.uptoBulk 101 (fun x : (Sl (UInt8)) × (Sl (UInt8)) × Unit => ((fun s : Sl (UInt8) => [s.v]) x.1 ++ ((fun s : Sl (UInt8) => [s.v]) x.2.1 ++ []))) (fun w (x : (Sl (UInt8)) × (Sl (UInt8)) × Unit) => ((Sl.ok (fun x => [vU8 x]) 1 noOk) w x.1 ∧ ((Sl.ok (fun x => [vU8 x]) 1 noOk) w x.2.1 ∧ noOk w x.2.2))) (fun x : (Sl (UInt8)) × (Sl (UInt8)) × Unit => ((Sl.sz noSz) x.1 + ((Sl.sz noSz) x.2.1 + noSz x.2.2))) := by
  have h := (fields_cons (enc := enc) (P := Tryd.prog) (B := Rows.uptoBulk) (t := 25) (k := 0) (n := 1) (by kernel_rfl) o25 (fields_cons (t := 25) (k := 1) (n := 1) (by kernel_rfl) o25 fields_nil))
  exact opener_struct (L := [(25, 0), (25, 1)]) bulk Tryd.underlying101 (by kernel_rfl) (by kernel_rfl) h
theorem oPair {H : Type} {enc : TypeId × Value → H} : Opener enc Tryd.prog Rows.uptoBulk 101 (fun x : Sl UInt8 × Sl UInt8 => [x.1.v, x.2.v]) (fun w (x : Sl UInt8 × Sl UInt8) => SlOk w x.1 ∧ SlOk w x.2) (fun x : Sl UInt8 × Sl UInt8 => x.1.c + x.2.c) := Opener.map o101 (fun x => (x.1, x.2.1)) (fun _ _ _ => rfl) (fun _ _ h => ⟨Sl.bytes h.1, Sl.bytes h.2.1⟩) (fun x => by simp only [Sl.sz]; omega)
theorem o43 {H : Type} {enc : TypeId × Value → H} : Opener enc Tryd.prog Rows.uptoBulk 43 (fun s : Sl (Sl UInt8 × Sl UInt8) => [s.v]) (Sl.ok (fun x : Sl UInt8 × Sl UInt8 => [x.1.v, x.2.v]) 48 (fun w (x : Sl UInt8 × Sl UInt8) => SlOk w x.1 ∧ SlOk w x.2)) (Sl.sz (fun x : Sl UInt8 × Sl UInt8 => x.1.c + x.2.c)) := opener_slice (n := 2) (b := 48) bulk Tryd.underlying43 (by kernel_rfl) (by kernel_rfl) (by decide) oPair
theorem o44 {H : Type} {enc : TypeId × Value → H} : Opener enc Tryd.prog Rows.uptoBulk 44 (fun x => [vU16 x]) noOk noSz := opener_u16 bulk Tryd.underlying44
theorem o45 {H : Type} {enc : TypeId × Value → H} : Opener enc Tryd.prog Rows.uptoBulk 45 (fun s : Sl (List UInt8) => [s.v]) (Sl.ok (fun l : List UInt8 => l.map vU8) 32 (fun w (l : List UInt8) => l.length = 32 ∧ ∀ x ∈ l, noOk w x)) (Sl.sz noSz) := opener_slice (n := 32) (b := 32) bulk Tryd.underlying45 (by kernel_rfl) (by kernel_rfl) (by decide) o27
theorem o46 {H : Type} {enc : TypeId × Value → H} : Opener enc Tryd.prog Rows.uptoBulk 46 (fun x => [vU64 x]) noOk noSz := opener_u64 bulk Tryd.underlying46
theorem o48 {H : Type} {enc : TypeId × Value → H} : Opener enc Tryd.prog Rows.uptoBulk 48 (fun x : (UInt64) × (List UInt8) × (List UInt8) × Unit => ((fun x => [vU64 x]) x.1 ++ ((fun l : List UInt8 => l.map vU8) x.2.1 ++ ((fun l : List UInt8 => l.map vU8) x.2.2.1 ++ [])))) (fun w (x : (UInt64) × (List UInt8) × (List UInt8) × Unit) => (noOk w x.1 ∧ ((fun w (l : List UInt8) => l.length = 32 ∧ ∀ x ∈ l, noOk w x) w x.2.1 ∧ ((fun w (l : List UInt8) => l.length = 32 ∧ ∀ x ∈ l, noOk w x) w x.2.2.1 ∧ noOk w x.2.2.2)))) (fun x : (UInt64) × (List UInt8) × (List UInt8) × Unit => (noSz x.1 + (noSz x.2.1 + (noSz x.2.2.1 + noSz x.2.2.2)))) := by
  have h := (fields_cons (enc := enc) (P := Tryd.prog) (B := Rows.uptoBulk) (t := 46) (k := 0) (n := 1) (by kernel_rfl) o46 (fields_cons (t := 27) (k := 1) (n := 32) (by kernel_rfl) o27 (fields_cons (t := 27) (k := 33) (n := 32) (by kernel_rfl) o27 fields_nil)))
  exact opener_struct (L := [(46, 0), (27, 1), (27, 33)]) bulk Tryd.underlying48 (by kernel_rfl) (by kernel_rfl) h
theorem o50 {H : Type} {enc : TypeId × Value → H} : Opener enc Tryd.prog Rows.uptoBulk 50 (fun x : (Int) × (Int) × (Sl (UInt8)) × (List UInt8) × (List UInt8) × (Sl (Sl UInt8 × Sl UInt8)) × (UInt16) × (Sl (List UInt8)) × ((UInt64) × (List UInt8) × (List UInt8) × Unit) × Unit => ((fun x => [vInt x]) x.1 ++ ((fun x => [vInt x]) x.2.1 ++ ((fun s : Sl (UInt8) => [s.v]) x.2.2.1 ++ ((fun l : List UInt8 => l.map vU8) x.2.2.2.1 ++ ((fun l : List UInt8 => l.map vU8) x.2.2.2.2.1 ++ ((fun s : Sl (Sl UInt8 × Sl UInt8) => [s.v]) x.2.2.2.2.2.1 ++ ((fun x => [vU16 x]) x.2.2.2.2.2.2.1 ++ ((fun s : Sl (List UInt8) => [s.v]) x.2.2.2.2.2.2.2.1 ++ ((fun x : (UInt64) × (List UInt8) × (List UInt8) × Unit => ((fun x => [vU64 x]) x.1 ++ ((fun l : List UInt8 => l.map vU8) x.2.1 ++ ((fun l : List UInt8 => l.map vU8) x.2.2.1 ++ [])))) x.2.2.2.2.2.2.2.2.1 ++ [])))))))))) (fun w (x : (Int) × (Int) × (Sl (UInt8)) × (List UInt8) × (List UInt8) × (Sl (Sl UInt8 × Sl UInt8)) × (UInt16) × (Sl (List UInt8)) × ((UInt64) × (List UInt8) × (List UInt8) × Unit) × Unit) => (okInt w x.1 ∧ (okInt w x.2.1 ∧ ((Sl.ok (fun x => [vU8 x]) 1 noOk) w x.2.2.1 ∧ ((fun w (l : List UInt8) => l.length = 32 ∧ ∀ x ∈ l, noOk w x) w x.2.2.2.1 ∧ ((fun w (l : List UInt8) => l.length = 32 ∧ ∀ x ∈ l, noOk w x) w x.2.2.2.2.1 ∧ ((Sl.ok (fun x : Sl UInt8 × Sl UInt8 => [x.1.v, x.2.v]) 48 (fun w (x : Sl UInt8 × Sl UInt8) => SlOk w x.1 ∧ SlOk w x.2)) w x.2.2.2.2.2.1 ∧ (noOk w x.2.2.2.2.2.2.1 ∧ ((Sl.ok (fun l : List UInt8 => l.map vU8) 32 (fun w (l : List UInt8) => l.length = 32 ∧ ∀ x ∈ l, noOk w x)) w x.2.2.2.2.2.2.2.1 ∧ ((fun w (x : (UInt64) × (List UInt8) × (List UInt8) × Unit) => (noOk w x.1 ∧ ((fun w (l : List UInt8) => l.length = 32 ∧ ∀ x ∈ l, noOk w x) w x.2.1 ∧ ((fun w (l : List UInt8) => l.length = 32 ∧ ∀ x ∈ l, noOk w x) w x.2.2.1 ∧ noOk w x.2.2.2)))) w x.2.2.2.2.2.2.2.2.1 ∧ noOk w x.2.2.2.2.2.2.2.2.2)))))))))) (fun x : (Int) × (Int) × (Sl (UInt8)) × (List UInt8) × (List UInt8) × (Sl (Sl UInt8 × Sl UInt8)) × (UInt16) × (Sl (List UInt8)) × ((UInt64) × (List UInt8) × (List UInt8) × Unit) × Unit => (noSz x.1 + (noSz x.2.1 + ((Sl.sz noSz) x.2.2.1 + (noSz x.2.2.2.1 + (noSz x.2.2.2.2.1 + ((Sl.sz (fun x : Sl UInt8 × Sl UInt8 => x.1.c + x.2.c)) x.2.2.2.2.2.1 + (noSz x.2.2.2.2.2.2.1 + ((Sl.sz noSz) x.2.2.2.2.2.2.2.1 + ((fun x : (UInt64) × (List UInt8) × (List UInt8) × Unit => (noSz x.1 + (noSz x.2.1 + (noSz x.2.2.1 + noSz x.2.2.2)))) x.2.2.2.2.2.2.2.2.1 + noSz x.2.2.2.2.2.2.2.2.2)))))))))) := by
  have h := (fields_cons (enc := enc) (P := Tryd.prog) (B := Rows.uptoBulk) (t := 3) (k := 0) (n := 1) (by kernel_rfl) o3 (fields_cons (t := 3) (k := 1) (n := 1) (by kernel_rfl) o3 (fields_cons (t := 25) (k := 2) (n := 1) (by kernel_rfl) o25 (fields_cons (t := 27) (k := 3) (n := 32) (by kernel_rfl) o27 (fields_cons (t := 27) (k := 35) (n := 32) (by kernel_rfl) o27 (fields_cons (t := 43) (k := 67) (n := 1) (by kernel_rfl) o43 (fields_cons (t := 44) (k := 68) (n := 1) (by kernel_rfl) o44 (fields_cons (t := 45) (k := 69) (n := 1) (by kernel_rfl) o45 (fields_cons (t := 48) (k := 70) (n := 65) (by kernel_rfl) o48 fields_nil)))))))))
  exact opener_struct (L := [(3, 0), (3, 1), (25, 2), (27, 3), (27, 35), (43, 67), (44, 68), (45, 69), (48, 70)]) bulk Tryd.underlying50 (by kernel_rfl) (by kernel_rfl) h
theorem opOk {W : World} {x : (Int) × (Int) × (Sl (UInt8)) × (List UInt8) × (List UInt8) × (Sl (Sl UInt8 × Sl UInt8)) × (UInt16) × (Sl (List UInt8)) × ((UInt64) × (List UInt8) × (List UInt8) × Unit) × Unit} (h : (fun w (x : (Int) × (Int) × (Sl (UInt8)) × (List UInt8) × (List UInt8) × (Sl (Sl UInt8 × Sl UInt8)) × (UInt16) × (Sl (List UInt8)) × ((UInt64) × (List UInt8) × (List UInt8) × Unit) × Unit) => (okInt w x.1 ∧ (okInt w x.2.1 ∧ ((Sl.ok (fun x => [vU8 x]) 1 noOk) w x.2.2.1 ∧ ((fun w (l : List UInt8) => l.length = 32 ∧ ∀ x ∈ l, noOk w x) w x.2.2.2.1 ∧ ((fun w (l : List UInt8) => l.length = 32 ∧ ∀ x ∈ l, noOk w x) w x.2.2.2.2.1 ∧ ((Sl.ok (fun x : Sl UInt8 × Sl UInt8 => [x.1.v, x.2.v]) 48 (fun w (x : Sl UInt8 × Sl UInt8) => SlOk w x.1 ∧ SlOk w x.2)) w x.2.2.2.2.2.1 ∧ (noOk w x.2.2.2.2.2.2.1 ∧ ((Sl.ok (fun l : List UInt8 => l.map vU8) 32 (fun w (l : List UInt8) => l.length = 32 ∧ ∀ x ∈ l, noOk w x)) w x.2.2.2.2.2.2.2.1 ∧ ((fun w (x : (UInt64) × (List UInt8) × (List UInt8) × Unit) => (noOk w x.1 ∧ ((fun w (l : List UInt8) => l.length = 32 ∧ ∀ x ∈ l, noOk w x) w x.2.1 ∧ ((fun w (l : List UInt8) => l.length = 32 ∧ ∀ x ∈ l, noOk w x) w x.2.2.1 ∧ noOk w x.2.2.2)))) w x.2.2.2.2.2.2.2.2.1 ∧ noOk w x.2.2.2.2.2.2.2.2.2)))))))))) W x) : Cop.ok W ⟨x.1, x.2.1, x.2.2.1, x.2.2.2.1, x.2.2.2.2.1, x.2.2.2.2.2.1, x.2.2.2.2.2.2.1, x.2.2.2.2.2.2.2.1, x.2.2.2.2.2.2.2.2.1.1, x.2.2.2.2.2.2.2.2.1.2.1, x.2.2.2.2.2.2.2.2.1.2.2.1⟩ := by
  obtain ⟨h1, h2, h3, h4, h5, h6, h7, h8, ⟨h9, h10, h11, _⟩, _⟩ := h
  have hm6 := h6.max
  have hl6 := h6.le
  have hb8 := h8.bytes
  have hl8 := h8.le
  simp only [maxLen] at hm6
  exact ⟨h1, h2, Sl.bytes h3, h4.1, h5.1, h6.rd, hl6, by dsimp only; omega, h6.each, h8.rd, hl8, by dsimp only; omega, fun d hd => (h8.each d hd).1, h10.1, h11.1⟩
theorem pairs_small : ∀ (ps : List (Sl UInt8 × Sl UInt8)) {W : World}, (∀ s ∈ ps, SlOk W s.1 ∧ SlOk W s.2) → (pairsB (prs ps)).length ≤ 20 * ps.length + (ps.map fun x => x.1.c + x.2.c).sum
  | [], _, _ => by simp [prs, pairsB]
  | x :: r, W, h => by
    have h1 := h x (by simp)
    have h2 := pairs_small r (W := W) (fun s hs => h s (by simp [hs]))
    have h3 := blob_len x.1.xs
    have h4 := blob_len x.2.xs
    have h5 := h1.1.2.1
    have h6 := h1.2.2.1
    simp only [prs, pairsB, List.map_cons, List.flatMap_cons, List.length_append, List.length_cons, List.sum_cons] at *; omega
theorem op_small {W : World} {o : Cop} (h : o.ok W) (hs : o.P.c + (o.pairs.c + (o.pairs.xs.map fun x => x.1.c + x.2.c).sum) + o.kids.c ≤ 1048576) : o.small := by
  have h1 := pairs_small o.pairs.xs h.pe
  have h2 := h.p.2.1
  have h3 := h.pl
  have h4 := h.kl
  exact ⟨by omega, by omega, by omega⟩
theorem script_small {W : World} {s : Sl Cop} (ho : ∀ o ∈ s.xs, o.ok W) (hs : Sl.sz (fun o : Cop => o.P.c + (o.pairs.c + (o.pairs.xs.map fun x => x.1.c + x.2.c).sum) + o.kids.c) s ≤ 1048576) : ∀ o ∈ s.xs, o.small := fun o h =>
  op_small (ho o h) (by have := sz_mem (sz := fun o : Cop => o.P.c + (o.pairs.c + (o.pairs.xs.map fun x => x.1.c + x.2.c).sum) + o.kids.c) h; unfold Sl.sz at hs; omega)
theorem oOp {H : Type} {enc : TypeId × Value → H} : Opener enc Tryd.prog Rows.uptoBulk 50 Cop.cells (fun w (o : Cop) => o.ok w) (fun o : Cop => o.P.c + (o.pairs.c + (o.pairs.xs.map fun x => x.1.c + x.2.c).sum) + o.kids.c) := Opener.map o50 (fun x => ⟨x.1, x.2.1, x.2.2.1, x.2.2.2.1, x.2.2.2.2.1, x.2.2.2.2.2.1, x.2.2.2.2.2.2.1, x.2.2.2.2.2.2.2.1, x.2.2.2.2.2.2.2.2.1.1, x.2.2.2.2.2.2.2.2.1.2.1, x.2.2.2.2.2.2.2.2.1.2.2.1⟩) (fun _ x _ => by simp [Cop.cells, rootC]) (fun W x h => opOk h) (fun x => by simp only [Sl.sz]; omega)
theorem o42 {H : Type} {enc : TypeId × Value → H} : Opener enc Tryd.prog Rows.uptoBulk 42 (fun s : Sl (Cop) => [s.v]) (Sl.ok Cop.cells 232 (fun w (o : Cop) => o.ok w)) (Sl.sz (fun o : Cop => o.P.c + (o.pairs.c + (o.pairs.xs.map fun x => x.1.c + x.2.c).sum) + o.kids.c)) := opener_slice (n := 135) (b := 232) bulk Tryd.underlying42 (by kernel_rfl) (by kernel_rfl) (by decide) oOp
theorem o32 {H : Type} {enc : TypeId × Value → H} : Opener enc Tryd.prog Rows.uptoBulk 32 (fun s : Sl (Sl (UInt8)) => [s.v]) (Sl.ok (fun s : Sl (UInt8) => [s.v]) 24 (Sl.ok (fun x => [vU8 x]) 1 noOk)) (Sl.sz (Sl.sz noSz)) := opener_slice (n := 1) (b := 24) bulk Tryd.underlying32 (by kernel_rfl) (by kernel_rfl) (by decide) o25
end Go.Proofs.YtpmnhmfahgchgaaDoor
