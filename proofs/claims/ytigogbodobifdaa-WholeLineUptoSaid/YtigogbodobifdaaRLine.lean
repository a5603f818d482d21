import Derived.Test.YtigogbodobifdaaBase
import Derived.Test.YtigogbodobifdaaQ7
set_option linter.unusedVariables false
set_option linter.unusedSimpArgs false
namespace Go.Proofs.Ytigogbodobifdaa
open Go.Sx Go.Ps Go.ChangeShapes Go.WideShapes Go.ChangeAt Go.RowKit

set_option maxRecDepth 100000 in
theorem wholeLine_contract (H : Type) (enc : TypeId × Value → H) (W : World) (base : Nat) (args : Array Value) (ds gs : List (DataW H)) (before : List MemPlace)
    (hval : ∀ (j : Nat) t v, Try.f7.params[j]? = some t → args[j]? = some v → Value.okWide Try.prog W .any base t v)
    (hW : DataW.Whole enc Try.prog Try.f7.params.toList Rows.wholeLineSpec.vars false W args.toList ds gs before)
    (hz : (DataW.weightsEach Try.prog (Try.f7.params.toList ++ (OpenSpec.ofChange Rows.wholeLineSpec).bare.plain.varTypes Try.prog) (ds ++ gs)).all (· ≤ reachBytes) = true)
    (hk : Rows.uptoSmall H (ds ++ gs) = true)  :
    Calls Try.prog 7 args W fun e W' => ∃ v, e = .returned v ∧ Rows.wholeLineSpec.post enc Try.prog Try.f7 false true false false W args v W' := by
  have hW' := hW
  obtain ⟨p, q, hA0, hV, rfl, hfz, hnd⟩ := hW
  have hA : DataW.TrodAll enc Try.prog W 0 (fun _ => true) true Try.f7.params.toList args.toList ds p := hA0
  skip
  obtain ⟨rfl, rfl⟩ := trodVars_none hV
  rw [List.append_nil] at hz hk
  rw [Try.params7] at hA hval
  obtain ⟨v0, vs0, d0, ds0, p0, q0, hargs, rfl, rfl, h0, r0⟩ := trodAll_cons hA
  obtain ⟨v1, vs1, d1, ds1, p1, q1, rfl, rfl, rfl, h1, r1⟩ := trodAll_cons r0
  obtain ⟨rfl, rfl, rfl⟩ := trodAll_nil r1
  obtain rfl : args = #[v0, v1] := by cases args; simp_all
  have hbulk := bulk_bound hk
  obtain ⟨x0, rfl, ok0, sz0⟩ := Opener.cell (V := (fun x => vU8 x)) o5 (single_int (P := Try.prog) (w := W) (r := .any) (base := base) (t := 5) (v := v0) Try.underlying5 (hval 0 5 v0 rfl rfl)) h0 (weights_at hz (j := 0) (t := 5) (d := d0) rfl rfl)
  obtain ⟨x1, rfl, ok1, sz1⟩ := Opener.cell (V := (fun s : Sl (Int) => s.v)) o58 (single_slice (P := Try.prog) (w := W) (r := .any) (base := base) (t := 58) (v := v1) Try.underlying58 (hval 1 58 v1 rfl rfl)) h1 (weights_at hz (j := 1) (t := 58) (d := d1) rfl rfl)
  simp only [List.map_cons, List.map_nil, List.sum_cons, List.sum_nil] at hbulk
  have hu := sz1
  simp only [Sl.sz] at hu
  have hle := ok1.le
  have hrd := ok1.rd
  have hfm : x1.xs.flatMap (fun x : Int => [Value.int .i8 x]) = x1.xs.map fun x => Value.int .i8 x := by induction x1.xs with | nil => rfl | cons y r ih => rw [List.flatMap_cons, ih]; rfl
  rw [hfm] at hrd
  refine (wholeLine_any x0 W x1.a x1.c x1.xs hrd hle (by omega)).mono fun e W' ⟨v, he, hv, hm⟩ => ?_
  subst he; subst hv
  exact ⟨_, rfl, post_true (tb := 4) laidOut (by kernel_rfl) rfl rfl Try.underlying4 hW' (fun _ => rfl) hm.below⟩

theorem wholeLine_laid (os : Os) : laidMet Try.prog Rows.wholeLineUptoRow.laid ((laidWorld os).forCall (fun _ _ => 0) ⟨#[], #[.int .u8 0, .slice none 0 0], []⟩).memory :=
  laidMet_of_run' 8 (by kernel_rfl) (by kernel_rfl)
theorem wholeLine_reads (os : Os) {H : Type} (enc : TypeId × Value → H) : ∃ places, DataW.whole enc Try.prog ((laidWorld os).forCall (fun _ _ => 0) ⟨#[], #[.int .u8 0, .slice none 0 0], []⟩).memory Try.f7.params.toList Rows.wholeLineSpec.vars false #[.int .u8 0, .slice none 0 0].toList 8 = some ([.lit (.int .u8 0), .nil], [], places) :=
  ⟨[], by kernel_rfl⟩

set_option maxRecDepth 100000 in
theorem wholeLine_lifted (os : Os) (started : os.Started) (H : Type) (enc : TypeId × Value → H) (F : Stop.Interp) :
    ReturnsInHanded {} Try.checked os 7 .any ((Rows.OpenSpec.upto Rows.wholeLineSpec).preRow enc Try.prog Try.f7 Rows.wholeLineUptoRow.domain false Rows.wholeLineUptoRow.laid) (((Rows.OpenSpec.upto Rows.wholeLineSpec).at F).post enc Try.prog Try.f7 false true false false) := by
  obtain ⟨places, hx⟩ := wholeLine_reads os enc
  refine returnsInHanded_of_row (C := Try.checked) (s := Rows.OpenSpec.upto Rows.wholeLineSpec) own started (by kernel_rfl) Try.func7
    (witness_row_at (enc := enc) (C := Try.checked) false (laidWorld os) #[.int .u8 0, .slice none 0 0] rfl (by kernel_rfl) (by kernel_rfl) (by kernel_rfl)
      (OpenSpec.preRow_of_cond 8 hx (by kernel_rfl) (fun k hk => by cases hk; kernel_rfl) (by kernel_rfl) (wholeLine_laid os))) ?_
  intro W base args ds gs before hval hW _ hcond hz hL _ _
  exact wholeLine_contract H enc W base args ds gs before hval hW hz (hcond _ rfl) 

theorem wholeLine_said : Rows.WholeLineUptoSaid :=
  OpenClaim.holds_of_cond 7 Try.f7 rfl rfl rfl rfl rfl rfl rfl ⟨rfl, rfl, rfl, rfl, rfl⟩ rfl rfl rfl rfl rfl (by kernel_rfl) Try.func7 (by kernel_rfl)
    (of_decide_eq_true (by kernel_rfl)) (by unfold Func.isWrapper; first | (rw [if_pos (by decide +kernel)]; kernel_rfl) | (rw [if_neg (by decide +kernel)]; exact ⟨rfl, rfl⟩))
    (fun os started H enc _ F => by rw [OpenClaim.pre_eq_preRow]; exact wholeLine_lifted os started H enc F)

end Go.Proofs.Ytigogbodobifdaa
