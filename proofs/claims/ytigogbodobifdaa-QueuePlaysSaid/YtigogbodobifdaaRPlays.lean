import Derived.Test.YtigogbodobifdaaBase
import Derived.Test.YtigogbodobifdaaQ5
set_option linter.unusedVariables false
set_option linter.unusedSimpArgs false
namespace Go.Proofs.Ytigogbodobifdaa
open Go.Sx Go.Ps Go.ChangeShapes Go.WideShapes Go.ChangeAt Go.RowKit

set_option maxRecDepth 100000 in
theorem queuePlays_contract (H : Type) (enc : TypeId × Value → H) (W : World) (base : Nat) (args : Array Value) (ds gs : List (DataW H)) (before : List MemPlace)
    (hval : ∀ (j : Nat) t v, Try.f3.params[j]? = some t → args[j]? = some v → Value.okWide Try.prog W .any base t v)
    (hW : DataW.Whole enc Try.prog Try.f3.params.toList Rows.queuePlaysSpec.vars false W args.toList ds gs before)
    (hz : (DataW.weightsEach Try.prog (Try.f3.params.toList ++ (OpenSpec.ofChange Rows.queuePlaysSpec).bare.plain.varTypes Try.prog) (ds ++ gs)).all (· ≤ reachBytes) = true)
     :
    Calls Try.prog 3 args W fun e W' => ∃ v, e = .returned v ∧ Rows.queuePlaysSpec.post enc Try.prog Try.f3 false true false false W args v W' := by
  have hW' := hW
  obtain ⟨p, q, hA0, hV, rfl, hfz, hnd⟩ := hW
  have hA : DataW.TrodAll enc Try.prog W 0 (fun _ => true) true Try.f3.params.toList args.toList ds p := hA0
  skip
  obtain ⟨rfl, rfl⟩ := trodVars_none hV
  rw [List.append_nil] at hz
  rw [Try.params3] at hA hval
  obtain ⟨v0, vs0, d0, ds0, p0, q0, hargs, rfl, rfl, h0, r0⟩ := trodAll_cons hA
  obtain ⟨v1, vs1, d1, ds1, p1, q1, rfl, rfl, rfl, h1, r1⟩ := trodAll_cons r0
  obtain ⟨rfl, rfl, rfl⟩ := trodAll_nil r1
  obtain rfl : args = #[v0, v1] := by cases args; simp_all
  obtain ⟨x0, rfl, ok0, sz0⟩ := Opener.cell (V := (fun x => vInt x)) o3 (single_int (P := Try.prog) (w := W) (r := .any) (base := base) (t := 3) (v := v0) Try.underlying3 (hval 0 3 v0 rfl rfl)) h0 (weights_at hz (j := 0) (t := 3) (d := d0) rfl rfl)
  obtain ⟨x1, rfl, ok1, sz1⟩ := Opener.cell (V := (fun s : Sl ((Int) × (Int) × Unit) => s.v)) o22 (single_slice (P := Try.prog) (w := W) (r := .any) (base := base) (t := 22) (v := v1) Try.underlying22 (hval 1 22 v1 rfl rfl)) h1 (weights_at hz (j := 1) (t := 22) (d := d1) rfl rfl)
  have hop : x1.xs.flatMap (fun x : Int × Int × Unit => ([vInt x.1] ++ ([vInt x.2.1] ++ []))) = (x1.xs.map fun x => (x.1, x.2.1)).flatMap (fun o : Int × Int => [vInt o.1, vInt o.2]) := by rw [List.flatMap_map]; rfl
  have hrd := ok1.rd
  rw [show (fun x : Int × Int × Unit => ((fun x => [vInt x]) x.1 ++ ((fun x => [vInt x]) x.2.1 ++ []))) = (fun x : Int × Int × Unit => ([vInt x.1] ++ ([vInt x.2.1] ++ []))) from rfl, hop] at hrd
  have hby := ok1.bytes
  have hle := ok1.le
  have hln : (x1.xs.map fun x => (x.1, x.2.1)).length = x1.xs.length := List.length_map _
  have h9 := queuePlays_any x0 W x1.a x1.c (x1.xs.map fun x => (x.1, x.2.1)) hrd (by rw [hln]; exact hle) (by rw [hln]; omega)
  rw [hln] at h9
  refine (h9).mono fun e W' ⟨v, he, hv, hm⟩ => ?_
  subst he; subst hv
  exact ⟨_, rfl, post_true (tb := 4) laidOut (by kernel_rfl) rfl rfl Try.underlying4 hW' (fun _ => rfl) hm.below⟩

theorem queuePlays_laid (os : Os) : laidMet Try.prog Rows.queuePlaysRow.laid ((laidWorld os).forCall (fun _ _ => 0) ⟨#[], #[.int .i64 0, .slice none 0 0], []⟩).memory :=
  laidMet_of_run' 8 (by kernel_rfl) (by kernel_rfl)
theorem queuePlays_reads (os : Os) {H : Type} (enc : TypeId × Value → H) : ∃ places, DataW.whole enc Try.prog ((laidWorld os).forCall (fun _ _ => 0) ⟨#[], #[.int .i64 0, .slice none 0 0], []⟩).memory Try.f3.params.toList Rows.queuePlaysSpec.vars false #[.int .i64 0, .slice none 0 0].toList 8 = some ([.lit (.int .i64 0), .nil], [], places) :=
  ⟨[], by kernel_rfl⟩

set_option maxRecDepth 100000 in
theorem queuePlays_lifted (os : Os) (started : os.Started) (H : Type) (enc : TypeId × Value → H) (F : Stop.Interp) :
    ReturnsInHanded {} Try.checked os 3 .any ((OpenSpec.ofChange Rows.queuePlaysSpec).preRow enc Try.prog Try.f3 Rows.queuePlaysRow.domain false Rows.queuePlaysRow.laid) (((OpenSpec.ofChange Rows.queuePlaysSpec).at F).post enc Try.prog Try.f3 false true false false) := by
  obtain ⟨places, hx⟩ := queuePlays_reads os enc
  refine returnsInHanded_of_row (C := Try.checked) (s := OpenSpec.ofChange Rows.queuePlaysSpec) own started (by kernel_rfl) Try.func3
    (witness_row_at (enc := enc) (C := Try.checked) false (laidWorld os) #[.int .i64 0, .slice none 0 0] rfl (by kernel_rfl) (by kernel_rfl) (by kernel_rfl)
      (OpenSpec.preRow_of_cond 8 hx (by kernel_rfl) (fun k hk => by cases hk) (by kernel_rfl) (queuePlays_laid os))) ?_
  intro W base args ds gs before hval hW _ hcond hz hL _ _
  exact queuePlays_contract H enc W base args ds gs before hval hW hz 

theorem queuePlays_said : Rows.QueuePlaysSaid :=
  OpenClaim.holds_of_cond 3 Try.f3 rfl rfl rfl rfl rfl rfl rfl ⟨rfl, rfl, rfl, rfl, rfl⟩ rfl rfl rfl rfl rfl (by kernel_rfl) Try.func3 (by kernel_rfl)
    (of_decide_eq_true (by kernel_rfl)) (by unfold Func.isWrapper; first | (rw [if_pos (by decide +kernel)]; kernel_rfl) | (rw [if_neg (by decide +kernel)]; exact ⟨rfl, rfl⟩))
    (fun os started H enc _ F => by rw [OpenClaim.pre_eq_preRow]; exact queuePlays_lifted os started H enc F)

end Go.Proofs.Ytigogbodobifdaa
