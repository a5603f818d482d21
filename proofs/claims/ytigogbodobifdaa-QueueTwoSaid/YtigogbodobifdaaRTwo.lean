import Derived.Test.YtigogbodobifdaaBase
import Derived.Test.YtigogbodobifdaaQ6
set_option linter.unusedVariables false
set_option linter.unusedSimpArgs false
namespace Go.Proofs.Ytigogbodobifdaa
open Go.Sx Go.Ps Go.ChangeShapes Go.WideShapes Go.ChangeAt Go.RowKit

set_option maxRecDepth 100000 in
theorem queueTwo_contract (H : Type) (enc : TypeId × Value → H) (W : World) (base : Nat) (args : Array Value) (ds gs : List (DataW H)) (before : List MemPlace)
    (hval : ∀ (j : Nat) t v, Try.f4.params[j]? = some t → args[j]? = some v → Value.okWide Try.prog W .any base t v)
    (hW : DataW.Whole enc Try.prog Try.f4.params.toList Rows.queueTwoSpec.vars false W args.toList ds gs before)
    (hz : (DataW.weightsEach Try.prog (Try.f4.params.toList ++ (OpenSpec.ofChange Rows.queueTwoSpec).bare.plain.varTypes Try.prog) (ds ++ gs)).all (· ≤ reachBytes) = true)
     :
    Calls Try.prog 4 args W fun e W' => ∃ v, e = .returned v ∧ Rows.queueTwoSpec.post enc Try.prog Try.f4 false true false false W args v W' := by
  have hW' := hW
  obtain ⟨p, q, hA0, hV, rfl, hfz, hnd⟩ := hW
  have hA : DataW.TrodAll enc Try.prog W 0 (fun _ => true) true Try.f4.params.toList args.toList ds p := hA0
  skip
  obtain ⟨rfl, rfl⟩ := trodVars_none hV
  rw [List.append_nil] at hz
  rw [Try.params4] at hA hval
  obtain ⟨v0, vs0, d0, ds0, p0, q0, hargs, rfl, rfl, h0, r0⟩ := trodAll_cons hA
  obtain ⟨v1, vs1, d1, ds1, p1, q1, rfl, rfl, rfl, h1, r1⟩ := trodAll_cons r0
  obtain ⟨v2, vs2, d2, ds2, p2, q2, rfl, rfl, rfl, h2, r2⟩ := trodAll_cons r1
  obtain ⟨v3, vs3, d3, ds3, p3, q3, rfl, rfl, rfl, h3, r3⟩ := trodAll_cons r2
  obtain ⟨rfl, rfl, rfl⟩ := trodAll_nil r3
  obtain rfl : args = #[v0, v1, v2, v3] := by cases args; simp_all
  obtain ⟨x0, rfl, ok0, sz0⟩ := Opener.cell (V := (fun x => vInt x)) o3 (single_int (P := Try.prog) (w := W) (r := .any) (base := base) (t := 3) (v := v0) Try.underlying3 (hval 0 3 v0 rfl rfl)) h0 (weights_at hz (j := 0) (t := 3) (d := d0) rfl rfl)
  obtain ⟨x1, rfl, ok1, sz1⟩ := Opener.cell (V := (fun x => vInt x)) o3 (single_int (P := Try.prog) (w := W) (r := .any) (base := base) (t := 3) (v := v1) Try.underlying3 (hval 1 3 v1 rfl rfl)) h1 (weights_at hz (j := 1) (t := 3) (d := d1) rfl rfl)
  obtain ⟨x2, rfl, ok2, sz2⟩ := Opener.cell (V := (fun s : Sl ((Int) × (Int) × Unit) => s.v)) o22 (single_slice (P := Try.prog) (w := W) (r := .any) (base := base) (t := 22) (v := v2) Try.underlying22 (hval 2 22 v2 rfl rfl)) h2 (weights_at hz (j := 2) (t := 22) (d := d2) rfl rfl)
  obtain ⟨x3, rfl, ok3, sz3⟩ := Opener.cell (V := (fun s : Sl ((Int) × (Int) × Unit) => s.v)) o22 (single_slice (P := Try.prog) (w := W) (r := .any) (base := base) (t := 22) (v := v3) Try.underlying22 (hval 3 22 v3 rfl rfl)) h3 (weights_at hz (j := 3) (t := 22) (d := d3) rfl rfl)
  have hop2 : x2.xs.flatMap (fun x : Int × Int × Unit => ([vInt x.1] ++ ([vInt x.2.1] ++ []))) = (x2.xs.map fun x => (x.1, x.2.1)).flatMap (fun o : Int × Int => [vInt o.1, vInt o.2]) := by rw [List.flatMap_map]; rfl
  have hrd2 := ok2.rd
  rw [show (fun x : Int × Int × Unit => ((fun x => [vInt x]) x.1 ++ ((fun x => [vInt x]) x.2.1 ++ []))) = (fun x : Int × Int × Unit => ([vInt x.1] ++ ([vInt x.2.1] ++ []))) from rfl, hop2] at hrd2
  have hby2 := ok2.bytes
  have hle2 := ok2.le
  have hln2 : (x2.xs.map fun x => (x.1, x.2.1)).length = x2.xs.length := List.length_map _
  have hop3 : x3.xs.flatMap (fun x : Int × Int × Unit => ([vInt x.1] ++ ([vInt x.2.1] ++ []))) = (x3.xs.map fun x => (x.1, x.2.1)).flatMap (fun o : Int × Int => [vInt o.1, vInt o.2]) := by rw [List.flatMap_map]; rfl
  have hrd3 := ok3.rd
  rw [show (fun x : Int × Int × Unit => ((fun x => [vInt x]) x.1 ++ ((fun x => [vInt x]) x.2.1 ++ []))) = (fun x : Int × Int × Unit => ([vInt x.1] ++ ([vInt x.2.1] ++ []))) from rfl, hop3] at hrd3
  have hby3 := ok3.bytes
  have hle3 := ok3.le
  have hln3 : (x3.xs.map fun x => (x.1, x.2.1)).length = x3.xs.length := List.length_map _
  have h9 := queueTwo_any x0 x1 W x2.a x2.c (x2.xs.map fun x => (x.1, x.2.1)) hrd2 (by rw [hln2]; exact hle2) (by rw [hln2]; omega) x3.a x3.c (x3.xs.map fun x => (x.1, x.2.1)) hrd3 (by rw [hln3]; exact hle3) (by rw [hln3]; omega)
  rw [hln2, hln3] at h9
  refine (h9).mono fun e W' ⟨v, he, hv, hm⟩ => ?_
  subst he; subst hv
  exact ⟨_, rfl, post_true (tb := 4) laidOut (by kernel_rfl) rfl rfl Try.underlying4 hW' (fun _ => rfl) hm.below⟩

theorem queueTwo_laid (os : Os) : laidMet Try.prog Rows.queueTwoRow.laid ((laidWorld os).forCall (fun _ _ => 0) ⟨#[], #[.int .i64 0, .int .i64 0, .slice none 0 0, .slice none 0 0], []⟩).memory :=
  laidMet_of_run' 8 (by kernel_rfl) (by kernel_rfl)
theorem queueTwo_reads (os : Os) {H : Type} (enc : TypeId × Value → H) : ∃ places, DataW.whole enc Try.prog ((laidWorld os).forCall (fun _ _ => 0) ⟨#[], #[.int .i64 0, .int .i64 0, .slice none 0 0, .slice none 0 0], []⟩).memory Try.f4.params.toList Rows.queueTwoSpec.vars false #[.int .i64 0, .int .i64 0, .slice none 0 0, .slice none 0 0].toList 8 = some ([.lit (.int .i64 0), .lit (.int .i64 0), .nil, .nil], [], places) :=
  ⟨[], by kernel_rfl⟩

set_option maxRecDepth 100000 in
theorem queueTwo_lifted (os : Os) (started : os.Started) (H : Type) (enc : TypeId × Value → H) (F : Stop.Interp) :
    ReturnsInHanded {} Try.checked os 4 .any ((OpenSpec.ofChange Rows.queueTwoSpec).preRow enc Try.prog Try.f4 Rows.queueTwoRow.domain false Rows.queueTwoRow.laid) (((OpenSpec.ofChange Rows.queueTwoSpec).at F).post enc Try.prog Try.f4 false true false false) := by
  obtain ⟨places, hx⟩ := queueTwo_reads os enc
  refine returnsInHanded_of_row (C := Try.checked) (s := OpenSpec.ofChange Rows.queueTwoSpec) own started (by kernel_rfl) Try.func4
    (witness_row_at (enc := enc) (C := Try.checked) false (laidWorld os) #[.int .i64 0, .int .i64 0, .slice none 0 0, .slice none 0 0] rfl (by kernel_rfl) (by kernel_rfl) (by kernel_rfl)
      (OpenSpec.preRow_of_cond 8 hx (by kernel_rfl) (fun k hk => by cases hk) (by kernel_rfl) (queueTwo_laid os))) ?_
  intro W base args ds gs before hval hW _ hcond hz hL _ _
  exact queueTwo_contract H enc W base args ds gs before hval hW hz 

theorem queueTwo_said : Rows.QueueTwoSaid :=
  OpenClaim.holds_of_cond 4 Try.f4 rfl rfl rfl rfl rfl rfl rfl ⟨rfl, rfl, rfl, rfl, rfl⟩ rfl rfl rfl rfl rfl (by kernel_rfl) Try.func4 (by kernel_rfl)
    (of_decide_eq_true (by kernel_rfl)) (by unfold Func.isWrapper; first | (rw [if_pos (by decide +kernel)]; kernel_rfl) | (rw [if_neg (by decide +kernel)]; exact ⟨rfl, rfl⟩))
    (fun os started H enc _ F => by rw [OpenClaim.pre_eq_preRow]; exact queueTwo_lifted os started H enc F)

end Go.Proofs.Ytigogbodobifdaa
