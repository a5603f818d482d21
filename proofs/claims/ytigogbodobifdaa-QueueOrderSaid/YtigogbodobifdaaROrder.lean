import Derived.Test.YtigogbodobifdaaBase
import Derived.Test.YtigogbodobifdaaQ9
set_option linter.unusedVariables false
set_option linter.unusedSimpArgs false
namespace Go.Proofs.Ytigogbodobifdaa
open Go.Sx Go.Ps Go.ChangeShapes Go.WideShapes Go.ChangeAt Go.RowKit

set_option maxRecDepth 100000 in
theorem queueOrder_contract (H : Type) (enc : TypeId × Value → H) (W : World) (base : Nat) (args : Array Value) (ds gs : List (DataW H)) (before : List MemPlace)
    (hval : ∀ (j : Nat) t v, Try.f5.params[j]? = some t → args[j]? = some v → Value.okWide Try.prog W .any base t v)
    (hW : DataW.Whole enc Try.prog Try.f5.params.toList Rows.queueOrderSpec.vars false W args.toList ds gs before)
    (hz : (DataW.weightsEach Try.prog (Try.f5.params.toList ++ (OpenSpec.ofChange Rows.queueOrderSpec).bare.plain.varTypes Try.prog) (ds ++ gs)).all (· ≤ reachBytes) = true)
     :
    Calls Try.prog 5 args W fun e W' => ∃ v, e = .returned v ∧ Rows.queueOrderSpec.post enc Try.prog Try.f5 false true false false W args v W' := by
  have hW' := hW
  obtain ⟨p, q, hA0, hV, rfl, hfz, hnd⟩ := hW
  have hA : DataW.TrodAll enc Try.prog W 0 (fun _ => true) true Try.f5.params.toList args.toList ds p := hA0
  skip
  obtain ⟨rfl, rfl⟩ := trodVars_none hV
  rw [List.append_nil] at hz
  rw [Try.params5] at hA hval
  obtain ⟨v0, vs0, d0, ds0, p0, q0, hargs, rfl, rfl, h0, r0⟩ := trodAll_cons hA
  obtain ⟨v1, vs1, d1, ds1, p1, q1, rfl, rfl, rfl, h1, r1⟩ := trodAll_cons r0
  obtain ⟨v2, vs2, d2, ds2, p2, q2, rfl, rfl, rfl, h2, r2⟩ := trodAll_cons r1
  obtain ⟨rfl, rfl, rfl⟩ := trodAll_nil r2
  obtain rfl : args = #[v0, v1, v2] := by cases args; simp_all
  obtain ⟨x0, rfl, ok0, sz0⟩ := Opener.cell (V := (fun x => vInt x)) o3 (single_int (P := Try.prog) (w := W) (r := .any) (base := base) (t := 3) (v := v0) Try.underlying3 (hval 0 3 v0 rfl rfl)) h0 (weights_at hz (j := 0) (t := 3) (d := d0) rfl rfl)
  obtain ⟨x1, rfl, ok1, sz1⟩ := Opener.cell (V := (fun s : Sl (Sl (UInt8)) => s.v)) o36 (single_slice (P := Try.prog) (w := W) (r := .any) (base := base) (t := 36) (v := v1) Try.underlying36 (hval 1 36 v1 rfl rfl)) h1 (weights_at hz (j := 1) (t := 36) (d := d1) rfl rfl)
  obtain ⟨x2, rfl, ok2, sz2⟩ := Opener.cell (V := (fun s : Sl (Bool) => s.v)) o37 (single_slice (P := Try.prog) (w := W) (r := .any) (base := base) (t := 37) (v := v2) Try.underlying37 (hval 2 37 v2 rfl rfl)) h2 (weights_at hz (j := 2) (t := 37) (d := d2) rfl rfl)
  have hf1 : x1.xs.flatMap (fun s : Sl UInt8 => [s.v]) = x1.xs.map Sl.v := by induction x1.xs with | nil => rfl | cons y r ih => rw [List.flatMap_cons, ih]; rfl
  have hf2 : x2.xs.flatMap (fun b : Bool => [Value.bool b]) = x2.xs.map Value.bool := by induction x2.xs with | nil => rfl | cons y r ih => rw [List.flatMap_cons, ih]; rfl
  have hrd1 := ok1.rd
  rw [hf1] at hrd1
  have hrd2 := ok2.rd
  rw [hf2] at hrd2
  have hle1 := ok1.le
  have hle2 := ok2.le
  have hby1 := ok1.bytes
  have hby2 := ok2.bytes
  have he : ∀ s ∈ x1.xs, Rd W s.a (s.xs.map vU8) ∧ s.xs.length < 9223372036854775807 := fun s hs => ⟨(Sl.bytes (ok1.each s hs)).1, by have h1 := (ok1.each s hs).le; have h2 := (ok1.each s hs).bytes; omega⟩
  refine (queueOrder_any x0 W x1.a x1.c x1.xs hrd1 hle1 (by omega) he x2.a x2.c x2.xs hrd2 hle2 (by omega)).mono fun e W' ⟨v, he, hv, hm⟩ => ?_
  subst he; subst hv
  exact ⟨_, rfl, post_true (tb := 4) laidOut (by kernel_rfl) rfl rfl Try.underlying4 hW' (fun _ => rfl) hm.below⟩

theorem queueOrder_laid (os : Os) : laidMet Try.prog Rows.queueOrderRow.laid ((laidWorld os).forCall (fun _ _ => 0) ⟨#[], #[.int .i64 0, .slice none 0 0, .slice none 0 0], []⟩).memory :=
  laidMet_of_run' 8 (by kernel_rfl) (by kernel_rfl)
theorem queueOrder_reads (os : Os) {H : Type} (enc : TypeId × Value → H) : ∃ places, DataW.whole enc Try.prog ((laidWorld os).forCall (fun _ _ => 0) ⟨#[], #[.int .i64 0, .slice none 0 0, .slice none 0 0], []⟩).memory Try.f5.params.toList Rows.queueOrderSpec.vars false #[.int .i64 0, .slice none 0 0, .slice none 0 0].toList 8 = some ([.lit (.int .i64 0), .nil, .nil], [], places) :=
  ⟨[], by kernel_rfl⟩

set_option maxRecDepth 100000 in
theorem queueOrder_lifted (os : Os) (started : os.Started) (H : Type) (enc : TypeId × Value → H) (F : Stop.Interp) :
    ReturnsInHanded {} Try.checked os 5 .any ((OpenSpec.ofChange Rows.queueOrderSpec).preRow enc Try.prog Try.f5 Rows.queueOrderRow.domain false Rows.queueOrderRow.laid) (((OpenSpec.ofChange Rows.queueOrderSpec).at F).post enc Try.prog Try.f5 false true false false) := by
  obtain ⟨places, hx⟩ := queueOrder_reads os enc
  refine returnsInHanded_of_row (C := Try.checked) (s := OpenSpec.ofChange Rows.queueOrderSpec) own started (by kernel_rfl) Try.func5
    (witness_row_at (enc := enc) (C := Try.checked) false (laidWorld os) #[.int .i64 0, .slice none 0 0, .slice none 0 0] rfl (by kernel_rfl) (by kernel_rfl) (by kernel_rfl)
      (OpenSpec.preRow_of_cond 8 hx (by kernel_rfl) (fun k hk => by cases hk) (by kernel_rfl) (queueOrder_laid os))) ?_
  intro W base args ds gs before hval hW _ hcond hz hL _ _
  exact queueOrder_contract H enc W base args ds gs before hval hW hz 

theorem queueOrder_said : Rows.QueueOrderSaid :=
  OpenClaim.holds_of_cond 5 Try.f5 rfl rfl rfl rfl rfl rfl rfl ⟨rfl, rfl, rfl, rfl, rfl⟩ rfl rfl rfl rfl rfl (by kernel_rfl) Try.func5 (by kernel_rfl)
    (of_decide_eq_true (by kernel_rfl)) (by unfold Func.isWrapper; first | (rw [if_pos (by decide +kernel)]; kernel_rfl) | (rw [if_neg (by decide +kernel)]; exact ⟨rfl, rfl⟩))
    (fun os started H enc _ F => by rw [OpenClaim.pre_eq_preRow]; exact queueOrder_lifted os started H enc F)

end Go.Proofs.Ytigogbodobifdaa
