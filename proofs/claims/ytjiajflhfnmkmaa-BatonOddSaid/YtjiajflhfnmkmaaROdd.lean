/- BatonOdd: of counts of actors that are none, of no act, of a nil Turn and of one that no Play made: nothing comes, whatever the input; nothing that was there is changed. -/
import Derived.Test.YtjiajflhfnmkmaaPs
import Derived.Test.YtjiajflhfnmkmaaOOdd
import Derived.Conc.LeavingOf
import Derived.Conc.Holds
set_option linter.unusedVariables false
set_option linter.unusedSimpArgs false
set_option linter.unusedSectionVars false
section
namespace Go.Proofs.Ytjiajflhfnmkmaa
open Go.Sx Go.Bt Go.Conc Go.ChangeShapes Go.WideShapes Go.ChangeAt Go.RowKit
set_option maxRecDepth 100000 in
theorem batonOdd_runs (H : Type) (enc : TypeId × Value → H) (W : World) (base : Nat) (args : Array Value) (ds gs : List (DataW H)) (before : List MemPlace)
    (hval : ∀ (j : Nat) t v, Try.f5.params[j]? = some t → args[j]? = some v → Value.okWide Try.prog W .any base t v)
    (hW : DataW.Whole enc Try.prog Try.f5.params.toList Rows.batonOddSpec.vars false W args.toList ds gs before)
    (hz : (DataW.weightsEach Try.prog (Try.f5.params.toList ++ Rows.batonOddSpec.plain.varTypes Try.prog) (ds ++ gs)).all (· ≤ reachBytes) = true) :
    EndsW Try.prog (fun v W' => Rows.batonOddSpec.post enc Try.prog Try.f5 false true false false W args v W') (solo (G (Frame.enter Try.prog 5 args .normal) []) W) #[] := by
  letI : Gnd := ⟨W⟩
  have hW' := hW
  obtain ⟨p, q, hA0, hV, rfl, hfz, hnd⟩ := hW
  have hA : DataW.TrodAll enc Try.prog W 0 (fun _ => true) true Try.f5.params.toList args.toList ds p := hA0
  obtain ⟨rfl, rfl⟩ := trodVars_none hV
  rw [List.append_nil] at hz
  rw [Try.params5] at hA hval hz
  obtain ⟨v0, vs0, d0, ds0, p0, q0, hargs, rfl, rfl, h0, r0⟩ := trodAll_cons hA
  obtain ⟨v1, vs1, d1, ds1, p1, q1, rfl, rfl, rfl, h1, r1⟩ := trodAll_cons r0
  obtain ⟨v2, vs2, d2, ds2, p2, q2, rfl, rfl, rfl, h2, r2⟩ := trodAll_cons r1
  obtain ⟨rfl, rfl, rfl⟩ := trodAll_nil r2
  obtain rfl : args = #[v0, v1, v2] := by cases args; simp_all
  obtain ⟨n, rfl⟩ := okWide_int (P := Try.prog) (w := W) (r := .any) (base := base) (t := 3) (v := v0) Try.underlying3 (hval 0 3 v0 rfl rfl)
  obtain ⟨calm, rfl⟩ := okWide_bool (P := Try.prog) (w := W) (r := .any) (base := base) (t := 4) (v := v2) Try.underlying4 (hval 2 4 v2 rfl rfl)
  refine law_run (vs := [vInt n, v1, .bool calm]) Try.func5 rfl rfl ?_
  exact odd_p (S := []) (fun F t hF => Pt.weaken hF (fun _ h => h) (pt_last (fn := Try.f5) (v := .bool true) Try.func5 rfl (by kernel_rfl) (fun a hf => res_slot rfl rfl hf) fun w hK hr => post_true (tb := 4) laidOut (by kernel_rfl) rfl rfl Try.underlying4 hW' (fun _ => rfl) (below_of hK hr)))
set_option maxRecDepth 100000 in
theorem batonOdd_lifted (os : Os) (started : os.Started) (H : Type) (enc : TypeId × Value → H) :
    ReturnsInLeavingWide {} Try.checked os 5 .any (Rows.batonOddSpec.pre6 enc Try.prog Try.f5 Rows.batonOddRow.domain false) (Rows.batonOddSpec.post enc Try.prog Try.f5 false true false false) := by
  refine returnsInLeavingWide_of_change_sized (C := Try.checked) own started Try.func5
    (ChangeSpec.witness6 (enc := enc) (C := Try.checked) false ⟨#[], #[.int .i64 0, .slice none 0 0, .bool false], []⟩ 8 (by kernel_rfl) (by kernel_rfl) (by kernel_rfl) (by kernel_rfl)) ?_
  intro W base args ds gs before hval hW _ hz _
  exact batonOdd_runs H enc W base args ds gs before hval hW hz
theorem batonOdd_said : Rows.BatonOddSaid :=
  OpenClaim.holds_of_wide_leaving 5 Try.f5 rfl rfl rfl rfl rfl rfl rfl ⟨rfl, rfl, rfl, rfl, rfl⟩ rfl rfl rfl rfl rfl (by kernel_rfl) Try.func5 (by kernel_rfl)
    (of_decide_eq_true (by kernel_rfl)) (by unfold Func.isWrapper; first | (rw [if_pos (by decide +kernel)]; kernel_rfl) | (rw [if_neg (by decide +kernel)]; exact ⟨rfl, rfl⟩))
    (fun os started H enc _ => batonOdd_lifted os started H enc)
#print axioms batonOdd_said
end Go.Proofs.Ytjiajflhfnmkmaa
end
