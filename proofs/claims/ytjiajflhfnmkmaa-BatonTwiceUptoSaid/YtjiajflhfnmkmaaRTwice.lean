/- BatonTwice up to the bound: the same Play again is the same; picks stay as they are, the list of moves is new. The arguments together have bulk at most 1048576 (the given bound of an Upto statement); nothing that was there is changed. -/
import Derived.Test.YtjiajflhfnmkmaaPs
import Derived.Test.YtjiajflhfnmkmaaOTwice
set_option linter.unusedVariables false
set_option linter.unusedSimpArgs false
set_option linter.unusedSectionVars false
section
namespace Go.Proofs.Ytjiajflhfnmkmaa
open Go.Sx Go.Bt Go.Conc Go.ChangeShapes Go.WideShapes Go.ChangeAt Go.RowKit
set_option maxRecDepth 100000 in
theorem batonTwice_runs (H : Type) (enc : TypeId × Value → H) (W : World) (base : Nat) (args : Array Value) (ds gs : List (DataW H)) (before : List MemPlace)
    (hval : ∀ (j : Nat) t v, Try.f4.params[j]? = some t → args[j]? = some v → Value.okWide Try.prog W .any base t v)
    (hW : DataW.Whole enc Try.prog Try.f4.params.toList Rows.batonTwiceSpec.vars false W args.toList ds gs before)
    (hz : (DataW.weightsEach Try.prog (Try.f4.params.toList ++ (OpenSpec.ofChange Rows.batonTwiceSpec).bare.plain.varTypes Try.prog) (ds ++ gs)).all (· ≤ reachBytes) = true)
    (hk : Rows.uptoSmall H (ds ++ gs) = true) :
    EndsW Try.prog (fun v W' => Rows.batonTwiceSpec.post enc Try.prog Try.f4 false true false false W args v W') (solo (G (Frame.enter Try.prog 4 args .normal) []) W) #[] := by
  letI : Gnd := ⟨W⟩
  have hW' := hW
  obtain ⟨p, q, hA0, hV, rfl, hfz, hnd⟩ := hW
  have hA : DataW.TrodAll enc Try.prog W 0 (fun _ => true) true Try.f4.params.toList args.toList ds p := hA0
  obtain ⟨rfl, rfl⟩ := trodVars_none hV
  rw [List.append_nil] at hz hk
  rw [Try.params4] at hA hval hz
  obtain ⟨v0, vs0, d0, ds0, p0, q0, hargs, rfl, rfl, h0, r0⟩ := trodAll_cons hA
  obtain ⟨v1, vs1, d1, ds1, p1, q1, rfl, rfl, rfl, h1, r1⟩ := trodAll_cons r0
  obtain ⟨v2, vs2, d2, ds2, p2, q2, rfl, rfl, rfl, h2, r2⟩ := trodAll_cons r1
  obtain ⟨rfl, rfl, rfl⟩ := trodAll_nil r2
  obtain rfl : args = #[v0, v1, v2] := by cases args; simp_all
  have hbulk := bulk_bound hk
  obtain ⟨x0, rfl, ok0, sz0⟩ := Opener.cell (V := fun s : Sl (Sl (Int × Int × Unit)) => s.v) o22 (single_slice (P := Try.prog) (w := W) (r := .any) (base := base) (t := 22) (v := v0) Try.underlying22 (hval 0 22 v0 rfl rfl)) h0 (weights_at hz (j := 0) (t := 22) (d := d0) rfl rfl)
  obtain ⟨x1, rfl, ok1, sz1⟩ := Opener.cell (V := fun s : Sl Int => s.v) o23 (single_slice (P := Try.prog) (w := W) (r := .any) (base := base) (t := 23) (v := v1) Try.underlying23 (hval 1 23 v1 rfl rfl)) h1 (weights_at hz (j := 1) (t := 23) (d := d1) rfl rfl)
  obtain ⟨x2, rfl, ok2, sz2⟩ := Opener.cell (V := fun x : Bool => .bool x) o4 (single_bool (P := Try.prog) (w := W) (r := .any) (base := base) (t := 4) (v := v2) Try.underlying4 (hval 2 4 v2 rfl rfl)) h2 (weights_at hz (j := 2) (t := 4) (d := d2) rfl rfl)
  simp only [List.map_cons, List.map_nil, List.sum_cons, List.sum_nil] at hbulk
  obtain ⟨g1, g2, g3⟩ := prg_small ok0 sz0 (by omega)
  refine law_run (vs := [x0.v, x1.v, .bool x2]) Try.func4 rfl rfl ?_
  have hG := prg_of (hval 0 22 x0.v rfl rfl) ok0.rd (fun s hs => (ok0.each s hs).rd) g3
  exact twice_p (S := []) (fun F t hF => Pt.weaken hF (fun _ h => h) (pt_last (fn := Try.f4) (v := .bool true) Try.func4 rfl (by kernel_rfl) (fun a hf => res_slot rfl rfl hf) fun w hK hr => post_true (tb := 4) laidOut (by kernel_rfl) rfl rfl Try.underlying4 hW' (fun _ => rfl) (below_of hK hr)))
    hG g1 g2 (qs := x1.xs) (cap := x1.c) (qv_of ok1.rd)
set_option maxRecDepth 100000 in
theorem batonTwice_lifted (os : Os) (started : os.Started) (H : Type) (enc : TypeId × Value → H) (F : Stop.Interp) :
    ReturnsInLeavingWide {} Try.checked os 4 .any ((Rows.OpenSpec.upto Rows.batonTwiceSpec).pre6 enc Try.prog Try.f4 Rows.batonTwiceUptoRow.domain false) (((Rows.OpenSpec.upto Rows.batonTwiceSpec).at F).post enc Try.prog Try.f4 false true false false) := by
  refine returnsInLeaving_of_cond (C := Try.checked) (s := Rows.OpenSpec.upto Rows.batonTwiceSpec) rfl own started Try.func4
    (OpenSpec.witness (enc := enc) (C := Try.checked) (s := Rows.OpenSpec.upto Rows.batonTwiceSpec) (x := ([.nil, .nil, .lit (.bool false)], [], [])) rfl false ⟨#[], #[.slice none 0 0, .slice none 0 0, .bool false], []⟩ 8 (by kernel_rfl) (by kernel_rfl) (by kernel_rfl) (by kernel_rfl) (by kernel_rfl) (by kernel_rfl)) ?_
  intro W base args ds gs before hval hW hz hk
  exact batonTwice_runs H enc W base args ds gs before hval hW hz hk
theorem batonTwice_said : Rows.BatonTwiceUptoSaid :=
  holds_leaving 4 Try.f4 ⟨rfl, rfl, rfl⟩ rfl rfl ⟨rfl, rfl, rfl, rfl, rfl, rfl, rfl⟩ rfl rfl rfl rfl rfl (by kernel_rfl) Try.func4 (by kernel_rfl)
    (of_decide_eq_true (by kernel_rfl)) (by unfold Func.isWrapper; first | (rw [if_pos (by decide +kernel)]; kernel_rfl) | (rw [if_neg (by decide +kernel)]; exact ⟨rfl, rfl⟩))
    (fun os started H enc _ F => by rw [OpenClaim.pre_of_none' rfl]; exact batonTwice_lifted os started H enc F)
#print axioms batonTwice_said
end Go.Proofs.Ytjiajflhfnmkmaa
end
