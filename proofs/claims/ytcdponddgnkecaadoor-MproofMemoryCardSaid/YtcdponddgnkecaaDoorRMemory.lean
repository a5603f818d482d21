import Derived.Test.YtcdponddgnkecaaDoorBase
import Derived.Test.YtcdponddgnkecaaDoorMp15
set_option linter.unusedVariables false
set_option linter.unusedSimpArgs false
namespace Go.Proofs.YtcdponddgnkecaaDoor
open Go.Sx Go.Ps Go.ChangeShapes Go.WideShapes Go.ChangeAt Go.RowKit

set_option maxRecDepth 100000 in
theorem mproofMemory_contract (H : Type) (enc : TypeId × Value → H) (W : World) (base : Nat) (args : Array Value) (ds gs : List (DataW H)) (before : List MemPlace)
    (hval : ∀ (j : Nat) t v, Tryd.f9.params[j]? = some t → args[j]? = some v → Value.okWide Tryd.prog W .any base t v)
    (hW : DataW.Whole enc Tryd.prog Tryd.f9.params.toList Rows.mproofMemorySpec.vars false W args.toList ds gs before)
    (hz : (DataW.weightsEach Tryd.prog (Tryd.f9.params.toList ++ (OpenSpec.ofChange Rows.mproofMemorySpec).bare.plain.varTypes Tryd.prog) (ds ++ gs)).all (· ≤ reachBytes) = true)
    (hL : laidMetH Tryd.prog Rows.mproofMemoryRow.laid W) :
    Calls Tryd.prog 9 args W fun e W' => ∃ v, e = .returned v ∧ Rows.mproofMemorySpec.post enc Tryd.prog Tryd.f9 false true false false W args v W' := by
  have hW' := hW
  obtain ⟨p, q, hA0, hV, rfl, hfz, hnd⟩ := hW
  have hA : DataW.TrodAll enc Tryd.prog W 0 (fun _ => true) true Tryd.f9.params.toList args.toList ds p := hA0
  have hK : KW W := kw hL
  obtain ⟨rfl, rfl⟩ := trodVars_none hV
  rw [List.append_nil] at hz
  rw [Tryd.params9] at hA hval
  obtain ⟨v0, vs0, d0, ds0, p0, q0, hargs, rfl, rfl, h0, r0⟩ := trodAll_cons hA
  obtain ⟨v1, vs1, d1, ds1, p1, q1, rfl, rfl, rfl, h1, r1⟩ := trodAll_cons r0
  obtain ⟨v2, vs2, d2, ds2, p2, q2, rfl, rfl, rfl, h2, r2⟩ := trodAll_cons r1
  obtain ⟨v3, vs3, d3, ds3, p3, q3, rfl, rfl, rfl, h3, r3⟩ := trodAll_cons r2
  obtain ⟨v4, vs4, d4, ds4, p4, q4, rfl, rfl, rfl, h4, r4⟩ := trodAll_cons r3
  obtain ⟨rfl, rfl, rfl⟩ := trodAll_nil r4
  obtain rfl : args = #[v0, v1, v2, v3, v4] := by cases args; simp_all
  obtain ⟨x0, rfl, ok0, sz0⟩ := Opener.cell (V := (fun x => vInt x)) o3 (single_int (P := Tryd.prog) (w := W) (r := .any) (base := base) (t := 3) (v := v0) Tryd.underlying3 (hval 0 3 v0 rfl rfl)) h0 (weights_at hz (j := 0) (t := 3) (d := d0) rfl rfl)
  obtain ⟨x1, rfl, ok1, sz1⟩ := Opener.cell (V := (fun s : Sl (List UInt8) => s.v)) o22 (single_slice (P := Tryd.prog) (w := W) (r := .any) (base := base) (t := 22) (v := v1) Tryd.underlying22 (hval 1 22 v1 rfl rfl)) h1 (weights_at hz (j := 1) (t := 22) (d := d1) rfl rfl)
  obtain ⟨x2, rfl, ok2, sz2⟩ := Opener.cell (V := (fun x => vU64 x)) o23 (single_int (P := Tryd.prog) (w := W) (r := .any) (base := base) (t := 23) (v := v2) Tryd.underlying23 (hval 2 23 v2 rfl rfl)) h2 (weights_at hz (j := 2) (t := 23) (d := d2) rfl rfl)
  obtain ⟨x3, rfl, ok3, sz3⟩ := Opener.cell (V := (fun x => vU64 x)) o23 (single_int (P := Tryd.prog) (w := W) (r := .any) (base := base) (t := 23) (v := v3) Tryd.underlying23 (hval 3 23 v3 rfl rfl)) h3 (weights_at hz (j := 3) (t := 23) (d := d3) rfl rfl)
  obtain ⟨x4, rfl, ok4, sz4⟩ := Opener.cell (V := (fun x => vU64 x)) o23 (single_int (P := Tryd.prog) (w := W) (r := .any) (base := base) (t := 23) (v := v4) Tryd.underlying23 (hval 4 23 v4 rfl rfl)) h4 (weights_at hz (j := 4) (t := 23) (d := d4) rfl rfl)
  have hp1 := dgList ok1
  refine (mproofMemory_any x0 x2 x3 x4 W hK x1.a x1.c x1.xs hp1.el hp1.rd hp1.le hp1.hb).mono fun e W' ⟨v, he, hv, hm⟩ => ?_
  subst he; subst hv
  exact ⟨_, rfl, post_true (tb := 4) laidOut (by kernel_rfl) rfl rfl Tryd.underlying4 hW' (fun _ => rfl) hm.below⟩

theorem mproofMemory_laid (os : Os) : laidMet Tryd.prog Rows.mproofMemoryRow.laid ((laidWorld os).forCall (fun _ _ => 0) ⟨#[], #[.int .i64 0, .slice none 0 0, .int .u64 0, .int .u64 0, .int .u64 0], []⟩).memory :=
  laidMet_of_run' 8 (by kernel_rfl) (by kernel_rfl)
theorem mproofMemory_reads (os : Os) {H : Type} (enc : TypeId × Value → H) : ∃ places, DataW.whole enc Tryd.prog ((laidWorld os).forCall (fun _ _ => 0) ⟨#[], #[.int .i64 0, .slice none 0 0, .int .u64 0, .int .u64 0, .int .u64 0], []⟩).memory Tryd.f9.params.toList Rows.mproofMemorySpec.vars false #[.int .i64 0, .slice none 0 0, .int .u64 0, .int .u64 0, .int .u64 0].toList 8 = some ([.lit (.int .i64 0), .nil, .lit (.int .u64 0), .lit (.int .u64 0), .lit (.int .u64 0)], [], places) :=
  ⟨[], by kernel_rfl⟩

set_option maxRecDepth 100000 in
theorem mproofMemory_lifted (os : Os) (started : os.Started) (H : Type) (enc : TypeId × Value → H) (F : Stop.Interp) :
    ReturnsInHanded {} Tryd.checked os 9 .any ((OpenSpec.ofChange Rows.mproofMemorySpec).preRow enc Tryd.prog Tryd.f9 Rows.mproofMemoryRow.domain false Rows.mproofMemoryRow.laid) (((OpenSpec.ofChange Rows.mproofMemorySpec).at F).post enc Tryd.prog Tryd.f9 false true false false) := by
  obtain ⟨places, hx⟩ := mproofMemory_reads os enc
  refine returnsInHanded_of_row (C := Tryd.checked) (s := OpenSpec.ofChange Rows.mproofMemorySpec) own started (by kernel_rfl) Tryd.func9
    (witness_row_at (enc := enc) (C := Tryd.checked) false (laidWorld os) #[.int .i64 0, .slice none 0 0, .int .u64 0, .int .u64 0, .int .u64 0] rfl (by kernel_rfl) (by kernel_rfl) (by kernel_rfl)
      (OpenSpec.preRow_of_cond 8 hx (by kernel_rfl) (fun k hk => by cases hk) (by kernel_rfl) (mproofMemory_laid os))) ?_
  intro W base args ds gs before hval hW _ hcond hz hL _ _
  exact mproofMemory_contract H enc W base args ds gs before hval hW hz hL

theorem mproofMemory_said : Rows.MproofMemorySaid :=
  OpenClaim.holds_of_cond 9 Tryd.f9 rfl rfl rfl rfl rfl rfl rfl ⟨rfl, rfl, rfl, rfl, rfl⟩ rfl rfl rfl rfl rfl (by kernel_rfl) Tryd.func9 (by kernel_rfl)
    (of_decide_eq_true (by kernel_rfl)) (by unfold Func.isWrapper; first | (rw [if_pos (by decide +kernel)]; kernel_rfl) | (rw [if_neg (by decide +kernel)]; exact ⟨rfl, rfl⟩))
    (fun os started H enc _ F => by rw [OpenClaim.pre_eq_preRow]; exact mproofMemory_lifted os started H enc F)

theorem mproofMemory_plain (f : FuncId) (fn : Func) (hf : Tryd.pinned.checked.prog.funcNamed "notary/notarylaw11.MproofMemory" = some f) (hfn : Tryd.pinned.checked.prog.funcs[f]? = some fn) :
    false = Tryd.pinned.checked.prog.looks [] ∧ ∀ (j : Nat) t, fn.params[j]? = some t → Tryd.pinned.checked.prog.wantsStandIn t = false := by
  obtain rfl : f = 9 := Option.some.inj ((show Tryd.prog.funcNamed "notary/notarylaw11.MproofMemory" = some 9 by kernel_rfl).symm.trans hf) |>.symm
  obtain rfl : fn = Tryd.f9 := (Option.some.inj (Tryd.func9.symm.trans hfn)).symm
  refine ⟨by kernel_rfl, fun j t ht => ?_⟩
  rw [Tryd.params9] at ht
  have ht := Array.mem_of_getElem? ht
  have hall : (#[3, 22, 23, 23, 23] : Array TypeId).all (fun t => !(Tryd.prog.wantsStandIn t)) = true := by kernel_rfl
  have h1 := Array.all_eq_true_iff_forall_mem.1 hall t ht
  exact (show Tryd.prog.wantsStandIn t = false by simpa using h1)

/-- The card. -/
theorem mproofMemory_card : Rows.MproofMemoryCardSaid :=
  Claim7.holds_tied_plain_at .later [] _ _ _ _ mproofMemory_said (fun _ h => by cases h) (by kernel_rfl) (fun _ h => by cases h) mproofMemory_row_tie rfl ⟨rfl, rfl⟩ (by kernel_rfl) rfl mproofMemory_plain (by kernel_rfl)
end Go.Proofs.YtcdponddgnkecaaDoor
