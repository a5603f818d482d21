/- McheckCounts (tied card): a proof of digests of the width is refused with ErrProof for its length just where it has not as many digests as layer 11's Counts says; nothing that was there is changed; the program's table reads as its text lays it. -/
import Derived.Test.YtbhbhdojmacpmaaDoorBase
import Derived.Test.YtbhbhdojmacpmaaDoorMck10
set_option linter.unusedVariables false
set_option linter.unusedSimpArgs false
namespace Go.Proofs.YtbhbhdojmacpmaaDoor
open Go.Sx Go.Ps Go.ChangeShapes Go.WideShapes Go.ChangeAt Go.RowKit

set_option maxRecDepth 100000 in
theorem mcheckCounts_contract (H : Type) (enc : TypeId × Value → H) (W : World) (base : Nat) (args : Array Value) (ds gs : List (DataW H)) (before : List MemPlace)
    (hval : ∀ (j : Nat) t v, Tryd.f10.params[j]? = some t → args[j]? = some v → Value.okWide Tryd.prog W .any base t v)
    (hW : DataW.Whole enc Tryd.prog Tryd.f10.params.toList Rows.mcheckCountsSpec.vars false W args.toList ds gs before)
    (hz : (DataW.weightsEach Tryd.prog (Tryd.f10.params.toList ++ (OpenSpec.ofChange Rows.mcheckCountsSpec).bare.plain.varTypes Tryd.prog) (ds ++ gs)).all (· ≤ reachBytes) = true)
    (hL : laidMetH Tryd.prog Rows.mcheckCountsRow.laid W) :
    Calls Tryd.prog 10 args W fun e W' => ∃ v, e = .returned v ∧ Rows.mcheckCountsSpec.post enc Tryd.prog Tryd.f10 false true false false W args v W' := by
  have hW' := hW
  obtain ⟨p, q, hA0, hV, rfl, hfz, hnd⟩ := hW
  have hA : DataW.TrodAll enc Tryd.prog W 0 (fun _ => true) true Tryd.f10.params.toList args.toList ds p := hA0
  have hK : KW W := kw hL
  obtain ⟨rfl, rfl⟩ := trodVars_none hV
  rw [List.append_nil] at hz
  rw [Tryd.params10] at hA hval
  obtain ⟨v0, vs0, d0, ds0, p0, q0, hargs, rfl, rfl, h0, r0⟩ := trodAll_cons hA
  obtain ⟨rfl, rfl, rfl⟩ := trodAll_nil r0
  obtain rfl : args = #[v0] := by cases args; simp_all
  obtain ⟨x0, rfl, ok0, sz0⟩ := Opener.agg oAsk (agg_struct (P := Tryd.prog) (w := W) (r := .any) (base := base) (t := 27) (v := v0) Tryd.underlying27 (hval 0 27 v0 rfl rfl)) h0 (weights_at hz (j := 0) (t := 27) (d := d0) rfl rfl)
  refine (mcheckCounts_any x0.1 x0.2.1 ok0.2.1 x0.2.2.1 x0.2.2.2.1 x0.2.2.2.2.2 ok0.2.2.2 W hK x0.2.2.2.2.1.a x0.2.2.2.2.1.c x0.2.2.2.2.1.xs ok0.2.2.1.el ok0.2.2.1.rd ok0.2.2.1.le ok0.2.2.1.lt ok0.2.2.1.hb).mono fun e W' ⟨v, he, hv, hm⟩ => ?_
  subst he; subst hv
  exact ⟨_, rfl, post_true (tb := 4) laidOut (by kernel_rfl) rfl rfl Tryd.underlying4 hW' (fun _ => rfl) hm.below⟩

theorem mcheckCounts_laid (os : Os) : laidMet Tryd.prog Rows.mcheckCountsRow.laid ((laidWorld os).forCall (fun _ _ => 0) ⟨#[], #[.agg ([Value.int .i64 0] ++ List.replicate 32 (Value.int .u8 0) ++ [Value.int .u64 0, Value.int .u64 0] ++ [Value.slice none 0 0] ++ List.replicate 32 (Value.int .u8 0)).toArray], []⟩).memory :=
  laidMet_of_run' 8 (by kernel_rfl) (by kernel_rfl)
theorem mcheckCounts_reads (os : Os) {H : Type} (enc : TypeId × Value → H) : ∃ places, DataW.whole enc Tryd.prog ((laidWorld os).forCall (fun _ _ => 0) ⟨#[], #[.agg ([Value.int .i64 0] ++ List.replicate 32 (Value.int .u8 0) ++ [Value.int .u64 0, Value.int .u64 0] ++ [Value.slice none 0 0] ++ List.replicate 32 (Value.int .u8 0)).toArray], []⟩).memory Tryd.f10.params.toList Rows.mcheckCountsSpec.vars false #[.agg ([Value.int .i64 0] ++ List.replicate 32 (Value.int .u8 0) ++ [Value.int .u64 0, Value.int .u64 0] ++ [Value.slice none 0 0] ++ List.replicate 32 (Value.int .u8 0)).toArray].toList 8 = some ([.agg [.lit (.int .i64 0), .agg [.lit (.int .u8 0), .lit (.int .u8 0), .lit (.int .u8 0), .lit (.int .u8 0), .lit (.int .u8 0), .lit (.int .u8 0), .lit (.int .u8 0), .lit (.int .u8 0), .lit (.int .u8 0), .lit (.int .u8 0), .lit (.int .u8 0), .lit (.int .u8 0), .lit (.int .u8 0), .lit (.int .u8 0), .lit (.int .u8 0), .lit (.int .u8 0), .lit (.int .u8 0), .lit (.int .u8 0), .lit (.int .u8 0), .lit (.int .u8 0), .lit (.int .u8 0), .lit (.int .u8 0), .lit (.int .u8 0), .lit (.int .u8 0), .lit (.int .u8 0), .lit (.int .u8 0), .lit (.int .u8 0), .lit (.int .u8 0), .lit (.int .u8 0), .lit (.int .u8 0), .lit (.int .u8 0), .lit (.int .u8 0)], .lit (.int .u64 0), .lit (.int .u64 0), .nil, .agg [.lit (.int .u8 0), .lit (.int .u8 0), .lit (.int .u8 0), .lit (.int .u8 0), .lit (.int .u8 0), .lit (.int .u8 0), .lit (.int .u8 0), .lit (.int .u8 0), .lit (.int .u8 0), .lit (.int .u8 0), .lit (.int .u8 0), .lit (.int .u8 0), .lit (.int .u8 0), .lit (.int .u8 0), .lit (.int .u8 0), .lit (.int .u8 0), .lit (.int .u8 0), .lit (.int .u8 0), .lit (.int .u8 0), .lit (.int .u8 0), .lit (.int .u8 0), .lit (.int .u8 0), .lit (.int .u8 0), .lit (.int .u8 0), .lit (.int .u8 0), .lit (.int .u8 0), .lit (.int .u8 0), .lit (.int .u8 0), .lit (.int .u8 0), .lit (.int .u8 0), .lit (.int .u8 0), .lit (.int .u8 0)]]], [], places) :=
  ⟨[], by kernel_rfl⟩

set_option maxRecDepth 100000 in
theorem mcheckCounts_lifted (os : Os) (started : os.Started) (H : Type) (enc : TypeId × Value → H) (F : Stop.Interp) :
    ReturnsInHanded {} Tryd.checked os 10 .any ((OpenSpec.ofChange Rows.mcheckCountsSpec).preRow enc Tryd.prog Tryd.f10 Rows.mcheckCountsRow.domain false Rows.mcheckCountsRow.laid) (((OpenSpec.ofChange Rows.mcheckCountsSpec).at F).post enc Tryd.prog Tryd.f10 false true false false) := by
  obtain ⟨places, hx⟩ := mcheckCounts_reads os enc
  refine returnsInHanded_of_row (C := Tryd.checked) (s := OpenSpec.ofChange Rows.mcheckCountsSpec) own started (by kernel_rfl) Tryd.func10
    (witness_row_at (enc := enc) (C := Tryd.checked) false (laidWorld os) #[.agg ([Value.int .i64 0] ++ List.replicate 32 (Value.int .u8 0) ++ [Value.int .u64 0, Value.int .u64 0] ++ [Value.slice none 0 0] ++ List.replicate 32 (Value.int .u8 0)).toArray] rfl (by kernel_rfl) (by kernel_rfl) (by kernel_rfl)
      (OpenSpec.preRow_of_cond 8 hx (by kernel_rfl) (fun k hk => by cases hk) (by kernel_rfl) (mcheckCounts_laid os))) ?_
  intro W base args ds gs before hval hW _ hcond hz hL _ _
  exact mcheckCounts_contract H enc W base args ds gs before hval hW hz hL

theorem mcheckCounts_said : Rows.McheckCountsSaid :=
  OpenClaim.holds_of_cond 10 Tryd.f10 rfl rfl rfl rfl rfl rfl rfl ⟨rfl, rfl, rfl, rfl, rfl⟩ rfl rfl rfl rfl rfl (by kernel_rfl) Tryd.func10 (by kernel_rfl)
    (of_decide_eq_true (by kernel_rfl)) (by unfold Func.isWrapper; first | (rw [if_pos (by decide +kernel)]; kernel_rfl) | (rw [if_neg (by decide +kernel)]; exact ⟨rfl, rfl⟩))
    (fun os started H enc _ F => by rw [OpenClaim.pre_eq_preRow]; exact mcheckCounts_lifted os started H enc F)

theorem mcheckCounts_plain (f : FuncId) (fn : Func) (hf : Tryd.pinned.checked.prog.funcNamed "notary/notarylaw12.McheckCounts" = some f) (hfn : Tryd.pinned.checked.prog.funcs[f]? = some fn) :
    false = Tryd.pinned.checked.prog.looks [] ∧ ∀ (j : Nat) t, fn.params[j]? = some t → Tryd.pinned.checked.prog.wantsStandIn t = false := by
  obtain rfl : f = 10 := Option.some.inj ((show Tryd.prog.funcNamed "notary/notarylaw12.McheckCounts" = some 10 by kernel_rfl).symm.trans hf) |>.symm
  obtain rfl : fn = Tryd.f10 := (Option.some.inj (Tryd.func10.symm.trans hfn)).symm
  refine ⟨by kernel_rfl, fun j t ht => ?_⟩
  rw [Tryd.params10] at ht
  have ht := Array.mem_of_getElem? ht
  have hall : (#[27] : Array TypeId).all (fun t => !(Tryd.prog.wantsStandIn t)) = true := by kernel_rfl
  have h1 := Array.all_eq_true_iff_forall_mem.1 hall t ht
  exact (show Tryd.prog.wantsStandIn t = false by simpa using h1)

/-- The card. -/
theorem mcheckCounts_card : Rows.McheckCountsCardSaid :=
  Claim7.holds_tied_plain_at .later [] _ _ _ _ mcheckCounts_said (fun _ h => by cases h) (by kernel_rfl) (fun _ h => by cases h) mcheckCounts_row_tie rfl ⟨rfl, rfl⟩ (by kernel_rfl) rfl mcheckCounts_plain (by kernel_rfl)
end Go.Proofs.YtbhbhdojmacpmaaDoor
