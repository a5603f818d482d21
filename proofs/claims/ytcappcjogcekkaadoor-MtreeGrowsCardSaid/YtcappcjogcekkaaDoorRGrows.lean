/- MtreeGrows (tied card): trees made from one another by any appends, some of them refused: each tells its own leaves, again when all have been made; nothing that was there is changed; the program's table reads as its text lays it. -/
import Derived.Test.YtcappcjogcekkaaDoorBaseG
import Derived.Test.YtcappcjogcekkaaDoorMt15
set_option linter.unusedVariables false
set_option linter.unusedSimpArgs false
namespace Go.Proofs.YtcappcjogcekkaaDoor
open Go.Sx Go.Ps Go.ChangeShapes Go.WideShapes Go.ChangeAt Go.RowKit

set_option maxRecDepth 100000 in
theorem mtreeGrows_contract (H : Type) (enc : TypeId × Value → H) (W : World) (base : Nat) (args : Array Value) (ds gs : List (DataW H)) (before : List MemPlace)
    (hval : ∀ (j : Nat) t v, Tryd.f3.params[j]? = some t → args[j]? = some v → Value.okWide Tryd.prog W .any base t v)
    (hW : DataW.Whole enc Tryd.prog Tryd.f3.params.toList Rows.mtreeGrowsSpec.vars false W args.toList ds gs before)
    (hz : (DataW.weightsEach Tryd.prog (Tryd.f3.params.toList ++ (OpenSpec.ofChange Rows.mtreeGrowsSpec).bare.plain.varTypes Tryd.prog) (ds ++ gs)).all (· ≤ reachBytes) = true)
    (hL : laidMetH Tryd.prog Rows.mtreeGrowsRow.laid W) :
    Calls Tryd.prog 3 args W fun e W' => ∃ v, e = .returned v ∧ Rows.mtreeGrowsSpec.post enc Tryd.prog Tryd.f3 false true false false W args v W' := by
  have hW' := hW
  obtain ⟨p, q, hA0, hV, rfl, hfz, hnd⟩ := hW
  have hA : DataW.TrodAll enc Tryd.prog W 0 (fun _ => true) true Tryd.f3.params.toList args.toList ds p := hA0
  have hK : KW W := kw hL
  obtain ⟨rfl, rfl⟩ := trodVars_none hV
  rw [List.append_nil] at hz
  rw [Tryd.params3] at hA hval
  obtain ⟨v0, vs0, d0, ds0, p0, q0, hargs, rfl, rfl, h0, r0⟩ := trodAll_cons hA
  obtain ⟨v1, vs1, d1, ds1, p1, q1, rfl, rfl, rfl, h1, r1⟩ := trodAll_cons r0
  obtain ⟨rfl, rfl, rfl⟩ := trodAll_nil r1
  obtain rfl : args = #[v0, v1] := by cases args; simp_all
  obtain ⟨x0, rfl, ok0, sz0⟩ := Opener.cell (V := (fun x => vInt x)) o3 (single_int (P := Tryd.prog) (w := W) (r := .any) (base := base) (t := 3) (v := v0) Tryd.underlying3 (hval 0 3 v0 rfl rfl)) h0 (weights_at hz (j := 0) (t := 3) (d := d0) rfl rfl)
  obtain ⟨x1, rfl, ok1, sz1⟩ := Opener.cell (V := (fun s : Sl (Grw) => s.v)) o22 (single_slice (P := Tryd.prog) (w := W) (r := .any) (base := base) (t := 22) (v := v1) Tryd.underlying22 (hval 1 22 v1 rfl rfl)) h1 (weights_at hz (j := 1) (t := 22) (d := d1) rfl rfl)
  have hb1 := ok1.bytes
  have hl1 := ok1.le
  refine (mtreeGrows_any x0 W hK x1.a x1.c x1.xs ok1.rd ok1.le (by omega) (fun g hg => (ok1.each g hg).2)).mono fun e W' ⟨v, he, hv, hm⟩ => ?_
  subst he; subst hv
  exact ⟨_, rfl, post_true (tb := 4) laidOut (by kernel_rfl) rfl rfl Tryd.underlying4 hW' (fun _ => rfl) hm.below⟩

theorem mtreeGrows_laid (os : Os) : laidMet Tryd.prog Rows.mtreeGrowsRow.laid ((laidWorld os).forCall (fun _ _ => 0) ⟨#[], #[.int .i64 0, .slice none 0 0], []⟩).memory :=
  laidMet_of_run' 8 (by kernel_rfl) (by kernel_rfl)
theorem mtreeGrows_reads (os : Os) {H : Type} (enc : TypeId × Value → H) : ∃ places, DataW.whole enc Tryd.prog ((laidWorld os).forCall (fun _ _ => 0) ⟨#[], #[.int .i64 0, .slice none 0 0], []⟩).memory Tryd.f3.params.toList Rows.mtreeGrowsSpec.vars false #[.int .i64 0, .slice none 0 0].toList 8 = some ([.lit (.int .i64 0), .nil], [], places) :=
  ⟨[], by kernel_rfl⟩

set_option maxRecDepth 100000 in
theorem mtreeGrows_lifted (os : Os) (started : os.Started) (H : Type) (enc : TypeId × Value → H) (F : Stop.Interp) :
    ReturnsInHanded {} Tryd.checked os 3 .any ((OpenSpec.ofChange Rows.mtreeGrowsSpec).preRow enc Tryd.prog Tryd.f3 Rows.mtreeGrowsRow.domain false Rows.mtreeGrowsRow.laid) (((OpenSpec.ofChange Rows.mtreeGrowsSpec).at F).post enc Tryd.prog Tryd.f3 false true false false) := by
  obtain ⟨places, hx⟩ := mtreeGrows_reads os enc
  refine returnsInHanded_of_row (C := Tryd.checked) (s := OpenSpec.ofChange Rows.mtreeGrowsSpec) own started (by kernel_rfl) Tryd.func3
    (witness_row_at (enc := enc) (C := Tryd.checked) false (laidWorld os) #[.int .i64 0, .slice none 0 0] rfl (by kernel_rfl) (by kernel_rfl) (by kernel_rfl)
      (OpenSpec.preRow_of_cond 8 hx (by kernel_rfl) (fun k hk => by cases hk) (by kernel_rfl) (mtreeGrows_laid os))) ?_
  intro W base args ds gs before hval hW _ hcond hz hL _ _
  exact mtreeGrows_contract H enc W base args ds gs before hval hW hz hL

theorem mtreeGrows_said : Rows.MtreeGrowsSaid :=
  OpenClaim.holds_of_cond 3 Tryd.f3 rfl rfl rfl rfl rfl rfl rfl ⟨rfl, rfl, rfl, rfl, rfl⟩ rfl rfl rfl rfl rfl (by kernel_rfl) Tryd.func3 (by kernel_rfl)
    (of_decide_eq_true (by kernel_rfl)) (by unfold Func.isWrapper; first | (rw [if_pos (by decide +kernel)]; kernel_rfl) | (rw [if_neg (by decide +kernel)]; exact ⟨rfl, rfl⟩))
    (fun os started H enc _ F => by rw [OpenClaim.pre_eq_preRow]; exact mtreeGrows_lifted os started H enc F)

theorem mtreeGrows_plain (f : FuncId) (fn : Func) (hf : Tryd.pinned.checked.prog.funcNamed "notary/notarylaw10.MtreeGrows" = some f) (hfn : Tryd.pinned.checked.prog.funcs[f]? = some fn) :
    false = Tryd.pinned.checked.prog.looks [] ∧ ∀ (j : Nat) t, fn.params[j]? = some t → Tryd.pinned.checked.prog.wantsStandIn t = false := by
  obtain rfl : f = 3 := Option.some.inj ((show Tryd.prog.funcNamed "notary/notarylaw10.MtreeGrows" = some 3 by kernel_rfl).symm.trans hf) |>.symm
  obtain rfl : fn = Tryd.f3 := (Option.some.inj (Tryd.func3.symm.trans hfn)).symm
  refine ⟨by kernel_rfl, fun j t ht => ?_⟩
  rw [Tryd.params3] at ht
  have ht := Array.mem_of_getElem? ht
  have hall : (#[3, 22] : Array TypeId).all (fun t => !(Tryd.prog.wantsStandIn t)) = true := by kernel_rfl
  have h1 := Array.all_eq_true_iff_forall_mem.1 hall t ht
  exact (show Tryd.prog.wantsStandIn t = false by simpa using h1)

/-- The card. -/
theorem mtreeGrows_card : Rows.MtreeGrowsCardSaid :=
  Claim7.holds_tied_plain_at .later [] _ _ _ _ mtreeGrows_said (fun _ h => by cases h) (by kernel_rfl) (fun _ h => by cases h) mtreeGrows_row_tie rfl ⟨rfl, rfl⟩ (by kernel_rfl) rfl mtreeGrows_plain (by kernel_rfl)
end Go.Proofs.YtcappcjogcekkaaDoor
