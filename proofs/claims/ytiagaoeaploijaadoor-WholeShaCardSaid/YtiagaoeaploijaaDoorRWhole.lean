/- WholeSha (tied card): for every text and every list of cuts the theorem that pieces and copies make the whole's hash returns true; nothing that was there is changed; the program's table reads as its text lays it. -/
import Derived.Test.YtiagaoeaploijaaDoorBase
import Derived.Test.YtiagaoeaploijaaDoorSha11
namespace Go.Proofs.YtiagaoeaploijaaDoor
open Go.Sx Go.Ps Go.ChangeShapes Go.WideShapes Go.ChangeAt Go.RowKit

theorem wholeSha_contract (H : Type) (enc : TypeId × Value → H) (W : World) (base : Nat) (args : Array Value) (ds gs : List (DataW H)) (before : List MemPlace)
    (hval : ∀ (j : Nat) t v, Tryd.f12.params[j]? = some t → args[j]? = some v → Value.okWide Tryd.prog W .any base t v)
    (hW : DataW.Whole enc Tryd.prog Tryd.f12.params.toList Rows.wholeShaSpec.vars false W args.toList ds gs before)
    (hz : (DataW.weightsEach Tryd.prog (Tryd.f12.params.toList ++ (OpenSpec.ofChange Rows.wholeShaSpec).bare.plain.varTypes Tryd.prog) (ds ++ gs)).all (· ≤ reachBytes) = true)
    (hL : laidMetH Tryd.prog Rows.wholeShaRow.laid W) :
    Calls Tryd.prog 12 args W fun e W' => ∃ v, e = .returned v ∧ Rows.wholeShaSpec.post enc Tryd.prog Tryd.f12 false true false false W args v W' := by
  have hW' := hW
  obtain ⟨p, q, hA0, hV, rfl, hfz, hnd⟩ := hW
  have hA : DataW.TrodAll enc Tryd.prog W 0 (fun _ => true) true Tryd.f12.params.toList args.toList ds p := hA0
  have hK : KW W := kw hL
  obtain ⟨rfl, rfl⟩ := trodVars_none hV
  rw [List.append_nil] at hz
  rw [Tryd.params12] at hA hval
  obtain ⟨v0, vs0, d0, ds0, p0, q0, hargs, rfl, rfl, h0, r0⟩ := trodAll_cons hA
  obtain ⟨v1, vs1, d1, ds1, p1, q1, rfl, rfl, rfl, h1, r1⟩ := trodAll_cons r0
  obtain ⟨rfl, rfl, rfl⟩ := trodAll_nil r1
  obtain rfl : args = #[v0, v1] := by cases args; simp_all
  obtain ⟨a0, m0, c0, l0, rfl, hl0, hc0, hx0, hr0, hroom0⟩ := open_u8s Tryd.underlying22 Tryd.underlying5 (by kernel_rfl) (hval 0 22 v0 rfl rfl) h0
  have hb0 : c0 * 1 ≤ 140737488351232 := Nat.le_trans (hroom0.bytes hz (j := 0) (t := 22) (e := 5) rfl rfl Tryd.underlying22) (by decide)
  obtain ⟨a1, m1, c1, l1, rfl, hl1, hc1, hx1, hr1, hroom1⟩ := open_u8s Tryd.underlying22 Tryd.underlying5 (by kernel_rfl) (hval 1 22 v1 rfl rfl) h1
  have hb1 : c1 * 1 ≤ 140737488351232 := Nat.le_trans (hroom1.bytes hz (j := 1) (t := 22) (e := 5) rfl rfl Tryd.underlying22) (by decide)
  refine (wholeSha_any a0 m0 c0 l0 hl0 hc0 (by omega) a1 m1 c1 l1 hl1 (by omega) W hK hr0 hr1).mono fun e W' ⟨v, he, hv, hm⟩ => ?_
  subst he; subst hv
  exact ⟨_, rfl, post_true (tb := 4) laidOut (by kernel_rfl) rfl rfl Tryd.underlying4 hW' (fun _ => rfl) hm.below⟩

theorem wholeSha_laid (os : Os) : laidMet Tryd.prog Rows.wholeShaRow.laid ((laidWorld os).forCall (fun _ _ => 0) ⟨#[], #[.slice none 0 0, .slice none 0 0], []⟩).memory :=
  laidMet_of_run' 8 (by kernel_rfl) (by kernel_rfl)
theorem wholeSha_reads (os : Os) {H : Type} (enc : TypeId × Value → H) : ∃ places, DataW.whole enc Tryd.prog ((laidWorld os).forCall (fun _ _ => 0) ⟨#[], #[.slice none 0 0, .slice none 0 0], []⟩).memory Tryd.f12.params.toList Rows.wholeShaSpec.vars false #[.slice none 0 0, .slice none 0 0].toList 8 = some ([.nil, .nil], [], places) :=
  ⟨[], by kernel_rfl⟩

set_option maxRecDepth 100000 in
theorem wholeSha_lifted (os : Os) (started : os.Started) (H : Type) (enc : TypeId × Value → H) (F : Stop.Interp) :
    ReturnsInHanded {} Tryd.checked os 12 .any ((OpenSpec.ofChange Rows.wholeShaSpec).preRow enc Tryd.prog Tryd.f12 Rows.wholeShaRow.domain false Rows.wholeShaRow.laid) (((OpenSpec.ofChange Rows.wholeShaSpec).at F).post enc Tryd.prog Tryd.f12 false true false false) := by
  obtain ⟨places, hx⟩ := wholeSha_reads os enc
  refine returnsInHanded_of_row (C := Tryd.checked) (s := OpenSpec.ofChange Rows.wholeShaSpec) own started (by kernel_rfl) Tryd.func12
    (witness_row_at (enc := enc) (C := Tryd.checked) false (laidWorld os) #[.slice none 0 0, .slice none 0 0] rfl (by kernel_rfl) (by kernel_rfl) (by kernel_rfl)
      (OpenSpec.preRow_of_cond 8 hx (by kernel_rfl) (fun k hk => by cases hk) (by kernel_rfl) (wholeSha_laid os))) ?_
  intro W base args ds gs before hval hW _ hcond hz hL _ _
  exact wholeSha_contract H enc W base args ds gs before hval hW hz hL

theorem wholeSha_said : Rows.WholeShaSaid :=
  OpenClaim.holds_of_cond 12 Tryd.f12 rfl rfl rfl rfl rfl rfl rfl ⟨rfl, rfl, rfl, rfl, rfl⟩ rfl rfl rfl rfl rfl (by kernel_rfl) Tryd.func12 (by kernel_rfl)
    (of_decide_eq_true (by kernel_rfl)) (by unfold Func.isWrapper; first | (rw [if_pos (by decide +kernel)]; kernel_rfl) | (rw [if_neg (by decide +kernel)]; exact ⟨rfl, rfl⟩))
    (fun os started H enc _ F => by rw [OpenClaim.pre_eq_preRow]; exact wholeSha_lifted os started H enc F)

theorem wholeSha_plain (f : FuncId) (fn : Func) (hf : Tryd.pinned.checked.prog.funcNamed "notary/notarytop.WholeSha" = some f) (hfn : Tryd.pinned.checked.prog.funcs[f]? = some fn) :
    false = Tryd.pinned.checked.prog.looks [] ∧ ∀ (j : Nat) t, fn.params[j]? = some t → Tryd.pinned.checked.prog.wantsStandIn t = false := by
  obtain rfl : f = 12 := Option.some.inj ((show Tryd.prog.funcNamed "notary/notarytop.WholeSha" = some 12 by kernel_rfl).symm.trans hf) |>.symm
  obtain rfl : fn = Tryd.f12 := (Option.some.inj (Tryd.func12.symm.trans hfn)).symm
  refine ⟨by kernel_rfl, fun j t ht => ?_⟩
  rw [Tryd.params12] at ht
  have ht := Array.mem_of_getElem? ht
  have hall : (#[22, 22] : Array TypeId).all (fun t => !(Tryd.prog.wantsStandIn t)) = true := by kernel_rfl
  have h1 := Array.all_eq_true_iff_forall_mem.1 hall t ht
  exact (show Tryd.prog.wantsStandIn t = false by simpa using h1)

/-- The card. -/
theorem wholeSha_card : Rows.WholeShaCardSaid :=
  Claim7.holds_tied_plain_at .later [] _ _ _ _ wholeSha_said (fun _ h => by cases h) (by kernel_rfl) (fun _ h => by cases h) wholeSha_row_tie rfl ⟨rfl, rfl⟩ (by kernel_rfl) rfl wholeSha_plain (by kernel_rfl)
end Go.Proofs.YtiagaoeaploijaaDoor
