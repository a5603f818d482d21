/- ShaCopies up to the bound (tied card): for every three lists of bytes the law of layer 2 about copies of a State returns true. The arguments together have bulk at most 1048576 (the given bound of an Upto statement); nothing that was there is changed; the program's table reads as its text lays it. -/
import Derived.Test.YtiagaoeaploijaaDoorBase
import Derived.Test.YtiagaoeaploijaaDoorSha9
namespace Go.Proofs.YtiagaoeaploijaaDoor
open Go.Sx Go.Ps Go.ChangeShapes Go.WideShapes Go.ChangeAt Go.RowKit

theorem shaCopies_contract (H : Type) (enc : TypeId × Value → H) (W : World) (base : Nat) (args : Array Value) (ds gs : List (DataW H)) (before : List MemPlace)
    (hval : ∀ (j : Nat) t v, Tryd.f10.params[j]? = some t → args[j]? = some v → Value.okWide Tryd.prog W .any base t v)
    (hW : DataW.Whole enc Tryd.prog Tryd.f10.params.toList Rows.shaCopiesSpec.vars false W args.toList ds gs before)
    (hz : (DataW.weightsEach Tryd.prog (Tryd.f10.params.toList ++ (OpenSpec.ofChange Rows.shaCopiesSpec).bare.plain.varTypes Tryd.prog) (ds ++ gs)).all (· ≤ reachBytes) = true)
    (hk : Rows.uptoSmall H (ds ++ gs) = true) (hL : laidMetH Tryd.prog Rows.shaCopiesUptoRow.laid W) :
    Calls Tryd.prog 10 args W fun e W' => ∃ v, e = .returned v ∧ Rows.shaCopiesSpec.post enc Tryd.prog Tryd.f10 false true false false W args v W' := by
  have hW' := hW
  obtain ⟨p, q, hA0, hV, rfl, hfz, hnd⟩ := hW
  have hA : DataW.TrodAll enc Tryd.prog W 0 (fun _ => true) true Tryd.f10.params.toList args.toList ds p := hA0
  have hK : KW W := kw hL
  obtain ⟨rfl, rfl⟩ := trodVars_none hV
  rw [List.append_nil] at hz hk
  rw [Tryd.params10] at hA hval
  obtain ⟨v0, vs0, d0, ds0, p0, q0, hargs, rfl, rfl, h0, r0⟩ := trodAll_cons hA
  obtain ⟨v1, vs1, d1, ds1, p1, q1, rfl, rfl, rfl, h1, r1⟩ := trodAll_cons r0
  obtain ⟨v2, vs2, d2, ds2, p2, q2, rfl, rfl, rfl, h2, r2⟩ := trodAll_cons r1
  obtain ⟨rfl, rfl, rfl⟩ := trodAll_nil r2
  obtain rfl : args = #[v0, v1, v2] := by cases args; simp_all
  obtain ⟨a0, m0, c0, l0, rfl, hl0, hc0, hx0, hr0, hroom0⟩ := open_u8s Tryd.underlying22 Tryd.underlying5 (by kernel_rfl) (hval 0 22 v0 rfl rfl) h0
  have hb0 : c0 * 1 ≤ 140737488351232 := Nat.le_trans (hroom0.bytes hz (j := 0) (t := 22) (e := 5) rfl rfl Tryd.underlying22) (by decide)
  obtain ⟨a1, m1, c1, l1, rfl, hl1, hc1, hx1, hr1, hroom1⟩ := open_u8s Tryd.underlying22 Tryd.underlying5 (by kernel_rfl) (hval 1 22 v1 rfl rfl) h1
  have hb1 : c1 * 1 ≤ 140737488351232 := Nat.le_trans (hroom1.bytes hz (j := 1) (t := 22) (e := 5) rfl rfl Tryd.underlying22) (by decide)
  obtain ⟨a2, m2, c2, l2, rfl, hl2, hc2, hx2, hr2, hroom2⟩ := open_u8s Tryd.underlying22 Tryd.underlying5 (by kernel_rfl) (hval 2 22 v2 rfl rfl) h2
  have hb2 : c2 * 1 ≤ 140737488351232 := Nat.le_trans (hroom2.bytes hz (j := 2) (t := 22) (e := 5) rfl rfl Tryd.underlying22) (by decide)
  have hbulk := bulk_bound hk
  have hbk0 := room_bulk hroom0 (l := [d0, d1, d2]) (by simp)
  have hbk1 := room_bulk hroom1 (l := [d0, d1, d2]) (by simp)
  have hbk2 := room_bulk hroom2 (l := [d0, d1, d2]) (by simp)
  refine (shaCopies_any a0 m0 c0 l0 hl0 hc0 (by omega) a1 m1 c1 l1 hl1 hc1 (by omega) a2 m2 c2 l2 hl2 hc2 (by omega) W hK hr0 hr1 hr2).mono fun e W' ⟨v, he, hv, hm⟩ => ?_
  subst he; subst hv
  exact ⟨_, rfl, post_true (tb := 4) laidOut (by kernel_rfl) rfl rfl Tryd.underlying4 hW' (fun _ => rfl) hm.below⟩

theorem shaCopies_laid (os : Os) : laidMet Tryd.prog Rows.shaCopiesUptoRow.laid ((laidWorld os).forCall (fun _ _ => 0) ⟨#[], #[.slice none 0 0, .slice none 0 0, .slice none 0 0], []⟩).memory :=
  laidMet_of_run' 8 (by kernel_rfl) (by kernel_rfl)
theorem shaCopies_reads (os : Os) {H : Type} (enc : TypeId × Value → H) : ∃ places, DataW.whole enc Tryd.prog ((laidWorld os).forCall (fun _ _ => 0) ⟨#[], #[.slice none 0 0, .slice none 0 0, .slice none 0 0], []⟩).memory Tryd.f10.params.toList Rows.shaCopiesSpec.vars false #[.slice none 0 0, .slice none 0 0, .slice none 0 0].toList 8 = some ([.nil, .nil, .nil], [], places) :=
  ⟨[], by kernel_rfl⟩

set_option maxRecDepth 100000 in
theorem shaCopies_lifted (os : Os) (started : os.Started) (H : Type) (enc : TypeId × Value → H) (F : Stop.Interp) :
    ReturnsInHanded {} Tryd.checked os 10 .any ((Rows.OpenSpec.upto Rows.shaCopiesSpec).preRow enc Tryd.prog Tryd.f10 Rows.shaCopiesUptoRow.domain false Rows.shaCopiesUptoRow.laid) (((Rows.OpenSpec.upto Rows.shaCopiesSpec).at F).post enc Tryd.prog Tryd.f10 false true false false) := by
  obtain ⟨places, hx⟩ := shaCopies_reads os enc
  refine returnsInHanded_of_row (C := Tryd.checked) (s := Rows.OpenSpec.upto Rows.shaCopiesSpec) own started (by kernel_rfl) Tryd.func10
    (witness_row_at (enc := enc) (C := Tryd.checked) false (laidWorld os) #[.slice none 0 0, .slice none 0 0, .slice none 0 0] rfl (by kernel_rfl) (by kernel_rfl) (by kernel_rfl)
      (OpenSpec.preRow_of_cond 8 hx (by kernel_rfl) (fun k hk => by cases hk; kernel_rfl) (by kernel_rfl) (shaCopies_laid os))) ?_
  intro W base args ds gs before hval hW _ hcond hz hL _ _
  exact shaCopies_contract H enc W base args ds gs before hval hW hz (hcond _ rfl) hL

theorem shaCopies_said : Rows.ShaCopiesUptoSaid :=
  OpenClaim.holds_of_cond 10 Tryd.f10 rfl rfl rfl rfl rfl rfl rfl ⟨rfl, rfl, rfl, rfl, rfl⟩ rfl rfl rfl rfl rfl (by kernel_rfl) Tryd.func10 (by kernel_rfl)
    (of_decide_eq_true (by kernel_rfl)) (by unfold Func.isWrapper; first | (rw [if_pos (by decide +kernel)]; kernel_rfl) | (rw [if_neg (by decide +kernel)]; exact ⟨rfl, rfl⟩))
    (fun os started H enc _ F => by rw [OpenClaim.pre_eq_preRow]; exact shaCopies_lifted os started H enc F)

theorem shaCopies_plain (f : FuncId) (fn : Func) (hf : Tryd.pinned.checked.prog.funcNamed "notary/notarylaw02.ShaCopies" = some f) (hfn : Tryd.pinned.checked.prog.funcs[f]? = some fn) :
    false = Tryd.pinned.checked.prog.looks [] ∧ ∀ (j : Nat) t, fn.params[j]? = some t → Tryd.pinned.checked.prog.wantsStandIn t = false := by
  obtain rfl : f = 10 := Option.some.inj ((show Tryd.prog.funcNamed "notary/notarylaw02.ShaCopies" = some 10 by kernel_rfl).symm.trans hf) |>.symm
  obtain rfl : fn = Tryd.f10 := (Option.some.inj (Tryd.func10.symm.trans hfn)).symm
  refine ⟨by kernel_rfl, fun j t ht => ?_⟩
  rw [Tryd.params10] at ht
  have ht := Array.mem_of_getElem? ht
  have hall : (#[22, 22, 22] : Array TypeId).all (fun t => !(Tryd.prog.wantsStandIn t)) = true := by kernel_rfl
  have h1 := Array.all_eq_true_iff_forall_mem.1 hall t ht
  exact (show Tryd.prog.wantsStandIn t = false by simpa using h1)

/-- The card. -/
theorem shaCopiesUpto_card : Rows.ShaCopiesUptoCardSaid :=
  Claim7.holds_tied_plain_at .later [] _ _ _ _ shaCopies_said (fun _ h => by cases h) (by kernel_rfl) (fun _ h => by cases h) shaCopiesUpto_row_tie rfl ⟨rfl, rfl⟩ (by kernel_rfl) rfl shaCopies_plain (by kernel_rfl)
end Go.Proofs.YtiagaoeaploijaaDoor
