import Derived.Test.YtpmnhmfahgchgaaDoorBase
import Derived.Test.YtpmnhmfahgchgaaDoorDig17
set_option linter.unusedVariables false
set_option linter.unusedSimpArgs false
namespace Go.Proofs.YtpmnhmfahgchgaaDoor
open Go.Sx Go.Ps Go.ChangeShapes Go.WideShapes Go.ChangeAt Go.RowKit
open Go.Ps in
theorem caps_sum : ∀ (ps : List (Sl UInt8 × Sl UInt8)) {W : World}, (∀ s ∈ ps, SlOk W s.1 ∧ SlOk W s.2) → ((ps.flatMap fun x => [x.1, x.2]).map fun s => s.xs.length).sum ≤ (ps.map fun x => x.1.c + x.2.c).sum
  | [], _, _ => Nat.le_refl _
  | x :: r, W, h => by
    have h1 := h x (by simp)
    have h2 := caps_sum r (W := W) (fun s hs => h s (by simp [hs]))
    have h5 := h1.1.2.1
    have h6 := h1.2.2.1
    rw [List.flatMap_cons, List.map_append, List.sum_append]
    simp only [List.map_cons, List.map_nil, List.sum_cons, List.sum_nil] at *; omega
theorem op_tiny {W : World} {o : Cop} (h : o.ok W) (hs : o.P.c + (o.pairs.c + (o.pairs.xs.map fun x => x.1.c + x.2.c).sum) + o.kids.c ≤ 1048576) : o.tiny := by
  have h1 := caps_sum o.pairs.xs h.pe
  have h2 := h.p.2.1
  have h3 := h.pl
  have h4 := h.kl
  refine ⟨by omega, by omega, ?_⟩
  rw [lsO, List.map_cons, List.sum_cons]; omega
theorem script_tiny {W : World} {s : Sl Cop} (ho : ∀ o ∈ s.xs, o.ok W) (hs : Sl.sz (fun o : Cop => o.P.c + (o.pairs.c + (o.pairs.xs.map fun x => x.1.c + x.2.c).sum) + o.kids.c) s ≤ 1048576) : ∀ o ∈ s.xs, o.tiny := fun o h =>
  op_tiny (ho o h) (by have := sz_mem (sz := fun o : Cop => o.P.c + (o.pairs.c + (o.pairs.xs.map fun x => x.1.c + x.2.c).sum) + o.kids.c) h; unfold Sl.sz at hs; omega)

set_option maxRecDepth 100000 in
theorem digestKeeps_contract (H : Type) (enc : TypeId × Value → H) (W : World) (base : Nat) (args : Array Value) (ds gs : List (DataW H)) (before : List MemPlace)
    (hval : ∀ (j : Nat) t v, Tryd.f10.params[j]? = some t → args[j]? = some v → Value.okWide Tryd.prog W .any base t v)
    (hW : DataW.Whole enc Tryd.prog Tryd.f10.params.toList Rows.digestKeepsSpec.vars false W args.toList ds gs before)
    (hz : (DataW.weightsEach Tryd.prog (Tryd.f10.params.toList ++ (OpenSpec.ofChange Rows.digestKeepsSpec).bare.plain.varTypes Tryd.prog) (ds ++ gs)).all (· ≤ reachBytes) = true)
    (hk : Rows.uptoSmall H (ds ++ gs) = true) (hL : laidMetH Tryd.prog Rows.digestKeepsUptoRow.laid W) :
    Calls Tryd.prog 10 args W fun e W' => ∃ v, e = .returned v ∧ Rows.digestKeepsSpec.post enc Tryd.prog Tryd.f10 false true false false W args v W' := by
  have hW' := hW
  obtain ⟨p, q, hA0, hV, rfl, hfz, hnd⟩ := hW
  have hA : DataW.TrodAll enc Tryd.prog W 0 (fun _ => true) true Tryd.f10.params.toList args.toList ds p := hA0
  have hK : KW W := kw hL
  obtain ⟨rfl, rfl⟩ := trodVars_none hV
  rw [List.append_nil] at hz hk
  rw [Tryd.params10] at hA hval
  obtain ⟨v0, vs0, d0, ds0, p0, q0, hargs, rfl, rfl, h0, r0⟩ := trodAll_cons hA
  obtain ⟨rfl, rfl, rfl⟩ := trodAll_nil r0
  obtain rfl : args = #[v0] := by cases args; simp_all
  have hbulk := bulk_bound hk
  obtain ⟨x0, rfl, ok0, sz0⟩ := Opener.cell (V := (fun s : Sl (Cop) => s.v)) o42 (single_slice (P := Tryd.prog) (w := W) (r := .any) (base := base) (t := 42) (v := v0) Tryd.underlying42 (hval 0 42 v0 rfl rfl)) h0 (weights_at hz (j := 0) (t := 42) (d := d0) rfl rfl)
  simp only [List.map_cons, List.map_nil, List.sum_cons, List.sum_nil] at hbulk
  have hsm := script_tiny (s := x0) ok0.each (by omega)
  have hmx := ok0.max
  have hle := ok0.le
  simp only [maxLen] at hmx
  refine (digestKeeps_any W hK x0.a x0.c x0.xs ok0.rd ok0.each hsm ok0.le (by omega)).mono fun e W' ⟨v, he, hv, hm⟩ => ?_
  subst he; subst hv
  exact ⟨_, rfl, post_true (tb := 4) laidOut (by kernel_rfl) rfl rfl Tryd.underlying4 hW' (fun _ => rfl) hm.below⟩

theorem digestKeeps_laid (os : Os) : laidMet Tryd.prog Rows.digestKeepsUptoRow.laid ((laidWorld os).forCall (fun _ _ => 0) ⟨#[], #[.slice none 0 0], []⟩).memory :=
  laidMet_of_run' 8 (by kernel_rfl) (by kernel_rfl)
theorem digestKeeps_reads (os : Os) {H : Type} (enc : TypeId × Value → H) : ∃ places, DataW.whole enc Tryd.prog ((laidWorld os).forCall (fun _ _ => 0) ⟨#[], #[.slice none 0 0], []⟩).memory Tryd.f10.params.toList Rows.digestKeepsSpec.vars false #[.slice none 0 0].toList 8 = some ([.nil], [], places) :=
  ⟨[], by kernel_rfl⟩

set_option maxRecDepth 100000 in
theorem digestKeeps_lifted (os : Os) (started : os.Started) (H : Type) (enc : TypeId × Value → H) (F : Stop.Interp) :
    ReturnsInHanded {} Tryd.checked os 10 .any ((Rows.OpenSpec.upto Rows.digestKeepsSpec).preRow enc Tryd.prog Tryd.f10 Rows.digestKeepsUptoRow.domain false Rows.digestKeepsUptoRow.laid) (((Rows.OpenSpec.upto Rows.digestKeepsSpec).at F).post enc Tryd.prog Tryd.f10 false true false false) := by
  obtain ⟨places, hx⟩ := digestKeeps_reads os enc
  refine returnsInHanded_of_row (C := Tryd.checked) (s := Rows.OpenSpec.upto Rows.digestKeepsSpec) own started (by kernel_rfl) Tryd.func10
    (witness_row_at (enc := enc) (C := Tryd.checked) false (laidWorld os) #[.slice none 0 0] rfl (by kernel_rfl) (by kernel_rfl) (by kernel_rfl)
      (OpenSpec.preRow_of_cond 8 hx (by kernel_rfl) (fun k hk => by cases hk; kernel_rfl) (by kernel_rfl) (digestKeeps_laid os))) ?_
  intro W base args ds gs before hval hW _ hcond hz hL _ _
  exact digestKeeps_contract H enc W base args ds gs before hval hW hz (hcond _ rfl) hL

theorem digestKeeps_said : Rows.DigestKeepsUptoSaid :=
  OpenClaim.holds_of_cond 10 Tryd.f10 rfl rfl rfl rfl rfl rfl rfl ⟨rfl, rfl, rfl, rfl, rfl⟩ rfl rfl rfl rfl rfl (by kernel_rfl) Tryd.func10 (by kernel_rfl)
    (of_decide_eq_true (by kernel_rfl)) (by unfold Func.isWrapper; first | (rw [if_pos (by decide +kernel)]; kernel_rfl) | (rw [if_neg (by decide +kernel)]; exact ⟨rfl, rfl⟩))
    (fun os started H enc _ F => by rw [OpenClaim.pre_eq_preRow]; exact digestKeeps_lifted os started H enc F)

theorem digestKeeps_plain (f : FuncId) (fn : Func) (hf : Tryd.pinned.checked.prog.funcNamed "notary/notarylaw03.DigestKeeps" = some f) (hfn : Tryd.pinned.checked.prog.funcs[f]? = some fn) :
    false = Tryd.pinned.checked.prog.looks [] ∧ ∀ (j : Nat) t, fn.params[j]? = some t → Tryd.pinned.checked.prog.wantsStandIn t = false := by
  obtain rfl : f = 10 := Option.some.inj ((show Tryd.prog.funcNamed "notary/notarylaw03.DigestKeeps" = some 10 by kernel_rfl).symm.trans hf) |>.symm
  obtain rfl : fn = Tryd.f10 := (Option.some.inj (Tryd.func10.symm.trans hfn)).symm
  refine ⟨by kernel_rfl, fun j t ht => ?_⟩
  rw [Tryd.params10] at ht
  have ht := Array.mem_of_getElem? ht
  have hall : (#[42] : Array TypeId).all (fun t => !(Tryd.prog.wantsStandIn t)) = true := by kernel_rfl
  have h1 := Array.all_eq_true_iff_forall_mem.1 hall t ht
  exact (show Tryd.prog.wantsStandIn t = false by simpa using h1)

/-- The card. -/
theorem digestKeepsUpto_card : Rows.DigestKeepsUptoCardSaid :=
  Claim7.holds_tied_plain_at .later [] _ _ _ _ digestKeeps_said (fun _ h => by cases h) (by kernel_rfl) (fun _ h => by cases h) digestKeepsUpto_row_tie rfl ⟨rfl, rfl⟩ (by kernel_rfl) rfl digestKeeps_plain (by kernel_rfl)
end Go.Proofs.YtpmnhmfahgchgaaDoor
