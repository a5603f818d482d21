/- DigestPieces up to the bound (tied card): where the parts of a text are cut counts nothing, and a digest is the beginning of layer 2's hash. The arguments together have bulk at most 1048576 (the given bound of an Upto statement); nothing that was there is changed; the program's table reads as its text lays it. -/
import Derived.Test.YtpmnhmfahgchgaaDoorBase
import Derived.Test.YtpmnhmfahgchgaaDoorDig8
set_option linter.unusedVariables false
set_option linter.unusedSimpArgs false
namespace Go.Proofs.YtpmnhmfahgchgaaDoor
open Go.Sx Go.Ps Go.ChangeShapes Go.WideShapes Go.ChangeAt Go.RowKit
theorem flat_one (l : List (Sl UInt8)) : (l.flatMap fun s => [s.v]) = l.map Sl.v := by
  induction l with
  | nil => rfl
  | cons x r ih => rw [List.flatMap_cons, ih]; rfl
theorem flat_small : ∀ (l : List (Sl UInt8)), (∀ s ∈ l, s.xs.length ≤ s.c) → (l.flatMap (·.xs)).length ≤ (l.map (Sl.sz (noSz (α := UInt8)))).sum
  | [], _ => by simp
  | x :: r, h => by
    have h1 := flat_small r (fun s hs => h s (by simp [hs]))
    have h2 := h x (by simp)
    rw [List.flatMap_cons, List.length_append, List.map_cons, List.sum_cons]
    simp only [Sl.sz] at h1 ⊢
    omega

set_option maxRecDepth 100000 in
theorem digestPieces_contract (H : Type) (enc : TypeId × Value → H) (W : World) (base : Nat) (args : Array Value) (ds gs : List (DataW H)) (before : List MemPlace)
    (hval : ∀ (j : Nat) t v, Tryd.f6.params[j]? = some t → args[j]? = some v → Value.okWide Tryd.prog W .any base t v)
    (hW : DataW.Whole enc Tryd.prog Tryd.f6.params.toList Rows.digestPiecesSpec.vars false W args.toList ds gs before)
    (hz : (DataW.weightsEach Tryd.prog (Tryd.f6.params.toList ++ (OpenSpec.ofChange Rows.digestPiecesSpec).bare.plain.varTypes Tryd.prog) (ds ++ gs)).all (· ≤ reachBytes) = true)
    (hk : Rows.uptoSmall H (ds ++ gs) = true) (hL : laidMetH Tryd.prog Rows.digestPiecesUptoRow.laid W) :
    Calls Tryd.prog 6 args W fun e W' => ∃ v, e = .returned v ∧ Rows.digestPiecesSpec.post enc Tryd.prog Tryd.f6 false true false false W args v W' := by
  have hW' := hW
  obtain ⟨p, q, hA0, hV, rfl, hfz, hnd⟩ := hW
  have hA : DataW.TrodAll enc Tryd.prog W 0 (fun _ => true) true Tryd.f6.params.toList args.toList ds p := hA0
  have hK : KW W := kw hL
  obtain ⟨rfl, rfl⟩ := trodVars_none hV
  rw [List.append_nil] at hz hk
  rw [Tryd.params6] at hA hval
  obtain ⟨v0, vs0, d0, ds0, p0, q0, hargs, rfl, rfl, h0, r0⟩ := trodAll_cons hA
  obtain ⟨v1, vs1, d1, ds1, p1, q1, rfl, rfl, rfl, h1, r1⟩ := trodAll_cons r0
  obtain ⟨v2, vs2, d2, ds2, p2, q2, rfl, rfl, rfl, h2, r2⟩ := trodAll_cons r1
  obtain ⟨rfl, rfl, rfl⟩ := trodAll_nil r2
  obtain rfl : args = #[v0, v1, v2] := by cases args; simp_all
  have hbulk := bulk_bound hk
  obtain ⟨x0, rfl, ok0, sz0⟩ := Opener.cell (V := (fun x => vInt x)) o3 (single_int (P := Tryd.prog) (w := W) (r := .any) (base := base) (t := 3) (v := v0) Tryd.underlying3 (hval 0 3 v0 rfl rfl)) h0 (weights_at hz (j := 0) (t := 3) (d := d0) rfl rfl)
  obtain ⟨x1, rfl, ok1, sz1⟩ := Opener.cell (V := (fun x => vInt x)) o3 (single_int (P := Tryd.prog) (w := W) (r := .any) (base := base) (t := 3) (v := v1) Tryd.underlying3 (hval 1 3 v1 rfl rfl)) h1 (weights_at hz (j := 1) (t := 3) (d := d1) rfl rfl)
  obtain ⟨x2, rfl, ok2, sz2⟩ := Opener.cell (V := (fun s : Sl (Sl (UInt8)) => s.v)) o32 (single_slice (P := Tryd.prog) (w := W) (r := .any) (base := base) (t := 32) (v := v2) Tryd.underlying32 (hval 2 32 v2 rfl rfl)) h2 (weights_at hz (j := 2) (t := 32) (d := d2) rfl rfl)
  simp only [List.map_cons, List.map_nil, List.sum_cons, List.sum_nil] at hbulk
  have hsz : Sl.sz (Sl.sz (noSz (α := UInt8))) x2 ≤ 1048576 := by omega
  have hfs := flat_small x2.xs (fun s hs => (ok2.each s hs).le)
  have hle := ok2.le
  rw [Sl.sz] at hsz
  refine (digestPieces_any x0 x1 W hK x2.a x2.c x2.xs (flat_one x2.xs ▸ ok2.rd) (fun s hs => Sl.bytes (ok2.each s hs)) hle (by omega) (by omega) (by omega)).mono fun e W' ⟨v, he, hv, hm⟩ => ?_
  subst he; subst hv
  exact ⟨_, rfl, post_true (tb := 4) laidOut (by kernel_rfl) rfl rfl Tryd.underlying4 hW' (fun _ => rfl) hm.below⟩

theorem digestPieces_laid (os : Os) : laidMet Tryd.prog Rows.digestPiecesUptoRow.laid ((laidWorld os).forCall (fun _ _ => 0) ⟨#[], #[.int .i64 0, .int .i64 0, .slice none 0 0], []⟩).memory :=
  laidMet_of_run' 8 (by kernel_rfl) (by kernel_rfl)
theorem digestPieces_reads (os : Os) {H : Type} (enc : TypeId × Value → H) : ∃ places, DataW.whole enc Tryd.prog ((laidWorld os).forCall (fun _ _ => 0) ⟨#[], #[.int .i64 0, .int .i64 0, .slice none 0 0], []⟩).memory Tryd.f6.params.toList Rows.digestPiecesSpec.vars false #[.int .i64 0, .int .i64 0, .slice none 0 0].toList 8 = some ([.lit (.int .i64 0), .lit (.int .i64 0), .nil], [], places) :=
  ⟨[], by kernel_rfl⟩

set_option maxRecDepth 100000 in
theorem digestPieces_lifted (os : Os) (started : os.Started) (H : Type) (enc : TypeId × Value → H) (F : Stop.Interp) :
    ReturnsInHanded {} Tryd.checked os 6 .any ((Rows.OpenSpec.upto Rows.digestPiecesSpec).preRow enc Tryd.prog Tryd.f6 Rows.digestPiecesUptoRow.domain false Rows.digestPiecesUptoRow.laid) (((Rows.OpenSpec.upto Rows.digestPiecesSpec).at F).post enc Tryd.prog Tryd.f6 false true false false) := by
  obtain ⟨places, hx⟩ := digestPieces_reads os enc
  refine returnsInHanded_of_row (C := Tryd.checked) (s := Rows.OpenSpec.upto Rows.digestPiecesSpec) own started (by kernel_rfl) Tryd.func6
    (witness_row_at (enc := enc) (C := Tryd.checked) false (laidWorld os) #[.int .i64 0, .int .i64 0, .slice none 0 0] rfl (by kernel_rfl) (by kernel_rfl) (by kernel_rfl)
      (OpenSpec.preRow_of_cond 8 hx (by kernel_rfl) (fun k hk => by cases hk; kernel_rfl) (by kernel_rfl) (digestPieces_laid os))) ?_
  intro W base args ds gs before hval hW _ hcond hz hL _ _
  exact digestPieces_contract H enc W base args ds gs before hval hW hz (hcond _ rfl) hL

theorem digestPieces_said : Rows.DigestPiecesUptoSaid :=
  OpenClaim.holds_of_cond 6 Tryd.f6 rfl rfl rfl rfl rfl rfl rfl ⟨rfl, rfl, rfl, rfl, rfl⟩ rfl rfl rfl rfl rfl (by kernel_rfl) Tryd.func6 (by kernel_rfl)
    (of_decide_eq_true (by kernel_rfl)) (by unfold Func.isWrapper; first | (rw [if_pos (by decide +kernel)]; kernel_rfl) | (rw [if_neg (by decide +kernel)]; exact ⟨rfl, rfl⟩))
    (fun os started H enc _ F => by rw [OpenClaim.pre_eq_preRow]; exact digestPieces_lifted os started H enc F)

theorem digestPieces_plain (f : FuncId) (fn : Func) (hf : Tryd.pinned.checked.prog.funcNamed "notary/notarylaw03.DigestPieces" = some f) (hfn : Tryd.pinned.checked.prog.funcs[f]? = some fn) :
    false = Tryd.pinned.checked.prog.looks [] ∧ ∀ (j : Nat) t, fn.params[j]? = some t → Tryd.pinned.checked.prog.wantsStandIn t = false := by
  obtain rfl : f = 6 := Option.some.inj ((show Tryd.prog.funcNamed "notary/notarylaw03.DigestPieces" = some 6 by kernel_rfl).symm.trans hf) |>.symm
  obtain rfl : fn = Tryd.f6 := (Option.some.inj (Tryd.func6.symm.trans hfn)).symm
  refine ⟨by kernel_rfl, fun j t ht => ?_⟩
  rw [Tryd.params6] at ht
  have ht := Array.mem_of_getElem? ht
  have hall : (#[3, 3, 32] : Array TypeId).all (fun t => !(Tryd.prog.wantsStandIn t)) = true := by kernel_rfl
  have h1 := Array.all_eq_true_iff_forall_mem.1 hall t ht
  exact (show Tryd.prog.wantsStandIn t = false by simpa using h1)

/-- The card. -/
theorem digestPiecesUpto_card : Rows.DigestPiecesUptoCardSaid :=
  Claim7.holds_tied_plain_at .later [] _ _ _ _ digestPieces_said (fun _ h => by cases h) (by kernel_rfl) (fun _ h => by cases h) digestPiecesUpto_row_tie rfl ⟨rfl, rfl⟩ (by kernel_rfl) rfl digestPieces_plain (by kernel_rfl)
end Go.Proofs.YtpmnhmfahgchgaaDoor
