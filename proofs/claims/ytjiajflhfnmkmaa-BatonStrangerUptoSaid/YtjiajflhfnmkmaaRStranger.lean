/- BatonStranger up to the bound: an actor whom no pick means changes nothing. The arguments together have bulk at most 1048576 (the given bound of an Upto statement); nothing that was there is changed. -/
import Derived.Test.YtjiajflhfnmkmaaPs
import Derived.Test.YtjiajflhfnmkmaaOStranger
set_option linter.unusedVariables false
set_option linter.unusedSimpArgs false
set_option linter.unusedSectionVars false
section
namespace Go.Proofs.Ytjiajflhfnmkmaa
open Go.Sx Go.Bt Go.Conc Go.ChangeShapes Go.WideShapes Go.ChangeAt Go.RowKit
theorem prg_small2 {W : World} {x : Sl (Sl (Int × Int × Unit))} {n : Nat} (hok : Sl.ok (fun s : Sl (Int × Int × Unit) => [s.v]) 24 (Sl.ok insC 16 (fun w (x : Int × Int × Unit) => (okInt w x.1 ∧ (okInt w x.2.1 ∧ noOk w x.2.2)))) W x)
    (hs : Sl.sz (Sl.sz (fun x : Int × Int × Unit => noSz x.1 + (noSz x.2.1 + noSz x.2.2))) x < n) (hn : n ≤ 1048576) : ((x.xs.map insOf).map List.length).sum ≤ 1048576 ∧ (x.xs.map insOf).length ≤ 1048576 ∧ ∀ s ∈ x.xs, s.xs.length ≤ 1048576 := by
  have hl := hok.le
  have key : ∀ l : List (Sl (Int × Int × Unit)), (∀ s ∈ l, s.xs.length ≤ s.c) → ((l.map insOf).map List.length).sum ≤ (l.map (Sl.sz (fun x : Int × Int × Unit => noSz x.1 + (noSz x.2.1 + noSz x.2.2)))).sum ∧ ∀ s ∈ l, s.xs.length ≤ (l.map (Sl.sz (fun x : Int × Int × Unit => noSz x.1 + (noSz x.2.1 + noSz x.2.2)))).sum := by
    intro l
    induction l with
    | nil => intro _; exact ⟨Nat.le_refl _, fun s h => by cases h⟩
    | cons s r ih =>
      intro h
      obtain ⟨i1, i2⟩ := ih fun y hy => h y (List.mem_cons_of_mem _ hy)
      have h1 := h s (List.mem_cons_self ..)
      have h2 : (insOf s).length = s.xs.length := by unfold insOf; rw [List.length_map]
      have h3 : s.c ≤ Sl.sz (fun x : Int × Int × Unit => noSz x.1 + (noSz x.2.1 + noSz x.2.2)) s := by unfold Sl.sz; omega
      simp only [List.map_cons, List.sum_cons, h2]
      refine ⟨by omega, fun y hy => ?_⟩
      rcases List.mem_cons.1 hy with rfl | hy
      · omega
      · have := i2 y hy; omega
  obtain ⟨k1, k2⟩ := key x.xs fun s hs => (hok.each s hs).le
  have h4 : Sl.sz (Sl.sz (fun x : Int × Int × Unit => noSz x.1 + (noSz x.2.1 + noSz x.2.2))) x = x.c + (x.xs.map (Sl.sz (fun x : Int × Int × Unit => noSz x.1 + (noSz x.2.1 + noSz x.2.2)))).sum := rfl
  refine ⟨by omega, by rw [List.length_map]; omega, fun s hs' => ?_⟩
  have := k2 s hs'
  omega
set_option maxRecDepth 100000 in
theorem stranger_p2 [Gnd] {v : World} {pv sv : Value} {ps : List (List Ins)} {st : List Ins} {qs : List Int} {Post : Value → World → Prop} {S : List Frame} (hy : ∀ (F : Go.Sx.Fr) (t : List Item), Go.Sx.Sub [(6, .bool true)] F → Pt (fun _ : Unit => coLaw Try.prog Post) 85 (Go.Sx.fr0 9) S () (.code .ret :: t) F (fun w => RV v w)) {qa pa sa : Option Addr} {cap pc sc : Nat} (hpv : pv = .slice pa ps.length pc) (hsv : sv = .slice sa st.length sc) (hG : PrgV v pv ps) (hS : VRd v sa (flatB st)) (hsum : (ps.map List.length).sum ≤ 1048576) (hlen : ps.length ≤ 1048576) (hsl : st.length ≤ 1048576) (hQ : QV v qa qs) (l1 : qs.length ≤ 1048576) :
    Pt (fun _ : Unit => coLaw Try.prog Post) 85 (Go.Sx.fr0 9) S () [.code c9] (Go.Sx.slots 0 [pv, sv, .slice qa qs.length cap]) (· = v) := by
  subst hpv; subst hsv
  exact stranger_p hy hG hS hsum hlen hsl hQ l1
set_option maxRecDepth 100000 in
theorem batonStranger_runs (H : Type) (enc : TypeId × Value → H) (W : World) (base : Nat) (args : Array Value) (ds gs : List (DataW H)) (before : List MemPlace)
    (hval : ∀ (j : Nat) t v, Try.f9.params[j]? = some t → args[j]? = some v → Value.okWide Try.prog W .any base t v)
    (hW : DataW.Whole enc Try.prog Try.f9.params.toList Rows.batonStrangerSpec.vars false W args.toList ds gs before)
    (hz : (DataW.weightsEach Try.prog (Try.f9.params.toList ++ (OpenSpec.ofChange Rows.batonStrangerSpec).bare.plain.varTypes Try.prog) (ds ++ gs)).all (· ≤ reachBytes) = true)
    (hk : Rows.uptoSmall H (ds ++ gs) = true) :
    EndsW Try.prog (fun v W' => Rows.batonStrangerSpec.post enc Try.prog Try.f9 false true false false W args v W') (solo (G (Frame.enter Try.prog 9 args .normal) []) W) #[] := by
  letI : Gnd := ⟨W⟩
  have hW' := hW
  obtain ⟨p, q, hA0, hV, rfl, hfz, hnd⟩ := hW
  have hA : DataW.TrodAll enc Try.prog W 0 (fun _ => true) true Try.f9.params.toList args.toList ds p := hA0
  obtain ⟨rfl, rfl⟩ := trodVars_none hV
  rw [List.append_nil] at hz hk
  rw [Try.params9] at hA hval hz
  obtain ⟨v0, vs0, d0, ds0, p0, q0, hargs, rfl, rfl, h0, r0⟩ := trodAll_cons hA
  obtain ⟨v1, vs1, d1, ds1, p1, q1, rfl, rfl, rfl, h1, r1⟩ := trodAll_cons r0
  obtain ⟨v2, vs2, d2, ds2, p2, q2, rfl, rfl, rfl, h2, r2⟩ := trodAll_cons r1
  obtain ⟨rfl, rfl, rfl⟩ := trodAll_nil r2
  obtain rfl : args = #[v0, v1, v2] := by cases args; simp_all
  have hbulk := bulk_bound hk
  obtain ⟨x0, rfl, ok0, sz0⟩ := Opener.cell (V := fun s : Sl (Sl (Int × Int × Unit)) => s.v) o22 (single_slice (P := Try.prog) (w := W) (r := .any) (base := base) (t := 22) (v := v0) Try.underlying22 (hval 0 22 v0 rfl rfl)) h0 (weights_at hz (j := 0) (t := 22) (d := d0) rfl rfl)
  obtain ⟨x1, rfl, ok1, sz1⟩ := Opener.cell (V := fun s : Sl (Int × Int × Unit) => s.v) o58 (single_slice (P := Try.prog) (w := W) (r := .any) (base := base) (t := 58) (v := v1) Try.underlying58 (hval 1 58 v1 rfl rfl)) h1 (weights_at hz (j := 1) (t := 58) (d := d1) rfl rfl)
  obtain ⟨x2, rfl, ok2, sz2⟩ := Opener.cell (V := fun s : Sl Int => s.v) o23 (single_slice (P := Try.prog) (w := W) (r := .any) (base := base) (t := 23) (v := v2) Try.underlying23 (hval 2 23 v2 rfl rfl)) h2 (weights_at hz (j := 2) (t := 23) (d := d2) rfl rfl)
  simp only [List.map_cons, List.map_nil, List.sum_cons, List.sum_nil] at hbulk
  obtain ⟨g1, g2, g3⟩ := prg_small ok0 sz0 (by omega)
  obtain ⟨g4, g5, -⟩ := prg_small2 ok0 sz0 (by omega)
  have k1 : x1.xs.length ≤ 1048576 := by
    have := ok1.le
    have : x1.c ≤ Sl.sz (fun x : Int × Int × Unit => noSz x.1 + (noSz x.2.1 + noSz x.2.2)) x1 := Nat.le_add_right _ _
    omega
  have k2 : x2.xs.length ≤ 1048576 := by
    have := ok2.le
    have : x2.c ≤ Sl.sz noSz x2 := Nat.le_add_right _ _
    omega
  refine law_run (vs := [x0.v, x1.v, x2.v]) Try.func9 rfl rfl ?_
  have hG := prg_of (hval 0 22 x0.v rfl rfl) ok0.rd (fun s hs => (ok0.each s hs).rd) g3
  exact stranger_p2 (S := []) (fun F t hF => Pt.weaken hF (fun _ h => h) (pt_last (fn := Try.f9) (v := .bool true) Try.func9 rfl (by kernel_rfl) (fun a hf => res_slot rfl rfl hf) fun w hK hr => post_true (tb := 4) laidOut (by kernel_rfl) rfl rfl Try.underlying4 hW' (fun _ => rfl) (below_of hK hr)))
    (ps := x0.xs.map insOf) (st := insOf x1) (qs := x2.xs) (cap := x2.c) (by rw [List.length_map]; rfl) (by unfold insOf; rw [List.length_map]; rfl) hG (inner_vrd ok1.rd) g4 g5 (by unfold insOf; rw [List.length_map]; exact k1) (qv_of ok2.rd) k2
set_option maxRecDepth 100000 in
theorem batonStranger_lifted (os : Os) (started : os.Started) (H : Type) (enc : TypeId × Value → H) (F : Stop.Interp) :
    ReturnsInLeavingWide {} Try.checked os 9 .any ((Rows.OpenSpec.upto Rows.batonStrangerSpec).pre6 enc Try.prog Try.f9 Rows.batonStrangerUptoRow.domain false) (((Rows.OpenSpec.upto Rows.batonStrangerSpec).at F).post enc Try.prog Try.f9 false true false false) := by
  refine returnsInLeaving_of_cond (C := Try.checked) (s := Rows.OpenSpec.upto Rows.batonStrangerSpec) rfl own started Try.func9
    (OpenSpec.witness (enc := enc) (C := Try.checked) (s := Rows.OpenSpec.upto Rows.batonStrangerSpec) (x := ([.nil, .nil, .nil], [], [])) rfl false ⟨#[], #[.slice none 0 0, .slice none 0 0, .slice none 0 0], []⟩ 8 (by kernel_rfl) (by kernel_rfl) (by kernel_rfl) (by kernel_rfl) (by kernel_rfl) (by kernel_rfl)) ?_
  intro W base args ds gs before hval hW hz hk
  exact batonStranger_runs H enc W base args ds gs before hval hW hz hk
theorem batonStranger_said : Rows.BatonStrangerUptoSaid :=
  holds_leaving 9 Try.f9 ⟨rfl, rfl, rfl⟩ rfl rfl ⟨rfl, rfl, rfl, rfl, rfl, rfl, rfl⟩ rfl rfl rfl rfl rfl (by kernel_rfl) Try.func9 (by kernel_rfl)
    (of_decide_eq_true (by kernel_rfl)) (by unfold Func.isWrapper; first | (rw [if_pos (by decide +kernel)]; kernel_rfl) | (rw [if_neg (by decide +kernel)]; exact ⟨rfl, rfl⟩))
    (fun os started H enc _ F => by rw [OpenClaim.pre_of_none' rfl]; exact batonStranger_lifted os started H enc F)
#print axioms batonStranger_said
end Go.Proofs.Ytjiajflhfnmkmaa
end
