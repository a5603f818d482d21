/- A PLAY OF THE BATON: what the row rests on. -/
import Derived.Test.YtjiajflhfnmkmaaPs
set_option linter.unusedVariables false
set_option linter.unusedSimpArgs false
set_option linter.unusedSectionVars false
section
namespace Go.Bt
variable [Gnd]
open Go.Conc Go.ConcN Go.RowKit Go.Proofs
open Go.Sx (Rly RV pz pzo pz_heap pz_size spec Gud Co Lf Pt Fits vInt)
section
variable {a : Act} {d : Option Tmp} {ty : TypeId} {ps : String} {af : Array Edge} {g : Option (Nat × Bool)}
set_option maxRecDepth 100000 in
theorem alloc48_runT (w : World) : (execOp a.eval ⟨d, .alloc 48, ty, ps, af, g⟩).runT Try.prog w #[] = (.ok (.value (vPtr w.heap.size)) { w with heap := w.heap.push (.cells #[.chan none, .chan none, vInt 0] 48) }, #[]) := by
  obtain ⟨ti, hi, hz⟩ : ∃ ti, Try.prog.info? 48 = some ti ∧ ti.zero = some (.agg #[.chan none, .chan none, vInt 0]) := ⟨_, rfl, rfl⟩
  have e : execOp a.eval ⟨d, .alloc 48, ty, ps, af, g⟩ = (do let v ← Instr.alloc 48 true (.tuple #[]); pure (.value v)) := rfl
  rw [e]
  simp [Instr.alloc, zeroValue, typeInfo, hi, hz, newVar, newRow, newObj, go_sem]
  exact ⟨rfl, rfl⟩
end
section
variable {X : Type} {R : X → Co Try.prog} {n i : Nat} {b : Frame} {cs : List Frame} {x : X} {k : List Item} {F : Go.Sx.Fr} {ops : Array Oper} {rest : List Nat}
theorem pt_alloc48 {z : World} {t : Nat} {ty : TypeId} {ps : String} {af : Array Edge} (hb : b.kind ≠ .early) (ho : ops[i]? = some ⟨some t, .alloc 48, ty, ps, af, none⟩) (ht : Nat.blt t n = true)
    (h : ∀ z' tb, RV z z' → z'.cell? ⟨tb, 0, none⟩ = some (.chan none) → z'.cell? ⟨tb, 2, none⟩ = some (vInt 0) → Pt R n b cs x (.inRegion ops rest :: k) ((t, vPtr tb) :: F) (fun u => RV z' u)) :
    Pt R n b cs x (.inRegion ops (i :: rest) :: k) F (fun u => RV z u) := by
  refine Go.Sx.pt_op hb ho rfl fun a w hf hm K hK => ?_
  intro w₁ h₁
  have hm1 : RV z (pz w₁) := (hm.rely h₁).here
  rw [alloc48_runT w₁]
  have hg : Gud w₁ { w₁ with heap := w₁.heap.push (.cells #[.chan none, .chan none, vInt 0] 48) } #[] := ⟨rfl, rfl, rfl, by simp, fun b o hbo _ => by
    have hlt := (Array.getElem?_eq_some_iff.1 hbo).1
    show (w₁.heap.push _)[b]? = some o
    rw [Array.getElem?_push_lt hlt, ← hbo, Array.getElem?_eq_getElem hlt], fun e he => by simp at he⟩
  have hrv : RV (pz w₁) (pz { w₁ with heap := w₁.heap.push (.cells #[.chan none, .chan none, vInt 0] 48) }) := ⟨rfl, rfl, rfl, fun b o hbo => by
    rw [pz_heap] at hbo ⊢
    obtain ⟨o', ho', rfl⟩ := Option.map_eq_some_iff.1 hbo
    have hlt := (Array.getElem?_eq_some_iff.1 ho').1
    show Option.map pzo ((w₁.heap.push _)[b]?) = _
    rw [Array.getElem?_push_lt hlt, ← Array.getElem?_eq_getElem hlt, ho']; rfl⟩
  have hnew : (pz { w₁ with heap := w₁.heap.push (.cells #[.chan none, .chan none, vInt 0] 48) }).heap[w₁.heap.size]? = some (.cells #[.chan none, .chan none, vInt 0] 48 (0, 3)) := by
    rw [pz_heap]
    show Option.map pzo ((w₁.heap.push _)[w₁.heap.size]?) = _
    rw [Array.getElem?_push_size]; rfl
  letI C : Co Try.prog := R x
  exact ⟨Go.Sx.DD.good hg, hK _ _ (h _ w₁.heap.size (hm1.trans hrv) (by unfold World.cell?; rw [hnew]; rfl) (by unfold World.cell?; rw [hnew]; rfl)) _ _ (hf.put ht _) ⟨_, RV.refl _, RV.refl _⟩⟩
end
end Go.Bt
end
section
namespace Go.Bt
variable [Gnd]
open Go.Conc Go.ConcN Go.RowKit Go.Proofs
open Go.Sx (Rly RV pz pzo pz_heap spec isWg Gud Co blk RowE Rd Mem CallV vInt CallI SW Sub Stb Pt callV_of_callI callI_of_pt pt_seq pt_sw pt_true pt_false pt_cond pt_if pt_skip pt_region pt_regionEnd pt_val pt_call pt_act pt_do pt_ret pt_back pt_block pt_inBlock pt_exit pt_loop_inv val_assign val_move val_load val_load_at val_build' val_len val_not val_nilCheck val_fieldAddr val_indexAddr_slice val_eql_nilptr val_eql_chan tame_nilptr tame_chan tame_func val_eql_int val_lss_int val_leq_int val_geq_int val_neq_int val_add_int val_pick_true val_pick_false tame_nilCheck tame_int acts_box acts_alloc acts_buildSlice callsTo ev_eval res_nothing res_slot Fits sw_region ow_val ow_nil ow_make ow_call_pure ow_guard_yes ow_guard_no mem_of_rv pick pick_v)
noncomputable def c5 : Code := Try.f5.body.getD .skip
noncomputable def r5a : Code := match c5 with
  | .seq _ (.seq _ (.seq _ (.seq _ (.seq _ (.seq _ (.seq (.seq c _) _)))))) => c
  | _ => .skip
noncomputable def r5b : Code := match c5 with
  | .seq _ (.seq _ (.seq _ (.seq _ (.seq _ (.seq _ (.seq _ (.seq _ (.seq c _)))))))) => c
  | _ => .skip
/-- A Turn that no Play made. -/
def OddT (v : World) (tv : Value) : Prop := tv = .pointer none ∨ ∃ T, tv = vPtr T ∧ v.cell? ⟨T, 0, none⟩ = some (.chan none) ∧ v.cell? ⟨T, 2, none⟩ = some (vInt 0)
theorem OddT.grow {v w : World} {tv : Value} (h : OddT v tv) (hr : RV v w) : OddT w tv := by
  rcases h with h | ⟨T, h1, h2, h3⟩
  · exact .inl h
  · exact .inr ⟨T, h1, cell_rv' h2 hr, cell_rv' h3 hr⟩
section
variable {v : World} {tv : Value}
set_option maxRecDepth 100000 in
set_option maxHeartbeats 4000000 in
theorem sw_step_odd [C : Co Try.prog] (h : OddT v tv) : SW Try.prog 18 gd19 [(0, tv)] (fun u => RV v u) (fun ex F' u => ex = .normal ∧ Sub [(10, .bool true)] F' ∧ RV v u) := by
  show SW Try.prog 18 (Code.region 0 _ false) _ _ _
  refine sw_region ?_
  rcases h with rfl | ⟨T, rfl, h0, h2⟩
  · refine ow_val (val_move (v := .pointer none) rfl) rfl ?_
    refine ow_val (val_eql_nilptr Try.underlying44 rfl rfl) rfl ?_ (tame_nilptr rfl rfl (.inl rfl))
    refine ow_val (val_move (v := .bool true) rfl) rfl ?_
    refine ow_guard_no (t := 4) rfl rfl rfl rfl rfl ?_
    refine ow_guard_no (t := 4) rfl rfl rfl rfl rfl ?_
    refine ow_guard_no (t := 4) rfl rfl rfl rfl rfl ?_
    refine ow_guard_no (t := 4) rfl rfl rfl rfl rfl ?_
    refine ow_guard_no (t := 4) rfl rfl rfl rfl rfl ?_
    refine ow_val (val_pick_true (v := .bool true) rfl rfl) rfl ?_
    exact ow_nil fun w hw => ⟨rfl, ⟨rfl, trivial⟩, hw⟩
  · refine ow_val (val_move (v := vPtr T) rfl) rfl ?_
    refine ow_val (val_eql_nilptr Try.underlying44 rfl rfl) rfl ?_ (tame_nilptr rfl rfl (.inl rfl))
    refine ow_val (val_move (v := .bool false) rfl) rfl ?_
    refine ow_guard_yes rfl (t := 4) rfl rfl ?_
    refine ow_val (val_move (v := vPtr T) rfl) rfl ?_
    refine ow_guard_yes rfl (t := 4) rfl rfl ?_
    refine ow_val (val_nilCheck (a := ⟨T, 0, none⟩) rfl) rfl ?_ (tame_nilCheck rfl)
    refine ow_guard_yes rfl (t := 4) rfl rfl ?_
    refine ow_val (val_fieldAddr (b := T) (o := 0) (e := 0) rfl Try.underlying48 rfl rfl Try.sizeOf45 rfl) rfl ?_
    refine ow_guard_yes rfl (t := 4) rfl rfl ?_
    refine ow_val (val_load rfl Try.isAgg45 (v := .chan none) (fun w h => cell_rv' h0 h)) rfl ?_
    refine ow_guard_yes rfl (t := 4) rfl rfl ?_
    refine ow_val (val_eql_chan (p := none) (q := none) Try.underlying45 rfl rfl) rfl ?_ (tame_chan (p := none) (q := none) rfl rfl (.inl rfl))
    refine ow_val (val_pick_false (v := .bool true) rfl rfl) rfl ?_
    exact ow_nil fun w hw => ⟨rfl, ⟨rfl, trivial⟩, hw⟩
set_option maxRecDepth 100000 in
set_option maxHeartbeats 4000000 in
theorem sw_until_odd [C : Co Try.prog] (h : OddT v tv) : SW Try.prog 29 gd20 [(0, tv), (1, .nilFunc)] (fun u => RV v u) (fun ex F' u => ex = .normal ∧ Sub [(17, .bool true)] F' ∧ RV v u) := by
  show SW Try.prog 29 (Code.region 0 _ false) _ _ _
  refine sw_region ?_
  rcases h with rfl | ⟨T, rfl, h0, h2⟩
  · refine ow_val (val_move (v := .pointer none) rfl) rfl ?_
    refine ow_val (val_eql_nilptr Try.underlying44 rfl rfl) rfl ?_ (tame_nilptr rfl rfl (.inl rfl))
    refine ow_val (val_move (v := .bool true) rfl) rfl ?_
    refine ow_guard_no (t := 7) rfl rfl rfl rfl rfl ?_
    refine ow_guard_no (t := 7) rfl rfl rfl rfl rfl ?_
    refine ow_guard_no (t := 7) rfl rfl rfl rfl rfl ?_
    refine ow_guard_no (t := 7) rfl rfl rfl rfl rfl ?_
    refine ow_guard_no (t := 7) rfl rfl rfl rfl rfl ?_
    refine ow_val (val_pick_true (v := .bool true) rfl rfl) rfl ?_
    refine ow_val (val_move (v := .bool true) rfl) rfl ?_
    refine ow_guard_no (t := 14) rfl rfl rfl rfl rfl ?_
    refine ow_guard_no (t := 14) rfl rfl rfl rfl rfl ?_
    refine ow_val (val_pick_true (v := .bool true) rfl rfl) rfl ?_
    exact ow_nil fun w hw => ⟨rfl, ⟨rfl, trivial⟩, hw⟩
  · refine ow_val (val_move (v := vPtr T) rfl) rfl ?_
    refine ow_val (val_eql_nilptr Try.underlying44 rfl rfl) rfl ?_ (tame_nilptr rfl rfl (.inl rfl))
    refine ow_val (val_move (v := .bool false) rfl) rfl ?_
    refine ow_guard_yes rfl (t := 7) rfl rfl ?_
    refine ow_val (val_move (v := vPtr T) rfl) rfl ?_
    refine ow_guard_yes rfl (t := 7) rfl rfl ?_
    refine ow_val (val_nilCheck (a := ⟨T, 0, none⟩) rfl) rfl ?_ (tame_nilCheck rfl)
    refine ow_guard_yes rfl (t := 7) rfl rfl ?_
    refine ow_val (val_fieldAddr (b := T) (o := 0) (e := 0) rfl Try.underlying48 rfl rfl Try.sizeOf45 rfl) rfl ?_
    refine ow_guard_yes rfl (t := 7) rfl rfl ?_
    refine ow_val (val_load rfl Try.isAgg45 (v := .chan none) (fun w h => cell_rv' h0 h)) rfl ?_
    refine ow_guard_yes rfl (t := 7) rfl rfl ?_
    refine ow_val (val_eql_chan (p := none) (q := none) Try.underlying45 rfl rfl) rfl ?_ (tame_chan (p := none) (q := none) rfl rfl (.inl rfl))
    refine ow_val (val_pick_false (v := .bool true) rfl rfl) rfl ?_
    refine ow_val (val_move (v := .bool true) rfl) rfl ?_
    refine ow_guard_no (t := 14) rfl rfl rfl rfl rfl ?_
    refine ow_guard_no (t := 14) rfl rfl rfl rfl rfl ?_
    refine ow_val (val_pick_true (v := .bool true) rfl rfl) rfl ?_
    exact ow_nil fun w hw => ⟨rfl, ⟨rfl, trivial⟩, hw⟩
set_option maxRecDepth 100000 in
theorem step_odd_v [C : Co Try.prog] (h : OddT v tv) : CallV Try.prog 19 #[tv] v (fun r u => r = .returned (.tuple #[]) ∧ RV v u) := by
  refine callV_of_callI (callI_of_pt (vs := [tv]) Try.func19 rfl rfl fun cf cs g1 g2 => ?_)
  refine Pt.imp (M' := fun u => RV v u) (fun u hu => hu ▸ RV.refl _) (pt_seq (pt_seq ?_))
  refine pt_sw (by decide) (sw_step_odd h) (fun F' y hq => ?_) (fun ex F' y hne hq => hne hq.1)
  obtain ⟨-, hF, hy⟩ := hq
  exact Pt.weaken hF (M' := fun w => RV v w) (fun w hw => hw ▸ hy) (pt_true rfl (pt_ret (fn := Try.f19) (v := .tuple #[]) Try.func19 rfl (fun a _ => res_nothing rfl a) fun w hw => g1 _ () w (hw.mono fun q hq => ⟨rfl, hq⟩)))
set_option maxRecDepth 100000 in
theorem until_odd_v [C : Co Try.prog] (h : OddT v tv) : CallV Try.prog 20 #[tv, .nilFunc] v (fun r u => r = .returned (.tuple #[]) ∧ RV v u) := by
  refine callV_of_callI (callI_of_pt (vs := [tv, .nilFunc]) Try.func20 rfl rfl fun cf cs g1 g2 => ?_)
  refine Pt.imp (M' := fun u => RV v u) (fun u hu => hu ▸ RV.refl _) (pt_seq (pt_seq ?_))
  refine pt_sw (by decide) (sw_until_odd h) (fun F' y hq => ?_) (fun ex F' y hne hq => hne hq.1)
  obtain ⟨-, hF, hy⟩ := hq
  exact Pt.weaken hF (M' := fun w => RV v w) (fun w hw => hw ▸ hy) (pt_true rfl (pt_ret (fn := Try.f20) (v := .tuple #[]) Try.func20 rfl (fun a _ => res_nothing rfl a) fun w hw => g1 _ () w (hw.mono fun q hq => ⟨rfl, hq⟩)))
set_option maxRecDepth 100000 in
theorem pick_odd_v [C : Co Try.prog] (h : OddT v tv) : CallV Try.prog 21 #[tv] v (fun r u => r = .returned (vInt 0) ∧ RV v u) := by
  rcases h with rfl | ⟨T, rfl, h0, h2⟩
  · refine callV_of_callI (callI_of_pt (vs := [.pointer none]) Try.func21 rfl rfl fun cf cs g1 g2 => ?_)
    refine Pt.imp (M' := fun u => RV v u) (fun u hu => hu ▸ RV.refl _) ?_
    refine pt_seq (pt_region ?_)
    refine pt_val (by decide) rfl (val_assign (v := vInt 0) rfl) rfl ?_
    refine pt_regionEnd (pt_seq (pt_seq (pt_region ?_)))
    refine pt_val (by decide) rfl (val_move (v := .pointer none) rfl) rfl ?_
    refine pt_val (by decide) rfl (val_eql_nilptr Try.underlying44 rfl rfl) rfl ?_ (tame_nilptr rfl rfl (.inl rfl))
    refine pt_regionEnd (pt_true rfl (pt_seq (pt_region ?_)))
    refine pt_val (by decide) rfl (val_assign (v := vInt 0) rfl) rfl ?_
    exact pt_regionEnd (pt_ret (fn := Try.f21) (v := vInt 0) Try.func21 rfl (fun a hf => res_slot rfl rfl hf) fun w hw => g1 _ () w (hw.mono fun u hu => ⟨rfl, hu⟩))
  · exact pick_v h2
set_option maxRecDepth 100000 in
set_option maxHeartbeats 4000000 in
theorem sw_5_15 [C : Co Try.prog] {n : Int} {qv : Value} {calm : Bool} :
    SW Try.prog 60 r5a [(0, vI n), (1, qv), (2, .bool calm)] (Mem v [] []) (fun ex F' w => ex = .normal ∧ Sub [(41, .bool (decide (n ≥ 1) && decide (n ≤ 1000))), (0, vI n), (1, qv), (2, .bool calm)] F' ∧ RV v w) := by
  show SW Try.prog 60 (Code.region 15 _ false) _ _ _
  refine sw_region ?_
  refine ow_val (val_move (v := vI n) rfl) rfl ?_
  refine ow_val (val_geq_int (a := n) (b := 1) rfl rfl) rfl ?_ (tame_int rfl rfl)
  refine ow_val (val_move (v := .bool (decide (n ≥ 1))) rfl) rfl ?_
  by_cases h : n ≥ 1
  · rw [decide_eq_true h]
    refine ow_guard_yes (t := 38) rfl rfl rfl (ow_val (val_move (v := vI n) rfl) rfl ?_)
    refine ow_guard_yes (t := 38) rfl rfl rfl (ow_val (val_leq_int (a := n) (b := 1000) rfl rfl) rfl ?_ (tame_int rfl rfl))
    refine ow_val (val_pick_true (v := .bool (decide (n ≤ 1000))) rfl rfl) rfl ?_
    exact ow_nil fun w hw => ⟨rfl, ⟨rfl, rfl, rfl, rfl, trivial⟩, Mem.rv hw⟩
  · rw [decide_eq_false h]
    refine ow_guard_no (t := 38) rfl rfl rfl rfl rfl ?_
    refine ow_guard_no (t := 38) rfl rfl rfl rfl rfl ?_
    refine ow_val (val_pick_false (v := .bool false) rfl rfl) rfl ?_
    exact ow_nil fun w hw => ⟨rfl, ⟨rfl, rfl, rfl, rfl, trivial⟩, Mem.rv hw⟩
set_option maxRecDepth 100000 in
set_option maxHeartbeats 4000000 in
theorem sw_5_18 [C : Co Try.prog] {n : Int} {qv : Value} {calm : Bool} {sb : Nat} (hn : n < 1 ∨ 1000 < n) (hc : v.cell? ⟨sb, 1, none⟩ = some (.slice none 0 0)) :
    SW Try.prog 60 r5b [(0, vI n), (1, qv), (2, .bool calm), (11, vPtr sb)] (Mem v [] []) (fun ex F' w => ex = .normal ∧ Sub [(6, .bool true)] F' ∧ RV v w) := by
  show SW Try.prog 60 (Code.region 18 _ false) _ _ _
  refine sw_region ?_
  refine ow_val (val_move (v := vI n) rfl) rfl ?_
  refine ow_val (val_move (v := vPtr sb) rfl) rfl ?_
  refine ow_val (val_makeFunc1 (fs := #[vPtr sb]) (vs := #[]) (fun a hf => by
    simp only [List.map_toArray, List.map_cons, List.map_nil]
    rw [ev_eval hf (x := .tmp 45) (v := vPtr sb) rfl]) (fun a hf => by simp)) rfl ?_
  refine ow_val (val_move (v := qv) rfl) rfl ?_
  refine ow_val (val_move (v := .bool calm) rfl) rfl ?_
  refine ow_call_pure (v := .slice none 0 0) (callsTo (xs := [.tmp 44, .tmp 46, .tmp 47, .tmp 48]) (vs := [vI n, .func (.func 23) #[vPtr sb] #[], qv, .bool calm]) Try.func22 rfl (by kernel_rfl) rfl) rfl (fun w hm => (odd22_v (.inl hn) (.inr ⟨_, _, _, rfl⟩)).mono fun e u hu => ⟨_, hu.1, rfl, mem_of_rv hu.2⟩) ?_
  refine ow_val (val_len (len := 0) rfl Try.underlying28) rfl ?_
  refine ow_val (val_eql_int (a := 0) (b := 0) rfl rfl) rfl ?_ (tame_int rfl rfl)
  rw [decide_eq_true (show (0 : Int) = 0 from rfl)]
  refine ow_val (val_move (v := .bool true) rfl) rfl ?_
  refine ow_guard_yes (t := 52) rfl rfl rfl (ow_val (val_move (v := vPtr sb) rfl) rfl ?_)
  refine ow_guard_yes (t := 52) rfl rfl rfl (ow_val (val_nilCheck (a := ⟨sb, 0, none⟩) rfl) rfl ?_ (tame_nilCheck rfl))
  refine ow_guard_yes (t := 52) rfl rfl rfl (ow_val (val_fieldAddr (b := sb) (o := 0) (e := 1) rfl Try.underlying40 rfl rfl Try.sizeOf32 rfl) rfl ?_)
  refine ow_guard_yes (t := 52) rfl rfl rfl (ow_val (val_load rfl Try.isAgg32 (v := .slice none 0 0) (fun w h => cell_rv' hc (Mem.rv h))) rfl ?_)
  refine ow_guard_yes (t := 52) rfl rfl rfl (ow_val (val_len (len := 0) rfl Try.underlying32) rfl ?_)
  refine ow_guard_yes (t := 52) rfl rfl rfl (ow_val (val_eql_int (a := 0) (b := 0) rfl rfl) rfl ?_ (tame_int rfl rfl))
  rw [decide_eq_true (show (0 : Int) = 0 from rfl)]
  refine ow_val (val_pick_true (v := .bool true) rfl rfl) rfl ?_
  refine ow_val (val_assign (v := .bool true) rfl) rfl ?_
  exact ow_nil fun w hw => ⟨rfl, ⟨rfl, trivial⟩, Mem.rv hw⟩
set_option maxRecDepth 100000 in
set_option maxHeartbeats 8000000 in
theorem odd_p {Post : Value → World → Prop} {S : List Frame} (hy : ∀ (F : Go.Sx.Fr) (t : List Item), Sub [(6, .bool true)] F → Pt (fun _ : Unit => coLaw Try.prog Post) 60 (Go.Sx.fr0 5) S () (.code .ret :: t) F (fun w => RV v w)) {n : Int} {qv : Value} {calm : Bool} :
    Pt (fun _ : Unit => coLaw Try.prog Post) 60 (Go.Sx.fr0 5) S () [.code c5] (Go.Sx.slots 0 [vI n, qv, .bool calm]) (· = v) := by
  letI C : Co Try.prog := coLaw Try.prog Post
  have hyes : ∀ (M : World → Prop) (hM : ∀ w, M w → RV v w) (F : Go.Sx.Fr) (t : List Item), Sub [(6, .bool true)] F → Pt (fun _ : Unit => C) 60 (Go.Sx.fr0 5) S () (.code .ret :: t) F M := fun M hM F t hF => Pt.imp hM (hy F t hF)
  refine Pt.imp (M' := fun w => RV v w) (fun w hw => hw ▸ RV.refl _) (pt_seq (pt_region ?_))
  refine pt_val (by decide) rfl (val_assign (v := .bool false) rfl) rfl ?_
  refine pt_regionEnd (pt_seq (pt_seq (pt_region ?_)))
  refine pt_call (T := fun w r _ u => r = .returned (.bool true) ∧ RV w u) (by decide) rfl (callsTo (xs := []) (vs := []) Try.func12 rfl (by decide) rfl) (by infer_instance) (fun w hw => callI_of_v (awake_v (Post := Post))) (fun t' ht => by cases ht; rfl) (fun w r x' hw => ?_) (fun w ch x' hw a w' hf hl => ?_)
  rotate_left
  · obtain ⟨z, ⟨hz, _⟩, _⟩ := hl; cases hz
  refine Pt.world fun z hz => ?_
  obtain ⟨hr, hz⟩ := hz
  obtain rfl : r = .bool true := by cases hr; rfl
  replace hz := RV.trans hw hz
  clear hr hw
  refine Pt.imp (M' := Mem z [] []) (fun u hu => hu ▸ Mem.refl z) ?_
  refine pt_val (by decide) rfl (val_not rfl) rfl (pt_regionEnd (pt_false rfl (pt_skip ?_)))
  refine pt_seq (pt_region (pt_val (by decide) rfl (val_assign (v := .pointer none) rfl) rfl (pt_regionEnd ?_)))
  refine Pt.imp (M' := fun u => RV z u) (fun u hu => Mem.rv hu) (pt_seq (pt_region ?_))
  refine pt_alloc48 (by decide) rfl rfl fun z1 tb hz1 hc0 hc2 => ?_
  refine Pt.imp (M' := Mem z1 [] []) (fun u hu => mem_of_rv hu) ?_
  refine pt_val (by decide) rfl (val_assign (v := vPtr tb) rfl) rfl ?_
  refine pt_regionEnd (pt_seq (pt_seq (pt_region ?_)))
  refine pt_val (by decide) rfl (val_move (v := .pointer none) rfl) rfl ?_
  refine pt_val (by decide) rfl (val_move (v := vPtr tb) rfl) rfl ?_
  refine pt_mk (by decide) rfl (acts_buildSlice (vs := [(0, .pointer none), (1, vPtr tb)]) (cs := [.pointer none, vPtr tb]) Try.underlying49 Try.sizeOf44 Try.zeroValue44 rfl rfl (by kernel_rfl)) rfl fun br hbr => ?_
  refine pt_val (by decide) rfl (val_len (len := 2) rfl Try.underlying49) rfl ?_
  refine pt_val (by decide) rfl (val_move (v := vInt (0 : Nat)) rfl) rfl ?_
  refine pt_regionEnd (pt_block ?_)
  refine Pt.world fun z2 hz2 => ?_
  have hz3 : RV v z2 := hz.trans (hz1.trans (Mem.rv hz2))
  have hcr : ∀ j : Nat, j < 2 → ∃ tv, z2.cell? ⟨br, 0 + j, none⟩ = some tv ∧ OddT z2 tv := fun j hj => by
    have e1 : z2.heap[br]? = some (blk [.pointer none, vPtr tb] 44) := hz2.at (i := 0) rfl
    rcases (show j = 0 ∨ j = 1 by omega) with rfl | rfl
    · exact ⟨.pointer none, by rw [Go.Sx.cell_of_blk e1]; rfl, .inl rfl⟩
    · exact ⟨vPtr tb, by rw [Go.Sx.cell_of_blk e1]; rfl, .inr ⟨tb, rfl, cell_rv' hc0 (Mem.rv hz2), cell_rv' hc2 (Mem.rv hz2)⟩⟩
  refine pt_loop_inv (fun j : Nat => j ≤ 2) (fun j => [(0, vI n), (1, qv), (2, .bool calm), (17, .slice (some ⟨br, 0, none⟩) 2 2), (18, vInt (2 : Nat)), (19, vInt j)]) (fun _ => ()) (fun _ u => RV z2 u) (fun j => 2 - j) 0 (Nat.zero_le _) ⟨rfl, rfl, rfl, rfl, rfl, rfl, trivial⟩ rfl (fun _ h => h ▸ RV.refl _) ?_
  rintro j hle hloop
  refine pt_seq (pt_region ?_)
  refine pt_val (by decide) rfl (val_lss_int (a := (j : Int)) (b := (2 : Nat)) rfl rfl) rfl ?_ (tame_int rfl rfl)
  refine pt_regionEnd (pt_seq (pt_if rfl (fun hlt => ?_) (fun hge => ?_)))
  · have hj : j < 2 := by omega
    obtain ⟨tv, hc, hO⟩ := hcr j hj
    refine pt_skip (pt_seq (pt_block (pt_seq (pt_region ?_))))
    refine pt_val (by decide) rfl (val_indexAddr_slice (m := 1) j (0 + j) rfl rfl Try.underlying49 Try.sizeOf44 rfl hj (by omega)) rfl ?_
    refine pt_val (by decide) rfl (val_load rfl Try.isAgg44 (v := tv) (fun w h => cell_rv' hc h)) rfl ?_
    refine pt_val (by decide) rfl (val_assign (v := tv) rfl) rfl ?_
    refine pt_regionEnd (pt_seq (pt_region ?_))
    refine pt_val (by decide) rfl (val_move (v := tv) rfl) rfl ?_
    refine pt_call (T := fun w r _ u => r = .returned (.tuple #[]) ∧ RV w u) (by decide) rfl (callsTo (xs := [.tmp 23]) (vs := [tv]) Try.func19 rfl (by decide) rfl) (by infer_instance) (fun w hw => callI_of_v (step_odd_v (hO.grow hw))) (fun t' ht => by cases ht; rfl) (fun w r x' hw => ?_) (fun w ch x' hw a w' hf hl => ?_)
    rotate_left
    · obtain ⟨z, ⟨hz, _⟩, _⟩ := hl; cases hz
    refine Pt.imp (M' := fun u => RV z2 u) (fun u hu => RV.trans hw hu.2) (pt_regionEnd ?_)
    clear hw
    refine pt_seq (pt_region ?_)
    refine pt_val (by decide) rfl (val_move (v := tv) rfl) rfl ?_
    refine pt_call (T := fun w r _ u => r = .returned (.tuple #[]) ∧ RV w u) (by decide) rfl (callsTo (xs := [.tmp 25, .const .nilFunc]) (vs := [tv, .nilFunc]) Try.func20 rfl (by decide) rfl) (by infer_instance) (fun w hw => callI_of_v (until_odd_v (hO.grow hw))) (fun t' ht => by cases ht; rfl) (fun w r x' hw => ?_) (fun w ch x' hw a w' hf hl => ?_)
    rotate_left
    · obtain ⟨z, ⟨hz, _⟩, _⟩ := hl; cases hz
    refine Pt.imp (M' := fun u => RV z2 u) (fun u hu => RV.trans hw hu.2) (pt_regionEnd ?_)
    clear hw
    refine pt_seq (pt_region ?_)
    refine pt_val (by decide) rfl (val_move (v := tv) rfl) rfl ?_
    refine pt_call (T := fun w r _ u => r = .returned (vInt 0) ∧ RV w u) (by decide) rfl (callsTo (xs := [.tmp 27]) (vs := [tv]) Try.func21 rfl (by decide) rfl) (by infer_instance) (fun w hw => callI_of_v (pick_odd_v (hO.grow hw))) (fun t' ht => by cases ht; rfl) (fun w r x' hw => ?_) (fun w ch x' hw a w' hf hl => ?_)
    rotate_left
    · obtain ⟨z, ⟨hz, _⟩, _⟩ := hl; cases hz
    refine Pt.world fun z5 hz5 => ?_
    obtain ⟨hr, hz5⟩ := hz5
    obtain rfl : r = vInt 0 := by cases hr; rfl
    refine Pt.imp (M' := fun u => RV z2 u) (fun u hu => hu ▸ RV.trans hw hz5) ?_
    refine pt_val (by decide) rfl (val_neq_int (a := 0) (b := 0) rfl rfl) rfl ?_ (tame_int rfl rfl)
    refine pt_regionEnd (pt_if rfl (fun h => absurd rfl h) (fun _ => pt_skip (pt_inBlock (pt_region ?_))))
    refine pt_val (by decide) rfl (val_add_int (a := (j : Int)) (b := 1) _ rfl rfl rfl (by omega)) rfl ?_ (tame_int rfl rfl)
    refine pt_val (by decide) rfl (val_move (v := vInt (j + 1 : Nat)) rfl) rfl ?_
    refine pt_regionEnd (Pt.weaken ?_ (fun _ h => h) (hloop (j + 1) hj (by omega)))
    exact ⟨rfl, rfl, rfl, rfl, rfl, rfl, trivial⟩
  refine pt_exit rfl (pt_seq (pt_seq (pt_region ?_)))
  refine pt_val (by decide) rfl (val_move (v := qv) rfl) rfl ?_
  refine pt_val (by decide) rfl (val_move (v := .bool calm) rfl) rfl ?_
  refine pt_call (T := fun w r _ u => r = .returned (.slice none 0 0) ∧ RV w u) (by decide) rfl (callsTo (xs := [.const (vInt 3), .const .nilFunc, .tmp 31, .tmp 32]) (vs := [vI 3, .nilFunc, qv, .bool calm]) Try.func22 rfl (by decide) rfl) (by infer_instance) (fun w hw => callI_of_v (odd22_v (.inr rfl) (.inl rfl))) (fun t' ht => by cases ht; rfl) (fun w r x' hw => ?_) (fun w ch x' hw a w' hf hl => ?_)
  rotate_left
  · obtain ⟨z, ⟨hz, _⟩, _⟩ := hl; cases hz
  refine Pt.world fun z5 hz5 => ?_
  obtain ⟨hr, hz5⟩ := hz5
  obtain rfl : r = .slice none 0 0 := by cases hr; rfl
  have hz6 : RV v z5 := hz3.trans (RV.trans hw hz5)
  refine Pt.imp (M' := fun u => RV z5 u) (fun u hu => hu ▸ RV.refl _) ?_
  refine pt_val (by decide) rfl (val_len (len := 0) rfl Try.underlying28) rfl ?_
  refine pt_val (by decide) rfl (val_neq_int (a := 0) (b := 0) rfl rfl) rfl ?_ (tame_int rfl rfl)
  refine pt_regionEnd (pt_if rfl (fun h => absurd rfl h) (fun _ => pt_skip ?_))
  refine pt_seq (pt_seq (Pt.world fun z7 hz7 => ?_))
  refine Pt.weaken (F' := [(0, vI n), (1, qv), (2, .bool calm)]) ⟨rfl, rfl, rfl, trivial⟩ (M' := Mem z7 [] []) (fun w hw => hw ▸ Mem.refl z7) ?_
  refine pt_sw (by decide) sw_5_15 (fun F' y hq => ?_) (fun ex F' y hne hq => hne hq.1)
  obtain ⟨-, hF, hy7⟩ := hq
  have hz8 : RV v y := hz6.trans (hz7.trans hy7)
  refine Pt.weaken hF (M' := Mem y [] []) (fun w hw => hw ▸ Mem.refl y) (pt_cond rfl (fun hs => ?_) (fun hs => pt_skip ?_))
  · refine pt_seq (pt_region (pt_val (by decide) rfl (val_assign (v := .bool true) rfl) rfl (pt_regionEnd ?_)))
    exact hyes _ (fun w hw => hz8.trans (Mem.rv hw)) _ _ ⟨rfl, trivial⟩
  have hodd : n < 1 ∨ 1000 < n := by
    rcases Bool.and_eq_false_iff.1 hs with h | h
    · have := of_decide_eq_false h; omega
    · have := of_decide_eq_false h; omega
  refine pt_seq (pt_region ?_)
  refine pt_val (by decide) rfl (val_build' (parts := _) (vs := []) (cs := [.slice none 0 0, .slice none 0 0, .slice none 0 0]) rfl (by kernel_rfl)) rfl ?_
  refine pt_new (by decide) rfl (acts_box (v := .agg #[.slice none 0 0, .slice none 0 0, .slice none 0 0]) rfl) rfl fun sb hsb => ?_
  refine pt_val (by decide) rfl (val_assign (v := vPtr sb) rfl) rfl ?_
  refine pt_regionEnd (pt_seq (Pt.world fun z9 hz9 => ?_))
  have hcs : z9.cell? ⟨sb, 1, none⟩ = some (.slice none 0 0) := by
    have e1 : z9.heap[sb]? = some (blk [.slice none 0 0, .slice none 0 0, .slice none 0 0] 40) := hz9.at (i := 0) rfl
    rw [Go.Sx.cell_of_blk e1]; rfl
  refine Pt.weaken (F' := [(0, vI n), (1, qv), (2, .bool calm), (11, vPtr sb)]) ⟨rfl, rfl, rfl, rfl, trivial⟩ (M' := Mem z9 [] []) (fun w hw => hw ▸ Mem.refl z9) ?_
  refine pt_sw (by decide) (sw_5_18 hodd hcs) (fun F' q hq => ?_) (fun ex F' q hne hq => hne hq.1)
  obtain ⟨-, hF', hq⟩ := hq
  exact hyes (fun w => w = q) (fun w hw => hw ▸ hz8.trans ((Mem.rv hz9).trans hq)) _ _ hF'
end
end Go.Bt
end
