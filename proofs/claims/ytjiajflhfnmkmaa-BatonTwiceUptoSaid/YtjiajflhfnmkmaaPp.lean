/- A PLAY OF THE BATON: what the row rests on. -/
import Derived.Test.YtjiajflhfnmkmaaPo
set_option linter.unusedVariables false
set_option linter.unusedSimpArgs false
set_option linter.unusedSectionVars false
section
namespace Go.Bt
variable [Gnd]
open Go.Conc Go.ConcN Go.RowKit Go.Proofs
open Go.Sx (Rly RV pz pzo pz_heap spec isWg Gud Co blk RowE Rd Mem CallV vInt CallI CallsTo Tame ev evs Sub SW val_move val_assign val_nilCheck tame_nilCheck val_fieldAddr val_load val_load_at val_load_all val_load_elem val_eql_int val_lss_int val_add_int val_len val_indexAddr_slice tame_int val_makeFunc callI_of_pt Pt pt_seq pt_sw pt_true pt_ret pt_back pt_region pt_regionEnd pt_val pt_block pt_inBlock pt_exit pt_if pt_skip pt_do pt_call pt_loop_inv callsTo acts_box acts_alloc does_store_all res_nothing re_fall ReI Lf Stb tame_callv vEnded ev_eval pick_v)
section
variable {u0 : World} {sb : Nat} {pv : Value} {ps : List (List Ins)} {qs : List Int} {calm : Bool} {Wg i : Nat} {e : Ent} {bo j kn : Nat} {x : Int × World} {v : World}
noncomputable def c23l : Code := cB (cB (cR (Try.f23.body.getD .skip)))
theorem get_getD {l : List Ins} {j : Nat} (h : j < l.length) : l[j]? = some (l.getD j default) := by rw [List.getD_eq_getElem?_getD, List.getElem?_eq_getElem h]; rfl
theorem flatB_get {l : List (Int × Int)} {j : Nat} {y : Int × Int} (h : l[j]? = some y) : (flatB l)[2 * j]? = some (vI y.1) ∧ (flatB l)[2 * j + 1]? = some (vI y.2) := by
  induction l generalizing j with
  | nil => simp at h
  | cons a l ih =>
    cases j with
    | zero =>
      simp only [List.getElem?_cons_zero, Option.some.injEq] at h
      subst h
      exact ⟨rfl, rfl⟩
    | succ j =>
      rw [List.getElem?_cons_succ] at h
      have := ih h
      exact this
/-- What the frame of act holds at a round's head. -/
abbrev HA (sb i : Nat) (e : Ent) (a : Option Addr) (len c j : Nat) : Go.Sx.Fr := [(14, .slice a len c), (15, vInt len), (16, vInt j), (0, vPtr sb), (1, vI i), (2, vPtr e.T)]
set_option maxRecDepth 100000 in
set_option maxHeartbeats 8000000 in
/-- ████ ACT. ████ -/
theorem act_i (hP : Pre ps qs (clOf ps qs calm u0 sb pv).K) (hG : Prg u0 sb pv ps) (hi : i < ps.length) (hx : x.1 = kn) (hN : Next (clOf ps qs calm u0 sb pv) i (-1) kn) (hsh : ShS u0 sb pv (macN ps qs kn).bd (pz x.2)) (hT : TRow e (vI kn) (pz x.2)) :
    CallI (coAct Try.prog Wg (clOf ps qs calm u0 sb pv) i e bo) 23 #[vPtr sb, vI i, vPtr e.T] x (pz x.2) (FinT (clOf ps qs calm u0 sb pv) i) := by
  have hok := cl_ok (qs := qs) (calm := calm) (u0 := u0) (sb := sb) (pv := pv) hP.n
  obtain ⟨pa, pc, hpv, hpr⟩ := hG.ex
  have hp : ps[i]? = some (ps.getD i []) := by rw [List.getD_eq_getElem?_getD, List.getElem?_eq_getElem hi]; rfl
  have hplen := hG.len _ (List.mem_of_getElem? hp)
  obtain ⟨b, o0, a, c, rfl, hcl, hbo, hrd⟩ := hpr i _ hp
  refine callI_of_pt (vs := [vPtr sb, vI i, vPtr e.T]) Try.func23 rfl rfl fun cf cs h1 h2 => ?_
  refine Pt.imp (M' := fun u => RV (pz x.2) u) (fun w hw => hw ▸ RV.refl _) ?_
  refine pt_seq (pt_region ?_)
  refine pt_val (by decide) rfl (val_move (v := vPtr sb) rfl) rfl ?_
  refine pt_val (by decide) rfl (val_nilCheck (a := ⟨sb, 0, none⟩) rfl) rfl ?_ (tame_nilCheck rfl)
  refine pt_val (by decide) rfl (val_fieldAddr (b := sb) (o := 0) (e := 0) rfl Try.underlying40 rfl rfl Try.sizeOf22 rfl) rfl ?_
  have hc0 : (pz x.2).cell? ⟨sb, 0, none⟩ = some (.slice (some ⟨b, o0, none⟩) ps.length pc) := by
    obtain ⟨bs, pk, eb, ep, hS⟩ := hsh
    rw [Go.Sx.cell_of_blk hS.st, hpv]; rfl
  refine pt_val (by decide) rfl (val_load rfl Try.isAgg22 (v := .slice (some ⟨b, o0, none⟩) ps.length pc) (fun w h => cell_rv' hc0 h)) rfl ?_
  refine pt_val (by decide) rfl (val_move (v := vI i) rfl) rfl ?_
  refine pt_val (by decide) rfl (val_indexAddr_slice (m := 1) i (o0 + i) rfl rfl Try.underlying22 Try.sizeOf58 rfl hi (by omega)) rfl ?_
  refine pt_val (by decide) rfl (val_load rfl Try.isAgg58 (v := .slice a (ps.getD i []).length c) (fun w h => cell_rv' (hsh.oldc hcl hbo) h)) rfl ?_
  refine pt_val (by decide) rfl (val_len (len := (ps.getD i []).length) rfl Try.underlying58) rfl ?_
  refine pt_val (by decide) rfl (val_move (v := vInt (0 : Nat)) rfl) rfl ?_
  refine pt_regionEnd (pt_block ?_)
  refine pt_loop_inv (σ := (Int × World) × Nat × World) (AI ps qs (clOf ps qs calm u0 sb pv).K u0 sb pv i e (ps.getD i []).length) (fun y => HA sb i e a (ps.getD i []).length c y.2.1) (fun y => y.1) (fun y z => RV y.2.2 z) (fun y => (ps.getD i []).length - y.2.1) (x, 0, pz x.2) ⟨⟨kn, _, hx, inrun_begin hP hN, hsh, SK.refl, hT⟩, Nat.zero_le _⟩ ⟨rfl, rfl, rfl, rfl, rfl, rfl, trivial⟩ rfl (fun _ h => h) ?_
  clear hx hN hsh hT hc0
  rintro ⟨y, j, z⟩ hAI hloop
  have hle := hAI.le
  obtain ⟨kn, B, hy, hR, hsh, hsk, hT⟩ := hAI.ex
  simp only at hy hR hsh hsk hT hle
  have hsz := hR.size hP
  refine pt_seq (pt_region ?_)
  refine pt_val (by decide) rfl (val_lss_int (a := (j : Int)) (b := ((ps.getD i []).length : Int)) rfl rfl) rfl ?_ (tame_int rfl rfl)
  refine pt_regionEnd (pt_seq (pt_if rfl (fun hlt => ?_) (fun hge => ?_)))
  · have hj : j < (ps.getD i []).length := by omega
    -- behind the instruction
    have hnext : ∀ (x' : Int × World) (u : World) (F : Go.Sx.Fr), Go.Sx.Sub (HA sb i e a (ps.getD i []).length c j) F → AI ps qs (clOf ps qs calm u0 sb pv).K u0 sb pv i e (ps.getD i []).length (x', j + 1, u) → Pt (coAct Try.prog Wg (clOf ps qs calm u0 sb pv) i e bo) 54 (Go.Sx.fr0 23) (cf :: cs) x' [.inBlock 1, .code (cR (cR (cR c23l))), .inLoop c23l, .inBlock 0] F (fun z => RV u z) := by
      intro x' u F hF hA'
      refine Pt.weaken hF (fun _ h => h) ?_
      refine pt_inBlock (pt_region ?_)
      refine pt_val (by decide) rfl (val_add_int (a := (j : Int)) (b := 1) _ rfl rfl rfl (by omega)) rfl ?_ (tame_int rfl rfl)
      refine pt_val (by decide) rfl (val_move (v := vInt (j + 1 : Nat)) rfl) rfl ?_
      refine pt_regionEnd (Pt.weaken ?_ (fun _ h => h) (hloop (x', j + 1, u) hA' (by simp only; omega)))
      exact ⟨rfl, rfl, rfl, rfl, rfl, rfl, trivial⟩
    have hgo : (ps.getD i [])[j]? = some ((ps.getD i []).getD j default) := get_getD hj
    have hpos : ∃ b', a = some ⟨b', (0 : Nat), none⟩ ∨ ∃ o', a = some ⟨b', o', none⟩ := by
      obtain ⟨b', o', e1, _⟩ := hrd (2 * j) (vI ((ps.getD i []).getD j default).1) (by
        have := flatB_get hgo
        exact this.1)
      exact ⟨b', .inr ⟨o', e1⟩⟩
    obtain ⟨b', ho'⟩ := hpos
    have ho' : ∃ o', a = some ⟨b', o', none⟩ := by
      rcases ho' with h | h
      · exact ⟨0, h⟩
      · exact h
    obtain ⟨o', rfl⟩ := ho'
    refine pt_skip (pt_seq (pt_block (pt_seq ?_)))
    refine Pt.imp (M' := Mem z [] []) (fun w hw => (Mem.refl z).grow hw) (pt_region ?_)
    refine pt_val (by decide) rfl (val_indexAddr_slice (m := 2) j (o' + j * 2) rfl rfl Try.underlying58 Try.sizeOf61 rfl hj rfl) rfl ?_
    refine pt_val (by decide) rfl (val_load_elem (cells := fun y : Int × Int => [vI y.1, vI y.2]) (l := ps.getD i []) (o := o') (i := j) rfl Try.isAgg61 Try.sizeOf61 (fun _ _ => rfl) hj rfl (fun w hw => (fun k y hy => let ⟨b1, o1, e1, e2⟩ := hsh.oldrd hrd k y hy; ⟨b1, o1, e1, cell_rv' e2 (Mem.rv hw)⟩))) rfl ?_
    generalize (ps.getD i []).getD j default = o at hgo
    refine pt_new (by decide) rfl (acts_alloc Try.zeroValue61) rfl fun t7 ht7 => ?_
    refine pt_do (by decide) rfl (does_store_all 0 (cs := [vI o.1, vI o.2]) rfl rfl rfl (by intro x hx; simp only [List.mem_cons, List.not_mem_nil, or_false] at hx; rcases hx with rfl | rfl <;> rfl) Try.sizeOf61 rfl rfl) fun _ _ => ?_
    refine Pt.imp (M' := Mem z [] [some (t7, blk [vI o.1, vI o.2] 61)]) (fun _ h => h) ?_
    refine pt_regionEnd (pt_seq (pt_region ?_))
    refine pt_val (by decide) rfl (val_fieldAddr (b := t7) (o := 0) (e := 0) rfl Try.underlying61 rfl rfl Try.sizeOf3 rfl) rfl ?_
    refine pt_val (by decide) rfl (val_load_at (v := vI o.1) 0 rfl rfl Try.isAgg3 rfl) rfl ?_
    refine pt_regionEnd (pt_block (pt_seq (pt_region ?_)))
    refine pt_val (by decide) rfl (val_eql_int (a := o.1) (b := 1) rfl rfl) rfl ?_ (tame_int rfl rfl)
    refine pt_val (by decide) rfl (val_assign (v := .bool (decide (o.1 = 1))) rfl) rfl ?_
    have HW : ∀ {w : World}, Mem z [] [some (t7, blk [vI o.1, vI o.2] 61)] w → RV z w := fun h => Mem.rv h
    refine pt_regionEnd (pt_if rfl (fun k1 => ?_) (fun k1 => pt_seq (pt_region ?_)))
    · -- Write
      refine pt_region ?_
      refine pt_val (by decide) rfl (val_move (v := vPtr sb) rfl) rfl ?_
      refine pt_val (by decide) rfl (val_move (v := vI i) rfl) rfl ?_
      refine pt_val (by decide) rfl (val_fieldAddr (b := t7) (o := 0) (e := 1) rfl Try.underlying61 rfl rfl Try.sizeOf3 rfl) rfl ?_
      refine pt_val (by decide) rfl (val_load_at (v := vI o.2) 0 rfl rfl Try.isAgg3 rfl) rfl ?_
      refine pt_val (by decide) rfl (val_move (v := vPtr e.T) rfl) rfl ?_
      refine pt_call (T := fun w r x' u => r = .returned (.tuple #[]) ∧ x' = y ∧ ShS u0 sb pv (B.note i o.2 kn) u ∧ SK sb w u) (by decide) rfl (callsTo (xs := [.tmp 29, .tmp 30, .tmp 32, .tmp 33]) (vs := [vPtr sb, vI i, vI o.2, vPtr e.T]) Try.func34 rfl (by decide) rfl) (by infer_instance) (fun w hw => (CallI.of_callV (note_v (C := coAct Try.prog Wg (clOf ps qs calm u0 sb pv) i e bo y) (y := .nilFunc) (hsh.rv (HW hw)) ⟨_, _, TRow.rv' hT (HW hw)⟩ hsz.1 hsz.2)).mono fun r x' u ⟨h1, h2, h3, h4⟩ => ⟨h2, h1, h3, h4⟩) (fun t' ht => by cases ht; rfl) (fun w r x' hw => ?_) (fun w ch x' hw a w' hf hl => ?_)
      · refine Pt.world fun u hu => ?_
        obtain ⟨hr, rfl, hs, hk⟩ := hu
        refine Pt.imp (M' := fun z => RV u z) (fun z hz => hz ▸ RV.refl _) (pt_regionEnd (pt_inBlock (hnext x' u _ ⟨rfl, rfl, rfl, rfl, rfl, rfl, trivial⟩ ⟨⟨kn, _, hy, hR.write hgo k1, hs, (hsk.rv hsh.rt (HW hw)).trans hk, TRow.sk (hsh.rv (HW hw)) (TRow.rv' hT (HW hw)) hk⟩, hj⟩)))
      · obtain ⟨z, ⟨hr, _⟩, _⟩ := hl
        cases hr
    refine pt_val (by decide) rfl (val_eql_int (a := o.1) (b := 9) rfl rfl) rfl ?_ (tame_int rfl rfl)
    refine pt_val (by decide) rfl (val_assign (v := .bool (decide (o.1 = 9))) rfl) rfl ?_
    refine pt_regionEnd (pt_if rfl (fun k9 => ?_) (fun k9 => pt_seq (pt_region ?_)))
    · -- Pick
      refine pt_region ?_
      refine pt_val (by decide) rfl (val_move (v := vPtr sb) rfl) rfl ?_
      refine pt_val (by decide) rfl (val_move (v := vI i) rfl) rfl ?_
      refine pt_val (by decide) rfl (val_move (v := vPtr e.T) rfl) rfl ?_
      have hTc : ∀ {w : World}, RV z w → w.cell? ⟨e.T, 2, none⟩ = some (vI kn) := fun {w} hr => by
        have h3 : w.heap[e.T]? = some (pzo (.cells #[vCh e.gr, vCh e.bk, vI kn] 48)) := TRow.rv' hT hr
        unfold World.cell?; rw [h3]; rfl
      refine pt_call (T := fun w r x' u => x' = y ∧ r = .returned (vInt kn) ∧ RV w u) (by decide) rfl (callsTo (xs := [.tmp 39]) (vs := [vPtr e.T]) Try.func21 rfl (by decide) rfl) (by infer_instance) (fun w hw => CallI.of_callV (pick_v (C := coAct Try.prog Wg (clOf ps qs calm u0 sb pv) i e bo y) (hTc (HW hw)))) (fun t' ht => by cases ht; rfl) (fun w r x' hw => ?_) (fun w ch x' hw a w' hf hl => ?_)
      · refine Pt.world fun u1 hu1 => ?_
        obtain ⟨rfl, hr1, hu1⟩ := hu1
        cases hr1
        refine Pt.imp (M' := fun q => RV z q) (fun q hq => hq ▸ (HW hw).trans hu1) ?_
        refine pt_val (by decide) rfl (val_move (v := vPtr e.T) rfl) rfl ?_
        refine pt_call (T := fun w r x2 u => r = .returned (.tuple #[]) ∧ x2 = x' ∧ ShS u0 sb pv (B.note i kn kn) u ∧ SK sb w u) (by decide) rfl (callsTo (xs := [.tmp 37, .tmp 38, .tmp 40, .tmp 41]) (vs := [vPtr sb, vI i, vI kn, vPtr e.T]) Try.func34 rfl (by decide) rfl) (by infer_instance) (fun w hw => (CallI.of_callV (note_v (C := coAct Try.prog Wg (clOf ps qs calm u0 sb pv) i e bo x') (y := .nilFunc) (hsh.rv hw) ⟨_, _, TRow.rv' hT hw⟩ hsz.1 hsz.2)).mono fun r x' u ⟨h1, h2, h3, h4⟩ => ⟨h2, h1, h3, h4⟩) (fun t' ht => by cases ht; rfl) (fun w r x2 hw => ?_) (fun w ch x2 hw a w' hf hl => ?_)
        · refine Pt.world fun u hu => ?_
          obtain ⟨hr, rfl, hs, hk⟩ := hu
          refine Pt.imp (M' := fun z => RV u z) (fun z hz => hz ▸ RV.refl _) (pt_regionEnd (pt_inBlock (hnext x2 u _ ⟨rfl, rfl, rfl, rfl, rfl, rfl, trivial⟩ ⟨⟨kn, _, hy, hR.pick hgo k9, hs, (hsk.rv hsh.rt hw).trans hk, TRow.sk (hsh.rv hw) (TRow.rv' hT hw) hk⟩, hj⟩)))
        · obtain ⟨q, ⟨hr, _⟩, _⟩ := hl
          cases hr
      · obtain ⟨q, ⟨_, hr, _⟩, _⟩ := hl
        cases hr
    refine pt_val (by decide) rfl (val_eql_int (a := o.1) (b := 2) rfl rfl) rfl ?_ (tame_int rfl rfl)
    refine pt_val (by decide) rfl (val_assign (v := .bool (decide (o.1 = 2))) rfl) rfl ?_
    refine pt_regionEnd (pt_if rfl (fun k2 => ?_) (fun k2 => pt_seq (pt_region ?_)))
    · -- Step
      refine pt_region ?_
      refine pt_val (by decide) rfl (val_move (v := vPtr e.T) rfl) rfl ?_
      obtain ⟨s1, s2⟩ := hR.step hgo k2
      refine pt_call (T := fun w r x' u => u = pz x'.2 ∧ match r with
        | .returned r => r = .tuple #[] ∧ ∃ (v' : World) (kn' : Nat), RV w v' ∧ x'.1 = kn' ∧ Resm (clOf ps qs calm u0 sb pv) i e kn v' kn' (pz x'.2)
        | .panicked ch => x'.1 = -1 ∧ ch = [{ v := vEnded, recovered := false }]
        | _ => False) (by decide) rfl (callsTo (xs := [.tmp 45]) (vs := [vPtr e.T]) Try.func19 rfl (by decide) rfl) (by infer_instance) (fun w hw => step_callI hok hy (TRow.rv' hT (HW hw)) hR.mv (by show (acN ps qs i (kn + 1)).over = false; rw [s1]) (seg_of (hsk.rv hsh.rt (HW hw)) (hsh.rv (HW hw)) s2)) (fun t' ht => by cases ht; rfl) (fun w r x' hw => ?_) (fun w ch x' hw a w' hf hl => ?_)
      · refine Pt.world fun u hu => ?_
        obtain ⟨rfl, rfl, v', kn', hr, hk', hRes⟩ := hu
        obtain ⟨v1, hke, hsh1, hok1, hrv1⟩ := resm_ordk hRes
        refine Pt.imp (M' := fun z => RV (pz x'.2) z) (fun z hz => hz ▸ RV.refl _) (pt_regionEnd (pt_inBlock (hnext x' _ _ ⟨rfl, rfl, rfl, rfl, rfl, rfl, trivial⟩ ⟨⟨kn', _, hk', inrun_on hP hRes.next s1, ?_, SK.refl, hRes.row⟩, hj⟩)))
        exact ShS.ordk hsh1 hok1
      · obtain ⟨q, ⟨rfl, h5, h6⟩, hr⟩ := hl
        exact re_fall Try.func23 hf.defers (h2 ch x' w' ⟨_, ⟨.inl ⟨h5, RV.refl _⟩, _, h6⟩, hr⟩)
    refine pt_val (by decide) rfl (val_eql_int (a := o.1) (b := 7) rfl rfl) rfl ?_ (tame_int rfl rfl)
    refine pt_val (by decide) rfl (val_assign (v := .bool (decide (o.1 = 7))) rfl) rfl ?_
    refine pt_regionEnd (pt_if rfl (fun k7 => ?_) (fun k7 => pt_seq (pt_region ?_)))
    · -- Fail
      refine pt_region ?_
      refine pt_val (by decide) rfl (val_move (v := vPtr sb) rfl) rfl ?_
      obtain ⟨s1, s2⟩ := hR.stop hgo (.inl k7)
      refine pt_call (T := fun w r x' u => x' = y ∧ ∃ q, r = .panicked [{ v := q, recovered := false }] ∧ RV w u) (by decide) rfl (callsTo (xs := [.tmp 49]) (vs := [vPtr sb]) Try.func35 rfl (by decide) rfl) (by infer_instance) (fun w hw => CallI.of_callV (broken_v (C := coAct Try.prog Wg (clOf ps qs calm u0 sb pv) i e bo y) (hsh.rv (HW hw)))) (fun t' ht => by cases ht; rfl) (fun w r x' hw => ?_) (fun w ch x' hw a w' hf hl => ?_)
      · exact Pt.of_false fun u hu => by obtain ⟨_, q, hq, _⟩ := hu; cases hq
      · obtain ⟨q, ⟨rfl, p, hp', hq⟩, hr⟩ := hl
        cases hp'
        have hrq := (HW hw).trans hq
        exact re_fall Try.func23 hf.defers (h2 _ x' w' ⟨q, ⟨.inr ⟨kn, hy, hR.mv, s1, seg_of (hsk.rv hsh.rt hrq) (hsh.rv hrq) s2⟩, _, rfl⟩, hr⟩)
    refine pt_val (by decide) rfl (val_eql_int (a := o.1) (b := 11) rfl rfl) rfl ?_ (tame_int rfl rfl)
    refine pt_val (by decide) rfl (val_assign (v := .bool (decide (o.1 = 11))) rfl) rfl ?_
    refine pt_regionEnd (pt_if rfl (fun k11 => ?_) (fun k11 => ?_))
    · -- Stop
      obtain ⟨s1, s2⟩ := hR.stop hgo (.inr k11)
      exact pt_ret (fn := Try.f23) (v := .tuple #[]) Try.func23 rfl (fun a _ => res_nothing rfl a) fun w hw => h1 _ y w (hw.mono fun q hq => .inr ⟨kn, hy, hR.mv, s1, seg_of (hsk.rv hsh.rt (HW hq)) (hsh.rv (HW hq)) s2⟩)
    · -- a question
      refine pt_region ?_
      refine pt_val (by decide) rfl (val_move (v := vPtr sb) rfl) rfl ?_
      refine pt_val (by decide) rfl (val_move (v := vI i) rfl) rfl ?_
      refine pt_val (by decide) rfl (val_load_all 0 rfl rfl Try.isAgg61 Try.sizeOf61 rfl) rfl ?_
      refine pt_val (by decide) rfl (val_move (v := vPtr e.T) rfl) rfl ?_
      refine pt_call (T := fun _ => UT ps qs calm u0 sb pv i e j) (by decide) rfl (callsTo (xs := [.tmp 22, .tmp 23, .tmp 24, .tmp 25]) (vs := [vPtr sb, vI i, .agg #[vI o.1, vI o.2], vPtr e.T]) Try.func36 rfl (by decide) rfl) (by infer_instance) (fun w hw => until_i hP hy hR hgo k1 k9 k2 k7 k11 (hsh.rv (HW hw)) (hsk.rv hsh.rt (HW hw)) (TRow.rv' hT (HW hw))) (fun t' ht => by cases ht; rfl) (fun w r x' hw => ?_) (fun w ch x' hw a w' hf hl => ?_)
      · refine Pt.world fun u hu => ?_
        obtain ⟨rfl, kn', hk', B', g1, g2, g3, g4⟩ := hu
        exact Pt.imp (M' := fun z => RV u z) (fun z hz => hz ▸ RV.refl _) (pt_regionEnd (pt_inBlock (hnext x' u _ ⟨rfl, rfl, rfl, rfl, rfl, rfl, trivial⟩ ⟨⟨kn', B', hk', g1, g2, g3, g4⟩, hj⟩)))
      · refine re_fall Try.func23 hf.defers (h2 ch x' w' (hl.mono fun q hq => ?_))
        rcases hq with ⟨h5, h6, rfl⟩ | ⟨k', h5, ⟨h6, h7, h8⟩, u, h9⟩
        · exact ⟨.inl ⟨h5, RV.refl _⟩, _, h6⟩
        · exact ⟨.inr ⟨k', h5, h6, h7, h8⟩, u, h9⟩
  · obtain ⟨g1, g2⟩ := hR.fin (by omega)
    refine pt_exit rfl ?_
    exact pt_back (fn := Try.f23) (v := .tuple #[]) Try.func23 rfl (fun a _ => res_nothing rfl a) fun w hw => h1 _ y w (hw.mono fun q hq => .inr ⟨kn, hy, hR.mv, g1, (seg_of hsk hsh g2).rv hok hq⟩)
end
end Go.Bt
end
section
namespace Go.Bt
variable [Gnd]
open Go.Conc Go.ConcN Go.RowKit Go.Proofs
open Go.Sx (Rly RV pz pzo pz_heap spec isWg Gud Co blk RowE Rd Mem CallV vInt CallI Pt)
section
variable {u0 v : World} {sb : Nat} {pv : Value} {ps : List (List Ins)} {qs : List Int} {calm : Bool} {Post : Value → World → Prop}
/-- The client's promise. -/
theorem act_ok (hP : Pre ps qs (clOf ps qs calm u0 sb pv).K) (hG : Prg u0 sb pv ps) (Wg : Nat) : ActOk Wg (clOf ps qs calm u0 sb pv) 23 #[vPtr sb] #[] where
  fn := ⟨_, _, Try.func23, rfl, by decide⟩
  tame := inferInstance
  ok := fun i e bo x kn hi hx hN hS hT => act_i hP hG hi hx hN hS hT
/-- Play, as the laws call it. -/
theorem play22_v (hn1 : ps.length ≤ 1000) (hP : Pre ps qs (clOf ps qs calm u0 sb pv).K) (hG : Prg u0 sb pv ps) (hq : qs.length ≤ 8796092000000) {pa : Option Addr} {cap : Nat} (hsb : u0.heap[sb]? = some (blk [pv, .slice none 0 0, .slice none 0 0] 40)) (hQ : QL u0 [sb] qs pa) :
    @CallV _ Try.prog (coLaw Try.prog Post) 22 #[vInt ps.length, .func (.func 23) #[vPtr sb] #[], .slice pa qs.length cap, .bool calm] u0 (fun r u => ∃ mv, r = .returned mv ∧ PlayR (clOf ps qs calm u0 sb pv) u0 [sb] mv u) := by
  have hS : SSt u0 sb pv ⟨[], []⟩ (.slice none 0 0) (.slice none 0 0) none none u0 :=
    ⟨hsb, RowE.nil 56 2, RowE.nil 3 1, fun b o h => (by cases h), fun b o h => (by cases h), fun b o h _ _ _ => h⟩
  have h := play_callI (Post := Post) (c := clOf ps qs calm u0 sb pv) (cl_ok hP.n) (Nat.le_refl _) (n := ps.length) (cap := cap) (olds := [sb]) (qs := qs) (f := 23) (first := #[vPtr sb]) (cp := #[]) (pa := pa) (calm := calm) hP.n hn1 rfl (act_ok hP hG) (cl_pa hq) (u0 := u0) ⟨_, _, _, _, hS⟩ (fun b hb => by
    rcases hS.foot hb with rfl | ⟨c, hc⟩ | ⟨c, hc⟩
    · exact List.mem_singleton.2 rfl
    · cases hc
    · cases hc) (fun b hb => by
    obtain rfl := List.mem_singleton.1 hb
    exact (Array.getElem?_eq_some_iff.1 hsb).1) hQ
  intro w hw cf cs h1 h2
  refine h w hw cf cs (fun r x' u hl => ?_) (fun ch x' u hl => ?_)
  · obtain ⟨q, ⟨mv, hr, rfl, hR⟩, hq2⟩ := hl
    exact h1 r u ⟨q, ⟨mv, hr, hR⟩, hq2⟩
  · obtain ⟨q, ⟨mv, hr, _⟩, _⟩ := hl
    cases hr
/-- An ordinary block, no row of moves. -/
def OrdV (v : World) (b : Nat) : Prop := ∃ o, v.heap[b]? = some o ∧ spS o = false ∧ o.isChan = false
def VRd (v : World) (a : Option Addr) (xs : List Value) : Prop := ∀ j y, xs[j]? = some y → ∃ b o, a = some ⟨b, o, none⟩ ∧ v.cell? ⟨b, o + j, none⟩ = some y ∧ OrdV v b
/-- Programs that lie in the world. -/
structure PrgV (v : World) (pv : Value) (ps : List (List Ins)) : Prop where
  ex : ∃ pa pc, pv = .slice pa ps.length pc ∧ ∀ i p, ps[i]? = some p → ∃ b o a c, pa = some ⟨b, o, none⟩ ∧ v.cell? ⟨b, o + i, none⟩ = some (.slice a p.length c) ∧ OrdV v b ∧ VRd v a (flatB p)
  len : ∀ p ∈ ps, p.length ≤ 4611686018427387904
theorem OrdV.old {b : Nat} {l : List Go.Sx.Ent} (h : OrdV v b) (hm : Mem v [] l u0) (hs : v.heap.size ≤ sb) : OldO u0 sb b ∧ u0.heap[b]? = v.heap[b]? := by
  obtain ⟨o, h1, h2, h3⟩ := h
  have hlt := (Array.getElem?_eq_some_iff.1 h1).1
  have e := hm.keep b hlt (by simp)
  exact ⟨⟨o, e.trans h1, h2, h3, by omega⟩, e⟩
theorem VRd.old {a : Option Addr} {xs : List Value} {l : List Go.Sx.Ent} (h : VRd v a xs) (hm : Mem v [] l u0) (hs : v.heap.size ≤ sb) : ORd u0 sb a xs := fun j y hy => by
  obtain ⟨b, o, h1, h2, h3⟩ := h j y hy
  obtain ⟨h4, h5⟩ := h3.old hm hs
  exact ⟨b, o, h1, by rw [← h2]; unfold World.cell?; simp only [h5], h4⟩
theorem PrgV.old {l : List Go.Sx.Ent} (h : PrgV v pv ps) (hm : Mem v [] l u0) (hs : v.heap.size ≤ sb) : Prg u0 sb pv ps where
  ex := by
    obtain ⟨pa, pc, h1, h2⟩ := h.ex
    refine ⟨pa, pc, h1, fun i p hp => ?_⟩
    obtain ⟨b, o, a, c, g1, g2, g3, g4⟩ := h2 i p hp
    obtain ⟨h4, h5⟩ := g3.old hm hs
    exact ⟨b, o, a, c, g1, by rw [← g2]; unfold World.cell?; simp only [h5], h4, g4.old hm hs⟩
  len := h.len
/-- The stage and the moves, new in the world. -/
structure PlayO (ps : List (List Ins)) (qs : List Int) (calm : Bool) (pv : Value) (v : World) (sb : Nat) (mv : Value) (u : World) : Prop where
  ex : ∃ bs pk eb ep er, Mem v [] [some (sb, blk [pv, bs, pk] 40), eb, ep, er] u ∧ RowE bs 56 2 (macN ps qs (qs.length + calmJ ps qs calm)).bd.notes.length (flatB (macN ps qs (qs.length + calmJ ps qs calm)).bd.notes) eb ∧
    RowE pk 3 1 (macN ps qs (qs.length + calmJ ps qs calm)).bd.pks.length ((macN ps qs (qs.length + calmJ ps qs calm)).bd.pks.map vI) ep ∧
    RowE mv 43 2 (qs.length + calmJ ps qs calm) ((List.range (qs.length + calmJ ps qs calm)).flatMap fun m => [vI (whoOf ps.length qs m), .bool (movedN ps qs m)]) er
theorem playO_of {l : List Go.Sx.Ent} (hm : Mem v [] l u0) (hs : v.heap.size ≤ sb) (hs2 : sb < u0.heap.size) {mv : Value} {u : World} (h : PlayR (clOf ps qs calm u0 sb pv) u0 [sb] mv u) : PlayO ps qs calm pv v sb mv u := by
  obtain ⟨er, hr, her⟩ := h.row
  obtain ⟨bs, pk, eb, ep, hS⟩ := h.sh
  have hsz := hm.size
  have keep : ∀ k, k < v.heap.size → u.heap[k]? = v.heap[k]? := fun k hk => by
    rw [h.keep k (by omega) (by simp; omega)]
    exact hm.keep k hk (by simp)
  have hnew : ∀ b o, u.heap[b]? = some o → spS o = false → o.isChan = false → b ≠ sb → ¬ OldO u0 sb b → v.heap.size ≤ b := fun b o hb g1 g2 g4 hno => by
    rcases Nat.lt_or_ge b v.heap.size with hlt | hge
    · exfalso
      refine hno ⟨o, ?_, g1, g2, g4⟩
      rw [← hb, h.keep b (by omega) (by simpa using g4)]
    · exact hge
  have hob : ∀ b o, eb = some (b, o) → ∃ cells, u.heap[b]? = some (blk cells 56) ∧ o = blk cells 56 ∧ v.heap.size ≤ b := fun b o he => by
    obtain ⟨cells, rfl⟩ := row_ord hS.rb he
    obtain ⟨h1, h2⟩ := hS.hb b _ he
    refine ⟨cells, h1, rfl, hnew b _ h1 rfl rfl (fun e => ?_) h2⟩
    rw [e, hS.st, Option.some.injEq] at h1; simp [blk] at h1
  have hop : ∀ b o, ep = some (b, o) → ∃ cells, u.heap[b]? = some (blk cells 3) ∧ o = blk cells 3 ∧ v.heap.size ≤ b := fun b o he => by
    obtain ⟨cells, rfl⟩ := row_ord hS.rp he
    obtain ⟨h1, h2⟩ := hS.hp b _ he
    refine ⟨cells, h1, rfl, hnew b _ h1 rfl rfl (fun e => ?_) h2⟩
    rw [e, hS.st, Option.some.injEq] at h1; simp [blk] at h1
  have hor : ∀ b o, er = some (b, o) → ∃ cells, u.heap[b]? = some (blk cells 43) ∧ o = blk cells 43 ∧ v.heap.size ≤ b := fun b o he => by
    obtain ⟨cells, rfl⟩ := row_ord hr he
    obtain ⟨h1, h2⟩ := her b _ he
    exact ⟨cells, h1, rfl, by omega⟩
  have hne : ∀ {b b' : Nat} {c c' : List Value} {T T' : TypeId}, u.heap[b]? = some (blk c T) → u.heap[b']? = some (blk c' T') → T ≠ T' → b ≠ b' := fun h1 h2 hT e => by
    subst e; rw [h1, Option.some.injEq] at h2
    simp only [blk, Obj.cells.injEq] at h2
    exact hT h2.2.1
  refine ⟨bs, pk, eb, ep, er, ⟨h.os.trans hm.os, h.tape.trans hm.tape, h.output.trans hm.output, by have := h.size; omega, fun k hk _ => keep k hk, fun b o hb => ?_, ?_, fun b hb => .inl ?_⟩, hS.rb, hS.rp, hr⟩
  · simp only [List.mem_cons, List.not_mem_nil, or_false] at hb
    rcases hb with hb | hb | hb | hb
    · cases hb; exact hS.st
    · exact (hS.hb b o hb.symm).1
    · exact (hS.hp b o hb.symm).1
    · exact (her b o hb.symm).1
  · have hst := hS.st
    have d : ∀ {x y : Nat}, x ≠ y → y ≠ x := fun h e => h e.symm
    cases eb with
    | none =>
      cases ep with
      | none =>
        cases er with
        | none => simp [Go.Sx.keys]
        | some z =>
          obtain ⟨c3, e3, _⟩ := hor z.1 z.2 rfl
          simp [Go.Sx.keys, hne hst e3 (by decide)]
      | some y =>
        obtain ⟨c2, e2, _⟩ := hop y.1 y.2 rfl
        cases er with
        | none => simp [Go.Sx.keys, hne hst e2 (by decide)]
        | some z =>
          obtain ⟨c3, e3, _⟩ := hor z.1 z.2 rfl
          simp [Go.Sx.keys, hne hst e2 (by decide), hne hst e3 (by decide), hne e2 e3 (by decide)]
    | some x =>
      obtain ⟨c1, e1, _⟩ := hob x.1 x.2 rfl
      cases ep with
      | none =>
        cases er with
        | none => simp [Go.Sx.keys, hne hst e1 (by decide)]
        | some z =>
          obtain ⟨c3, e3, _⟩ := hor z.1 z.2 rfl
          simp [Go.Sx.keys, hne hst e1 (by decide), hne hst e3 (by decide), hne e1 e3 (by decide)]
      | some y =>
        obtain ⟨c2, e2, _⟩ := hop y.1 y.2 rfl
        cases er with
        | none => simp [Go.Sx.keys, hne hst e1 (by decide), hne hst e2 (by decide), hne e1 e2 (by decide)]
        | some z =>
          obtain ⟨c3, e3, _⟩ := hor z.1 z.2 rfl
          simp [Go.Sx.keys, hne hst e1 (by decide), hne hst e2 (by decide), hne hst e3 (by decide), hne e1 e2 (by decide), hne e1 e3 (by decide), hne e2 e3 (by decide)]
  · obtain ⟨o, ho⟩ := Go.Sx.keys_mem hb
    simp only [List.mem_cons, List.not_mem_nil, or_false] at ho
    rcases ho with ho | ho | ho | ho
    · cases ho; exact hs
    · obtain ⟨_, _, _, h3⟩ := hob b o ho.symm; exact h3
    · obtain ⟨_, _, _, h3⟩ := hop b o ho.symm; exact h3
    · obtain ⟨_, _, _, h3⟩ := hor b o ho.symm; exact h3
end
end Go.Bt
end
section
namespace Go.Bt
variable [Gnd]
open Go.Conc Go.ConcN Go.RowKit Go.Proofs
open Go.Sx (Rly RV pz pzo pz_heap spec isWg Gud Co blk RowE Rd Mem CallV vInt CallI Pt callV_of_callI callI_of_pt pt_seq pt_region pt_regionEnd pt_val pt_call pt_ret val_assign val_move val_build' val_len acts_box callsTo ev_eval res_two Fits)
section
variable {v : World} {pv : Value} {ps : List (List Ins)} {qs : List Int} {calm : Bool} {Post : Value → World → Prop}
/-- The list of picks lies in the world. -/
structure QV (v : World) (qa : Option Addr) (qs : List Int) : Prop where
  cells : ∀ k q, qs[k]? = some q → ∃ b o, qa = some ⟨b, o, none⟩ ∧ b < v.heap.size ∧ v.cell? ⟨b, o + k, none⟩ = some (vI q)
theorem res_two' {fn : Func} {F : Go.Sx.Fr} {t u : Nat} {x y : Value} (hr : fn.results = #[.tmp t, .tmp u]) (hx : Go.Sx.look F t = some x) (hy : Go.Sx.look F u = some y) {a : Act} (hf : Fits fn.ntmps F a) : (results fn a.tmps).Pl Try.prog ∧ ∀ w, (results fn a.tmps).run Try.prog w = .ok (.tuple #[x, y]) w := by
  rw [res_two hr]
  have h1 := hf.has t x hx
  have h2 := hf.has u y hy
  simp only [Array.getD_eq_getD_getElem?, h1, h2, Option.getD_some]
  exact ⟨trivial, fun _ => rfl⟩
set_option maxRecDepth 100000 in
set_option maxHeartbeats 2000000 in
/-- ████ THE LAWS' PLAY. ████ -/
theorem play15_v (hn1 : ps.length ≤ 1000) (hP : Pre ps qs (qs.length + calmJ ps qs calm)) (hG : PrgV v pv ps) (hq : qs.length ≤ 8796092000000) {qa : Option Addr} {cap : Nat} (hQ : QV v qa qs) :
    @CallV _ Try.prog (coLaw Try.prog Post) 15 #[pv, .slice qa qs.length cap, .bool calm] v (fun r u => ∃ sb mv, r = .returned (.tuple #[vPtr sb, mv]) ∧ PlayO ps qs calm pv v sb mv u) := by
  letI C : Co Try.prog := coLaw Try.prog Post
  obtain ⟨pa, pc, hpv, _⟩ := hG.ex
  refine callV_of_callI (callI_of_pt (vs := [pv, .slice qa qs.length cap, .bool calm]) Try.func15 rfl rfl fun cf cs g1 g2 => ?_)
  refine Pt.imp (M' := Mem v [] []) (fun w hw => hw ▸ Mem.refl v) ?_
  refine pt_seq (pt_region ?_)
  refine pt_val (by decide) rfl (val_assign (v := .pointer none) rfl) rfl ?_
  refine pt_val (by decide) rfl (val_assign (v := .slice none 0 0) rfl) rfl ?_
  refine pt_regionEnd (pt_seq (pt_region ?_))
  refine pt_val (by decide) rfl (val_move (v := pv) rfl) rfl ?_
  refine pt_val (by decide) rfl (val_build' (parts := _) (vs := [(0, pv)]) (cs := [pv, .slice none 0 0, .slice none 0 0]) rfl (by rw [hpv]; kernel_rfl)) rfl ?_
  refine pt_new (by decide) rfl (acts_box (v := .agg #[pv, .slice none 0 0, .slice none 0 0]) rfl) rfl fun sb hsb => ?_
  refine Pt.imp (M' := Mem v [] [some (sb, blk [pv, .slice none 0 0, .slice none 0 0] 40)]) (fun _ h => h) ?_
  refine pt_val (by decide) rfl (val_assign (v := vPtr sb) rfl) rfl ?_
  refine pt_regionEnd (pt_seq (pt_region ?_))
  refine pt_val (by decide) rfl (val_move (v := vPtr sb) rfl) rfl ?_
  refine pt_val (by decide) rfl (val_move (v := pv) rfl) rfl ?_
  refine pt_val (by decide) rfl (val_len (a := pa) (len := ps.length) (cap := pc) (by rw [← hpv]; rfl) Try.underlying22) rfl ?_
  refine pt_val (by decide) rfl (val_move (v := vPtr sb) rfl) rfl ?_
  refine pt_val (by decide) rfl (val_makeFunc1 (fs := #[vPtr sb]) (vs := #[]) (fun a hf => ?_) (fun a hf => by simp)) rfl ?_
  · simp only [List.map_toArray, List.map_cons, List.map_nil]
    rw [ev_eval hf (x := .tmp 15) (v := vPtr sb) rfl]
  refine pt_val (by decide) rfl (val_move (v := .slice qa qs.length cap) rfl) rfl ?_
  refine pt_val (by decide) rfl (val_move (v := .bool calm) rfl) rfl ?_
  refine pt_call (T := fun w r _ u => ∃ mv, r = .returned mv ∧ PlayO ps qs calm pv v sb mv u) (by decide) rfl (callsTo (xs := [.tmp 14, .tmp 16, .tmp 17, .tmp 18]) (vs := [vInt ps.length, .func (.func 23) #[vPtr sb] #[], .slice qa qs.length cap, .bool calm]) Try.func22 rfl (by decide) rfl) (by infer_instance) (fun w hw => callI_of_v ?_) (fun t' ht => by cases ht; rfl) (fun w r x' hw => ?_) (fun w ch x' hw a w' hf hl => ?_)
  · have hlt : sb < w.heap.size := hw.lt (by simp [Go.Sx.keys])
    refine (play22_v (Post := Post) (u0 := w) (sb := sb) (pv := pv) (pa := qa) (cap := cap) hn1 hP (hG.old hw hsb) hq (hw.own _ _ (List.mem_cons_self ..)) ⟨fun k q hk => ?_⟩).mono fun r u ⟨mv, h1, h2⟩ => ⟨mv, h1, playO_of hw hsb hlt h2⟩
    obtain ⟨b, o, e1, e2, e3⟩ := hQ.cells k q hk
    have e := hw.keep b e2 (by simp)
    have hsz := hw.size
    exact ⟨b, o, e1, by omega, by simp; omega, by rw [← e3]; unfold World.cell?; simp only [e]⟩
  · refine Pt.world fun z hz => ?_
    obtain ⟨mv, hr, hz⟩ := hz
    obtain rfl : r = mv := by cases hr; rfl
    refine Pt.imp (M' := fun u => RV z u) (fun y hy => hy ▸ RV.refl _) ?_
    refine pt_val (by decide) rfl (val_assign (v := vPtr sb) rfl) rfl ?_
    refine pt_val (by decide) rfl (val_assign (v := r) rfl) rfl ?_
    refine pt_regionEnd (pt_ret (fn := Try.f15) (v := .tuple #[vPtr sb, r]) Try.func15 rfl (fun a hf => res_two' rfl rfl rfl hf) fun w hw => g1 _ () w (hw.mono fun q hq => ⟨sb, r, rfl, ?_⟩))
    obtain ⟨bs, pk, eb, ep, er, h1, h2, h3, h4⟩ := hz.ex
    exact ⟨bs, pk, eb, ep, er, h1.grow hq, h2, h3, h4⟩
  · obtain ⟨z, ⟨_, hr, _⟩, _⟩ := hl
    cases hr
end
end Go.Bt
end
section
namespace Go.Bt
variable [Gnd]
open Go.Conc Go.ConcN Go.RowKit Go.Proofs
open Go.Sx (Rly RV pz pzo pz_heap spec isWg Gud Co blk RowE Rd Mem CallV vInt CallI Pt callV_of_callI callI_of_pt pt_seq pt_region pt_regionEnd pt_val pt_call pt_ret pt_block pt_inBlock pt_exit pt_if pt_skip pt_do pt_sw pt_loop_inv val_assign val_move val_build' val_len val_load val_load_elem val_load_at val_indexAddr_slice val_fieldAddr val_lss_int val_add_int val_leq_int val_eql_int val_gtr_int val_pick val_pick_false val_pick_true acts_box acts_alloc does_store_all callsTo ev_eval tame_int res_slot Fits SW sw_region ow_val ow_nil ow_guard_yes ow_guard_no Stb)
section
variable {v : World} {pv : Value} {ps : List (List Ins)} {qs : List Int}
def isFit (ps : List (List Ins)) (qs : List Int) : Bool := decide (ps.length ≤ 40 ∧ (ps.map List.length).sum ≤ 2000 ∧ qs.length ≤ 4000)
theorem prog_at {pa : Option Addr} (h : ∀ i p, ps[i]? = some p → ∃ b o a c, pa = some ⟨b, o, none⟩ ∧ v.cell? ⟨b, o + i, none⟩ = some (.slice a p.length c) ∧ OrdV v b ∧ VRd v a (flatB p)) {i : Nat} (hi : i < ps.length) :
    ∃ b o a c, pa = some ⟨b, o, none⟩ ∧ v.cell? ⟨b, o + i, none⟩ = some (.slice a (ps.getD i []).length c) ∧ VRd v a (flatB (ps.getD i [])) := by
  have hp : ps[i]? = some (ps.getD i []) := by rw [List.getD_eq_getElem?_getD, List.getElem?_eq_getElem hi]; rfl
  obtain ⟨b, o, a, c, h1, h2, _, h3⟩ := h i _ hp
  exact ⟨b, o, a, c, h1, h2, h3⟩
theorem sum_take {l : List Nat} : ∀ j, (l.take j).sum ≤ l.sum := fun j => by
  conv => rhs; rw [← List.take_append_drop j l]
  rw [List.sum_append]; omega
theorem sum_take_succ {l : List (List Ins)} {j : Nat} (hj : j < l.length) : ((l.map List.length).take (j + 1)).sum = ((l.map List.length).take j).sum + (l.getD j []).length := by
  have h : (l.map List.length)[j]? = some (l.getD j []).length := by
    rw [List.getElem?_map, List.getD_eq_getElem?_getD, List.getElem?_eq_getElem hj]; rfl
  rw [List.take_add_one, h, List.sum_append]
  simp
variable [C : Co Try.prog]
noncomputable def f13r : Code := cL (cR (cR (cR (Try.f13.body.getD .skip))))
set_option maxRecDepth 100000 in
set_option maxHeartbeats 2000000 in
theorem sw_fit {pa qa : Option Addr} {n m S pc cap : Nat} {F : Go.Sx.Fr} (h0 : Go.Sx.look F 0 = some (.slice pa n pc)) (h1 : Go.Sx.look F 1 = some (.slice qa m cap)) (h5 : Go.Sx.look F 5 = some (vInt S)) :
    SW Try.prog 31 f13r F (fun w => RV v w) (fun ex F' w => ex = .normal ∧ Go.Sx.look F' 4 = some (.bool (decide (n ≤ 40 ∧ S ≤ 2000 ∧ m ≤ 4000))) ∧ RV v w) := by
  show SW Try.prog 31 (Code.region 7 _ false) _ _ _
  refine sw_region ?_
  refine ow_val (val_move (v := .slice pa n pc) (by exact h0)) rfl ?_
  refine ow_val (val_len (len := n) rfl Try.underlying22) rfl ?_
  refine ow_val (val_leq_int (a := (n : Int)) (b := 40) rfl rfl) rfl ?_ (tame_int rfl rfl)
  refine ow_val (val_move (v := .bool (decide ((n : Int) ≤ 40))) rfl) rfl ?_
  by_cases hn : n ≤ 40
  · have e : decide ((n : Int) ≤ 40) = true := by simp; omega
    rw [e]
    refine ow_guard_yes (t := 22) rfl rfl rfl (ow_val (val_move (v := vInt S) (by exact h5)) rfl ?_)
    refine ow_guard_yes (t := 22) rfl rfl rfl (ow_val (val_leq_int (a := (S : Int)) (b := 2000) rfl rfl) rfl ?_ (tame_int rfl rfl))
    refine ow_val (val_pick_true (v := .bool (decide ((S : Int) ≤ 2000))) rfl rfl) rfl ?_
    refine ow_val (val_move (v := .bool (decide ((S : Int) ≤ 2000))) rfl) rfl ?_
    by_cases hS : S ≤ 2000
    · have e : decide ((S : Int) ≤ 2000) = true := by simp; omega
      rw [e]
      refine ow_guard_yes (t := 26) rfl rfl rfl (ow_val (val_move (v := .slice qa m cap) (by exact h1)) rfl ?_)
      refine ow_guard_yes (t := 26) rfl rfl rfl (ow_val (val_len (len := m) rfl Try.underlying23) rfl ?_)
      refine ow_guard_yes (t := 26) rfl rfl rfl (ow_val (val_leq_int (a := (m : Int)) (b := 4000) rfl rfl) rfl ?_ (tame_int rfl rfl))
      refine ow_val (val_pick_true (v := .bool (decide ((m : Int) ≤ 4000))) rfl rfl) rfl ?_
      refine ow_val (val_assign (v := .bool (decide ((m : Int) ≤ 4000))) rfl) rfl ?_
      refine ow_nil fun w hw => ⟨rfl, ?_, hw⟩
      show some (Value.bool _) = _
      simp [hn, hS]
      omega
    · have e : decide ((S : Int) ≤ 2000) = false := by simp; omega
      rw [e]
      refine ow_guard_no (t := 26) rfl rfl rfl rfl rfl ?_
      refine ow_guard_no (t := 26) rfl rfl rfl rfl rfl ?_
      refine ow_guard_no (t := 26) rfl rfl rfl rfl rfl ?_
      refine ow_val (val_pick_false (v := .bool false) rfl rfl) rfl ?_
      refine ow_val (val_assign (v := .bool false) rfl) rfl ?_
      refine ow_nil fun w hw => ⟨rfl, ?_, hw⟩
      show some (Value.bool _) = _
      simp [hS]
  · have e : decide ((n : Int) ≤ 40) = false := by simp; omega
    rw [e]
    refine ow_guard_no (t := 22) rfl rfl rfl rfl rfl ?_
    refine ow_guard_no (t := 22) rfl rfl rfl rfl rfl ?_
    refine ow_val (val_pick_false (v := .bool false) rfl rfl) rfl ?_
    refine ow_val (val_move (v := .bool false) rfl) rfl ?_
    refine ow_guard_no (t := 26) rfl rfl rfl rfl rfl ?_
    refine ow_guard_no (t := 26) rfl rfl rfl rfl rfl ?_
    refine ow_guard_no (t := 26) rfl rfl rfl rfl rfl ?_
    refine ow_val (val_pick_false (v := .bool false) rfl rfl) rfl ?_
    refine ow_val (val_assign (v := .bool false) rfl) rfl ?_
    refine ow_nil fun w hw => ⟨rfl, ?_, hw⟩
    show some (Value.bool _) = _
    simp [hn]
set_option maxRecDepth 100000 in
set_option maxHeartbeats 2000000 in
theorem fit_v (hG : PrgV v pv ps) (hsum : (ps.map List.length).sum ≤ 4611686018427387904) (hlen : ps.length ≤ 4611686018427387904) {qa : Option Addr} {cap : Nat} : CallV Try.prog 13 #[pv, .slice qa qs.length cap] v (fun r u => r = .returned (.bool (isFit ps qs)) ∧ RV v u) := by
  obtain ⟨pa, pc, rfl, hp⟩ := hG.ex
  refine callV_of_callI (callI_of_pt (vs := [.slice pa ps.length pc, .slice qa qs.length cap]) Try.func13 rfl rfl fun cf cs g1 g2 => ?_)
  refine Pt.imp (M' := fun u => RV v u) (fun u hu => hu ▸ RV.refl _) ?_
  refine pt_seq (pt_region ?_)
  refine pt_val (by decide) rfl (val_assign (v := .bool false) rfl) rfl ?_
  refine pt_regionEnd (pt_seq (pt_region ?_))
  refine pt_val (by decide) rfl (val_assign (v := vInt (0 : Nat)) rfl) rfl ?_
  refine pt_regionEnd (pt_seq (pt_seq (pt_region ?_)))
  refine pt_val (by decide) rfl (val_move (v := .slice pa ps.length pc) rfl) rfl ?_
  refine pt_val (by decide) rfl (val_len (len := ps.length) rfl Try.underlying22) rfl ?_
  refine pt_val (by decide) rfl (val_move (v := vInt (0 : Nat)) rfl) rfl ?_
  refine pt_regionEnd (pt_block ?_)
  refine pt_loop_inv (fun j : Nat => j ≤ ps.length) (fun j => [(5, vInt (((ps.map List.length).take j).sum : Nat)), (8, .slice pa ps.length pc), (9, vInt ps.length), (10, vInt j), (0, .slice pa ps.length pc), (1, .slice qa qs.length cap)]) (fun _ => ()) (fun _ z => RV v z) (fun j => ps.length - j) 0 (Nat.zero_le _) ⟨rfl, rfl, rfl, rfl, rfl, rfl, trivial⟩ rfl (fun _ h => h) ?_
  rintro j hle hloop
  refine pt_seq (pt_region ?_)
  refine pt_val (by decide) rfl (val_lss_int (a := (j : Int)) (b := (ps.length : Int)) rfl rfl) rfl ?_ (tame_int rfl rfl)
  refine pt_regionEnd (pt_seq (pt_if rfl (fun hlt => ?_) (fun hge => ?_)))
  · have hj : j < ps.length := by omega
    obtain ⟨b, o, a, c, rfl, hc, _⟩ := prog_at hp hj
    have hst := sum_take (l := ps.map List.length) (j + 1)
    rw [sum_take_succ hj] at hst
    refine pt_skip (pt_seq (pt_block (pt_seq (pt_region ?_))))
    refine pt_val (by decide) rfl (val_indexAddr_slice (m := 1) j (o + j) rfl rfl Try.underlying22 Try.sizeOf58 rfl hj (by omega)) rfl ?_
    refine pt_val (by decide) rfl (val_load rfl Try.isAgg58 (v := .slice a (ps.getD j []).length c) (fun w h => cell_rv' hc h)) rfl ?_
    refine pt_val (by decide) rfl (val_assign (v := .slice a (ps.getD j []).length c) rfl) rfl ?_
    refine pt_regionEnd (pt_region ?_)
    refine pt_val (by decide) rfl (val_move (v := vInt (((ps.map List.length).take j).sum : Nat)) rfl) rfl ?_
    refine pt_val (by decide) rfl (val_move (v := .slice a (ps.getD j []).length c) rfl) rfl ?_
    refine pt_val (by decide) rfl (val_len (len := (ps.getD j []).length) rfl Try.underlying58) rfl ?_
    refine pt_val (by decide) rfl (val_add_int (a := (((ps.map List.length).take j).sum : Nat)) (b := ((ps.getD j []).length : Nat)) _ rfl rfl rfl (by omega)) rfl ?_ (tame_int rfl rfl)
    refine pt_val (by decide) rfl (val_assign (v := vInt (((ps.map List.length).take (j + 1)).sum : Nat)) (by rw [sum_take_succ hj]; rfl)) rfl ?_
    refine pt_regionEnd (pt_inBlock (pt_region ?_))
    refine pt_val (by decide) rfl (val_add_int (a := (j : Int)) (b := 1) _ rfl rfl rfl (by omega)) rfl ?_ (tame_int rfl rfl)
    refine pt_val (by decide) rfl (val_move (v := vInt (j + 1 : Nat)) rfl) rfl ?_
    refine pt_regionEnd (Pt.weaken ?_ (fun _ h => h) (hloop (j + 1) hj (by omega)))
    exact ⟨rfl, rfl, rfl, rfl, rfl, rfl, trivial⟩
  · have hjn : j = ps.length := by omega
    subst hjn
    rw [List.take_of_length_le (by simp)]
    refine pt_exit rfl (pt_seq ?_)
    refine pt_sw (by decide) (sw_fit (n := ps.length) (m := qs.length) (S := (ps.map List.length).sum) rfl rfl rfl) (fun F' y hq => ?_) (fun ex F' y hne hq => hne hq.1)
    obtain ⟨-, h4, hy⟩ := hq
    exact pt_ret (fn := Try.f13) (v := .bool (isFit ps qs)) Try.func13 rfl (fun a hf => res_slot rfl h4 hf) fun w hw => g1 _ () w (hw.mono fun q hq => ⟨rfl, hq ▸ hy⟩)
def isEndless (ps : List (List Ins)) : Bool := ps.any fun p => p.any fun o => decide (o.1 = 10 ∧ 4000 < o.2)
noncomputable def f14r : Code := match Try.f14.body with
  | some (.seq _ (.seq (.seq _ (.block _ (.loop (.seq _ (.seq _ (.seq (.block _ (.seq _ (.seq _ (.block _ (.loop (.seq _ (.seq _ (.seq (.block _ (.seq _ (.seq c _))) _)))))))) _)))))) _)) => c
  | _ => .skip
set_option maxRecDepth 100000 in
set_option maxHeartbeats 2000000 in
theorem sw_endless {z : World} {t6 : Nat} {o : Ins} {F : Go.Sx.Fr} (h6 : Go.Sx.look F 6 = some (vPtr t6)) :
    SW Try.prog 29 f14r F (Mem z [] [some (t6, blk [vI o.1, vI o.2] 61)]) (fun ex F' w => ex = .normal ∧ Go.Sx.look F' 26 = some (.bool (decide (o.1 = 10 ∧ 4000 < o.2))) ∧ (∀ t u, t < 19 → Go.Sx.look F t = some u → Go.Sx.look F' t = some u) ∧ RV z w) := by
  show SW Try.prog 29 (Code.region 7 _ false) _ _ _
  have hkeep : ∀ (m t : Nat), 19 ≤ m → t < 19 → Nat.beq m t = false := fun m t hm ht => by
    cases h : Nat.beq m t with
    | false => rfl
    | true => have := Nat.eq_of_beq_eq_true h; omega
  refine sw_region ?_
  refine ow_val (val_fieldAddr (b := t6) (o := 0) (e := 0) (by exact h6) Try.underlying61 rfl rfl Try.sizeOf3 rfl) rfl ?_
  refine ow_val (val_load_at (v := vI o.1) 0 rfl rfl Try.isAgg3 rfl) rfl ?_
  refine ow_val (val_eql_int (a := o.1) (b := 10) rfl rfl) rfl ?_ (tame_int rfl rfl)
  refine ow_val (val_move (v := .bool (decide (o.1 = 10))) rfl) rfl ?_
  by_cases h10 : o.1 = 10
  · rw [decide_eq_true h10]
    refine ow_guard_yes (t := 22) rfl rfl rfl (ow_val (val_fieldAddr (b := t6) (o := 0) (e := 1) (by exact h6) Try.underlying61 rfl rfl Try.sizeOf3 rfl) rfl ?_)
    refine ow_guard_yes (t := 22) rfl rfl rfl (ow_val (val_load_at (v := vI o.2) 0 rfl rfl Try.isAgg3 rfl) rfl ?_)
    refine ow_guard_yes (t := 22) rfl rfl rfl (ow_val (val_gtr_int (a := o.2) (b := 4000) rfl rfl) rfl ?_ (tame_int rfl rfl))
    refine ow_val (val_pick_true (v := .bool (decide (o.2 > 4000))) rfl rfl) rfl ?_
    refine ow_nil fun w hw => ⟨rfl, ?_, fun t u ht hl => ?_, Mem.rv hw⟩
    · show some (Value.bool _) = _
      simp [h10]
    · simp only [Go.Sx.look, hkeep _ t (show 19 ≤ 26 by omega) ht, hkeep _ t (show 19 ≤ 25 by omega) ht, hkeep _ t (show 19 ≤ 24 by omega) ht, hkeep _ t (show 19 ≤ 23 by omega) ht, hkeep _ t (show 19 ≤ 22 by omega) ht, hkeep _ t (show 19 ≤ 21 by omega) ht, hkeep _ t (show 19 ≤ 20 by omega) ht, hkeep _ t (show 19 ≤ 19 by omega) ht, cond_false]
      exact hl
  · rw [decide_eq_false h10]
    refine ow_guard_no (t := 22) rfl rfl rfl rfl rfl ?_
    refine ow_guard_no (t := 22) rfl rfl rfl rfl rfl ?_
    refine ow_guard_no (t := 22) rfl rfl rfl rfl rfl ?_
    refine ow_val (val_pick_false (v := .bool false) rfl rfl) rfl ?_
    refine ow_nil fun w hw => ⟨rfl, ?_, fun t u ht hl => ?_, Mem.rv hw⟩
    · show some (Value.bool _) = _
      simp [h10]
    · simp only [Go.Sx.look, hkeep _ t (show 19 ≤ 26 by omega) ht, hkeep _ t (show 19 ≤ 25 by omega) ht, hkeep _ t (show 19 ≤ 24 by omega) ht, hkeep _ t (show 19 ≤ 23 by omega) ht, hkeep _ t (show 19 ≤ 22 by omega) ht, hkeep _ t (show 19 ≤ 21 by omega) ht, hkeep _ t (show 19 ≤ 20 by omega) ht, hkeep _ t (show 19 ≤ 19 by omega) ht, cond_false]
      exact hl
set_option maxRecDepth 100000 in
set_option maxHeartbeats 4000000 in
theorem endless_v (hG : PrgV v pv ps) (hlen : ps.length ≤ 4611686018427387904) : CallV Try.prog 14 #[pv] v (fun r u => r = .returned (.bool (isEndless ps)) ∧ RV v u) := by
  have hl2 := hG.len
  obtain ⟨pa, pc, rfl, hp⟩ := hG.ex
  refine callV_of_callI (callI_of_pt (vs := [.slice pa ps.length pc]) Try.func14 rfl rfl fun cf cs g1 g2 => ?_)
  refine Pt.imp (M' := fun u => RV v u) (fun u hu => hu ▸ RV.refl _) ?_
  refine pt_seq (pt_region ?_)
  refine pt_val (by decide) rfl (val_assign (v := .bool false) rfl) rfl ?_
  refine pt_regionEnd (pt_seq (pt_seq (pt_region ?_)))
  refine pt_val (by decide) rfl (val_move (v := .slice pa ps.length pc) rfl) rfl ?_
  refine pt_val (by decide) rfl (val_len (len := ps.length) rfl Try.underlying22) rfl ?_
  refine pt_val (by decide) rfl (val_move (v := vInt (0 : Nat)) rfl) rfl ?_
  refine pt_regionEnd (pt_block ?_)
  refine pt_loop_inv (fun j : Nat => j ≤ ps.length ∧ ∀ i p, i < j → ps[i]? = some p → (p.any fun o => decide (o.1 = 10 ∧ 4000 < o.2)) = false) (fun j => [(7, .slice pa ps.length pc), (8, vInt ps.length), (9, vInt j)]) (fun _ => ()) (fun _ z => RV v z) (fun j => ps.length - j) 0 ⟨Nat.zero_le _, fun _ _ h => by omega⟩ ⟨rfl, rfl, rfl, trivial⟩ rfl (fun _ h => h) ?_
  rintro j ⟨hle, hno⟩ hloop
  refine pt_seq (pt_region ?_)
  refine pt_val (by decide) rfl (val_lss_int (a := (j : Int)) (b := (ps.length : Int)) rfl rfl) rfl ?_ (tame_int rfl rfl)
  refine pt_regionEnd (pt_seq (pt_if rfl (fun hlt => ?_) (fun hge => ?_)))
  · have hj : j < ps.length := by omega
    have hpj : ps[j]? = some (ps.getD j []) := by rw [List.getD_eq_getElem?_getD, List.getElem?_eq_getElem hj]; rfl
    obtain ⟨b, o, a, c, rfl, hc, hrd⟩ := prog_at hp hj
    have hpl := hl2 _ (List.mem_of_getElem? hpj)
    generalize ps.getD j [] = p at hpj hc hrd hpl
    refine pt_skip (pt_seq (pt_block (pt_seq (pt_region ?_))))
    refine pt_val (by decide) rfl (val_indexAddr_slice (m := 1) j (o + j) rfl rfl Try.underlying22 Try.sizeOf58 rfl hj (by omega)) rfl ?_
    refine pt_val (by decide) rfl (val_load rfl Try.isAgg58 (v := .slice a p.length c) (fun w h => cell_rv' hc h)) rfl ?_
    refine pt_val (by decide) rfl (val_assign (v := .slice a p.length c) rfl) rfl ?_
    refine pt_regionEnd (pt_seq (pt_region ?_))
    refine pt_val (by decide) rfl (val_move (v := .slice a p.length c) rfl) rfl ?_
    refine pt_val (by decide) rfl (val_len (len := p.length) rfl Try.underlying58) rfl ?_
    refine pt_val (by decide) rfl (val_move (v := vInt (0 : Nat)) rfl) rfl ?_
    refine pt_regionEnd (pt_block ?_)
    refine pt_loop_inv (fun k : Nat => k ≤ p.length ∧ ∀ i y, i < k → p[i]? = some y → ¬ (y.1 = 10 ∧ 4000 < y.2)) (fun k => [(7, .slice (some ⟨b, o, none⟩) ps.length pc), (8, vInt ps.length), (9, vInt j), (13, .slice a p.length c), (14, vInt p.length), (15, vInt k)]) (fun _ => ()) (fun _ z => RV v z) (fun k => p.length - k) 0 ⟨Nat.zero_le _, fun _ _ h => by omega⟩ ⟨rfl, rfl, rfl, rfl, rfl, rfl, trivial⟩ rfl (fun _ h => h) ?_
    rintro k ⟨hle2, hno2⟩ hloop2
    refine pt_seq (pt_region ?_)
    refine pt_val (by decide) rfl (val_lss_int (a := (k : Int)) (b := (p.length : Int)) rfl rfl) rfl ?_ (tame_int rfl rfl)
    refine pt_regionEnd (pt_seq (pt_if rfl (fun hlt2 => ?_) (fun hge2 => ?_)))
    · have hk : k < p.length := by omega
      have hgo := get_getD hk
      obtain ⟨b', o', rfl, _⟩ := hrd (2 * k) _ (flatB_get hgo).1
      refine pt_skip (pt_seq (pt_block (pt_seq (Pt.world fun z hz => ?_))))
      refine Pt.imp (M' := Mem z [] []) (fun w hw => hw ▸ Mem.refl z) (pt_region ?_)
      refine pt_val (by decide) rfl (val_indexAddr_slice (m := 2) k (o' + k * 2) rfl rfl Try.underlying58 Try.sizeOf61 rfl hk rfl) rfl ?_
      refine pt_val (by decide) rfl (val_load_elem (cells := fun y : Int × Int => [vI y.1, vI y.2]) (l := p) (o := o') (i := k) rfl Try.isAgg61 Try.sizeOf61 (fun _ _ => rfl) hk rfl (fun w hw => (fun k y hy => let ⟨b1, o1, e1, e2, _⟩ := hrd k y hy; ⟨b1, o1, e1, cell_rv' e2 (RV.trans hz (Mem.rv hw))⟩))) rfl ?_
      generalize p.getD k default = y at hgo
      refine pt_new (by decide) rfl (acts_alloc Try.zeroValue61) rfl fun t6 ht6 => ?_
      refine pt_do (by decide) rfl (does_store_all 0 (cs := [vI y.1, vI y.2]) rfl rfl rfl (by intro x hx; simp only [List.mem_cons, List.not_mem_nil, or_false] at hx; rcases hx with rfl | rfl <;> rfl) Try.sizeOf61 rfl rfl) fun _ _ => ?_
      refine Pt.imp (M' := Mem z [] [some (t6, blk [vI y.1, vI y.2] 61)]) (fun _ h => h) ?_
      refine pt_regionEnd (pt_seq ?_)
      refine pt_sw (by decide) (sw_endless (z := z) (t6 := t6) (o := y) rfl) (fun F' q hq => ?_) (fun ex F' q hne hq => hne hq.1)
      obtain ⟨-, h26, hkeep, hrq⟩ := hq
      refine pt_if h26 (fun hyes => ?_) (fun hnot => ?_)
      · refine pt_seq (pt_region ?_)
        haveI : Stb (fun x => x = q ∨ RV q x) := ⟨fun h hr => .inr (h.elim (fun e => e ▸ hr) fun h => RV.trans h hr)⟩
        refine Pt.imp (M' := fun x => x = q ∨ RV q x) (fun x hx => .inl hx) ?_
        refine pt_val (by decide) rfl (val_assign (v := .bool true) rfl) rfl ?_
        refine pt_regionEnd (pt_ret (fn := Try.f14) (v := .bool true) Try.func14 rfl (fun a hf => res_slot rfl rfl hf) fun w hw => g1 _ () w (hw.mono fun x hx => ⟨?_, (RV.trans hz hrq).trans (hx.elim (fun e => e ▸ RV.refl _) id)⟩))
        have : isEndless ps = true := by
          unfold isEndless
          rw [List.any_eq_true]
          refine ⟨p, List.mem_of_getElem? hpj, ?_⟩
          rw [List.any_eq_true]
          exact ⟨y, List.mem_of_getElem? hgo, decide_eq_true hyes⟩
        rw [this]
      · refine pt_skip (pt_inBlock ?_)
        refine Pt.weaken (F' := [(7, .slice (some ⟨b, o, none⟩) ps.length pc), (8, vInt ps.length), (9, vInt j), (13, .slice (some ⟨b', o', none⟩) p.length c), (14, vInt p.length), (15, vInt k)]) (M' := fun w => RV v w) ⟨hkeep 7 _ (by decide) rfl, hkeep 8 _ (by decide) rfl, hkeep 9 _ (by decide) rfl, hkeep 13 _ (by decide) rfl, hkeep 14 _ (by decide) rfl, hkeep 15 _ (by decide) rfl, trivial⟩ (fun w hw => hw ▸ RV.trans hz hrq) ?_
        refine pt_region ?_
        refine pt_val (by decide) rfl (val_add_int (a := (k : Int)) (b := 1) _ rfl rfl rfl (by omega)) rfl ?_ (tame_int rfl rfl)
        refine pt_val (by decide) rfl (val_move (v := vInt (k + 1 : Nat)) rfl) rfl ?_
        refine pt_regionEnd (Pt.weaken ?_ (fun _ h => h) (hloop2 (k + 1) ⟨hk, fun i y' hi hy' => ?_⟩ (by omega)))
        · exact ⟨rfl, rfl, rfl, rfl, rfl, rfl, trivial⟩
        · by_cases hik : i = k
          · subst hik; rw [hgo] at hy'; cases hy'; exact hnot
          · exact hno2 i y' (by omega) hy'
    · refine pt_exit rfl (pt_inBlock (pt_region ?_))
      refine pt_val (by decide) rfl (val_add_int (a := (j : Int)) (b := 1) _ rfl rfl rfl (by omega)) rfl ?_ (tame_int rfl rfl)
      refine pt_val (by decide) rfl (val_move (v := vInt (j + 1 : Nat)) rfl) rfl ?_
      refine pt_regionEnd (Pt.weaken ?_ (fun _ h => h) (hloop (j + 1) ⟨hj, fun i p' hi hp' => ?_⟩ (by omega)))
      · exact ⟨rfl, rfl, rfl, trivial⟩
      · by_cases hij : i = j
        · subst hij; rw [hpj] at hp'; cases hp'
          rw [List.any_eq_false]
          intro y hy
          obtain ⟨i2, hi2⟩ := List.mem_iff_getElem?.1 hy
          have := hno2 i2 y (by have := (List.getElem?_eq_some_iff.1 hi2).1; omega) hi2
          simpa using this
        · exact hno i p' (by omega) hp'
  · refine pt_exit rfl (pt_seq (pt_region ?_))
    refine pt_val (by decide) rfl (val_assign (v := .bool false) rfl) rfl ?_
    refine pt_regionEnd (pt_ret (fn := Try.f14) (v := .bool false) Try.func14 rfl (fun a hf => res_slot rfl rfl hf) fun w hw => g1 _ () w (hw.mono fun x hx => ⟨?_, hx⟩))
    have : isEndless ps = false := by
      unfold isEndless
      rw [List.any_eq_false]
      intro p hpm
      obtain ⟨i, hi⟩ := List.mem_iff_getElem?.1 hpm
      have := hno i p (by have := (List.getElem?_eq_some_iff.1 hi).1; omega) hi
      simp only [this, Bool.false_eq_true, not_false_eq_true]
    rw [this]
end
end Go.Bt
end
section
namespace Go.Sx
variable [Gnd]
open Go.Conc Go.Proofs
/-- It asks the program alone. -/
def _root_.Go.Sem.Lin {α : Type} (P : Program) : Sem α → Prop
  | .pure _ => True
  | .program k => (k P).Lin P
  | .halt _ => True
  | _ => False
variable {P : Program}
theorem lin_bind {α β : Type} : ∀ {s : Sem α} {f : α → Sem β}, s.Lin P → (∀ x, (f x).Lin P) → (s >>= f).Lin P
  | .pure a, _, _, hf => hf a
  | .program k, _, h, hf => lin_bind (s := k P) h hf
  | .halt _, _, _, _ => trivial
theorem lin_underlying (t : TypeId) : (underlying t).Lin P := by
  show Sem.Lin P (match P.underlying t with | some d => pure d | none => stuck "no such type" : Sem TypeDesc)
  cases P.underlying t <;> trivial
theorem lin_typeInfo (t : TypeId) : (typeInfo t).Lin P := by
  show Sem.Lin P (match P.info? t with | some d => pure d | none => stuck _ : Sem TypeInfo)
  cases P.info? t <;> trivial
theorem lin_isAgg (t : TypeId) : (isAgg t).Lin P := lin_bind (lin_underlying t) fun d => by cases d <;> trivial
theorem lin_sizeOf (t : TypeId) : (sizeOf t).Lin P := lin_bind (lin_typeInfo t) fun d => trivial
theorem lin_part (t : TypeId) (xs : Array Value) (k : Nat) : (part t xs k).Lin P := by
  unfold part
  refine lin_bind (lin_isAgg t) fun b => ?_
  split
  · exact lin_bind (lin_sizeOf t) fun _ => trivial
  · split <;> trivial
theorem lin_equal_int {d : Nat} {t : TypeId} {a b : Int} : (Op.equalIn (d + 1) t (vInt a) (vInt b)).Lin P := by
  unfold Op.equalIn vInt
  refine lin_bind (lin_underlying t) fun de => ?_
  cases de <;> trivial
theorem lin_equal_bool {d : Nat} {t : TypeId} {a b : Bool} : (Op.equalIn (d + 1) t (.bool a) (.bool b)).Lin P := by
  unfold Op.equalIn
  refine lin_bind (lin_underlying t) fun de => ?_
  cases de <;> trivial
theorem lin_lin {α β : Type} {u : α} {w : World} : ∀ {s : Sem α} {f : α → Sem β}, s.Lin P → s.run P w = .ok u w → (f u).Lin P → (s >>= f).Lin P
  | .pure a, _, _, hr, hf => by cases hr; exact hf
  | .program k, _, h, hr, hf => lin_lin (s := k P) h hr hf
  | .halt _, _, _, hr, _ => by cases hr
theorem lin_to_pl {α : Type} : ∀ {s : Sem α}, s.Lin P → s.Pl P
  | .pure _, _ => trivial
  | .program k, h => lin_to_pl (s := k P) h
  | .halt _, _ => trivial
/-- Two fields, of one cell each. -/
theorem lin_equal_two {d : Nat} {T : TypeId} {f0 f1 : Field} {x0 x1 y0 y1 : Value} (hT : P.underlying T = some (.struct #[f0, f1])) (h0 : f0.offset = 0) (h1 : f1.offset = 1) (hA0 : ∀ w, (isAgg f0.type).run P w = .ok false w) (hA1 : ∀ w, (isAgg f1.type).run P w = .ok false w)
    (e0 : (Op.equalIn (d + 1) f0.type x0 y0).Lin P) (e1 : (Op.equalIn (d + 1) f1.type x1 y1).Lin P) : (Op.equalIn (d + 2) T (.agg #[x0, x1]) (.agg #[y0, y1])).Lin P := by
  have hp : ∀ (t : TypeId) (xs : Array Value) (k : Nat) (u : Value), (∀ w, (isAgg t).run P w = .ok false w) → xs[k]? = some u → (part t xs k).run P default = .ok u default := fun t xs k u hA hx => by
    unfold part; simp [hA, hx]
  unfold Op.equalIn
  have hu : (underlying T).run P default = .ok (.struct #[f0, f1]) default := run_underlying hT default
  refine lin_lin (lin_underlying T) hu ?_
  dsimp only
  refine lin_bind (s := program) trivial fun p => ?_
  have body : ∀ (f : Field) (x y : Value) (k : Nat), f.offset = k → (∀ w, (isAgg f.type).run P w = .ok false w) → (#[x0, x1] : Array Value)[k]? = some x → (#[y0, y1] : Array Value)[k]? = some y → (Op.equalIn (d + 1) f.type x y).Lin P →
      Sem.Lin P (if f.name ≠ "_" then do
            let a ← part f.type #[x0, x1] f.offset
            let b ← part f.type #[y0, y1] f.offset
            let c ← Op.equalIn (d + 1) f.type a b
            if (!c) = true then pure (ForInStep.done (some false, ())) else pure (ForInStep.yield ((none : Option Bool), ()))
          else pure (ForInStep.yield (none, ()))) := fun f x y k hk hA hx hy he => by
    subst hk
    split
    · refine lin_lin (lin_part _ _ _) (hp _ _ _ _ hA hx) ?_
      refine lin_lin (lin_part _ _ _) (hp _ _ _ _ hA hy) ?_
      refine lin_bind he fun c => ?_
      split <;> trivial
    · trivial
  split
  · trivial
  · refine lin_bind ?_ fun r => ?_
    · rw [← Array.forIn_toList]
      simp only [List.forIn_cons, List.forIn_nil]
      refine lin_bind (body f0 x0 y0 0 h0 hA0 rfl rfl e0) fun r => ?_
      cases r with
      | done r => trivial
      | yield r =>
        refine lin_bind (body f1 x1 y1 1 h1 hA1 rfl rfl e1) fun r => ?_
        cases r <;> trivial
    · split <;> trivial
theorem tame_two {n : Nat} {F : Fr} {op : BinOp} {T V ty : TypeId} {x y : Operand} {xs ys : Array Value} (hx : ev F x = some (.agg xs)) (hy : ev F y = some (.agg ys)) (hg : P.eqGuardType P.depth T = false) (hl : (Op.equal T (.agg xs) (.agg ys)).Lin P) (ho : op = .eql ∨ op = .neq) : Tame P n F (.binOp op T x y V) ty := ⟨fun a hf _ _ _ _ => pl_v (by
  simp only [ev_eval hf hx, ev_eval hf hy]
  have hgd : (eqGuard op T x y (.agg xs) (.agg ys)).Pl P := by
    rcases ho with rfl | rfl
    · unfold eqGuard
      simp only [Bool.not_true, Bool.false_eq_true, if_false]
      show Sem.Pl P ((if (!P.eqGuardType P.depth T) = true then pure () else _ : Sem Unit))
      rw [hg]
      trivial
    · unfold eqGuard
      simp only [Bool.not_true, Bool.false_eq_true, if_false]
      show Sem.Pl P ((if (!P.eqGuardType P.depth T) = true then pure () else _ : Sem Unit))
      rw [hg]
      trivial
  refine pl_bind hgd fun _ => ?_
  rcases ho with rfl | rfl
  · exact pl_bind (lin_to_pl hl) fun _ => trivial
  · exact pl_bind (lin_to_pl hl) fun _ => trivial)⟩
end Go.Sx
end
section
namespace Go.Sx
variable [Gnd]
open Go.Conc Go.Proofs
theorem run_two {P : Program} {d : Nat} {T : TypeId} {f0 f1 : Field} {x0 x1 y0 y1 : Value} {b0 b1 : Bool} (hT : P.underlying T = some (.struct (P.fieldsOf T))) (hst : P.stoodInHeld T = false) (hf : (P.fieldsOf T).toList = [f0, f1]) (n0 : f0.name ≠ "_") (n1 : f1.name ≠ "_") (h0 : f0.offset = 0) (h1 : f1.offset = 1) (hA0 : ∀ w, (isAgg f0.type).run P w = .ok false w) (hA1 : ∀ w, (isAgg f1.type).run P w = .ok false w)
    (e0 : ∀ w, (Op.equalIn d f0.type x0 y0).run P w = .ok b0 w) (e1 : ∀ w, (Op.equalIn d f1.type x1 y1).run P w = .ok b1 w) (w : World) : (Op.equalIn (d + 1) T (.agg #[x0, x1]) (.agg #[y0, y1])).run P w = .ok (b0 && b1) w := by
  rw [run_equalIn_struct w d T _ _ hT hst, hf]
  simp only [Op.eqFields, n0, n1, ne_eq, not_false_eq_true, if_true, part, h0, h1]
  simp [hA0, hA1, e0]
  cases b0 with
  | false => simp
  | true =>
    simp [e1]
    cases b1 <;> rfl
end Go.Sx
namespace Go.Bt
variable [Gnd]
open Go.Conc Go.ConcN Go.RowKit Go.Proofs
open Go.Sx (vInt run_two lin_equal_two lin_equal_int)
theorem eq56 (a b c d : Int) (w : World) : (Op.equalIn (9999 + 1) 56 (.agg #[vInt a, vInt b]) (.agg #[vInt c, vInt d])).run Try.prog w = .ok (a == c && b == d) w :=
  run_two (f0 := { name := "Actor", type := 3, offset := 0, embedded := false, tag := "", pkgPath := "", byteOffset := 0 }) (f1 := { name := "V", type := 3, offset := 1, embedded := false, tag := "", pkgPath := "", byteOffset := 8 }) (by kernel_rfl) (by kernel_rfl) (by kernel_rfl) (by decide) (by decide) rfl rfl Try.isAgg3 Try.isAgg3 (fun w => run_equalIn_int w _ _ _ _ a c Try.underlying3) (fun w => run_equalIn_int w _ _ _ _ b d Try.underlying3) w
set_option maxRecDepth 100000 in
theorem lin56' (dd : Nat) (a b c d : Int) : (Op.equalIn (dd + 2) 56 (.agg #[vInt a, vInt b]) (.agg #[vInt c, vInt d])).Lin Try.prog :=
  lin_equal_two (P := Try.prog) (d := dd) (T := 56) (f0 := { name := "Actor", type := 3, offset := 0, embedded := false, tag := "", pkgPath := "", byteOffset := 0 }) (f1 := { name := "V", type := 3, offset := 1, embedded := false, tag := "", pkgPath := "", byteOffset := 8 }) (x0 := vInt a) (x1 := vInt b) (y0 := vInt c) (y1 := vInt d) Try.underlying56 rfl rfl Try.isAgg3 Try.isAgg3 (lin_equal_int (d := dd)) (lin_equal_int (d := dd))
theorem equal_at (T : TypeId) (x y : Value) : ∃ dd, Op.equal T x y = Op.equalIn (dd + 2) T x y := ⟨9998, by unfold Op.equal Op.maxDepth; exact congrArg (fun n => Op.equalIn n T x y) (by decide)⟩
theorem lin_equal_of {P : Program} {T : TypeId} {x y : Value} (hl : ∀ d, (Op.equalIn (d + 2) T x y).Lin P) : (Op.equal T x y).Lin P :=
  (equal_at T x y).elim fun dd h => by rw [h]; exact hl dd
set_option maxRecDepth 100000 in
theorem lin56 (a b c d : Int) : (Op.equal 56 (.agg #[vInt a, vInt b]) (.agg #[vInt c, vInt d])).Lin Try.prog := lin_equal_of fun dd => lin56' dd a b c d
open Go.Sx (Rly RV pz Co blk Rd Mem CallV Pt callV_of_callI callI_of_pt pt_seq pt_region pt_regionEnd pt_val pt_ret pt_block pt_inBlock pt_exit pt_if pt_skip pt_draw pt_loop_inv lz_val val_assign val_move val_len val_load_elem val_indexAddr_slice val_lss_int val_add_int val_neq_int val_neq_agg tame_int tame_two res_slot)
section
variable {v : World} [C : Co Try.prog]
set_option maxRecDepth 100000 in
set_option maxHeartbeats 4000000 in
theorem notes_v {a1 a2 : Option Addr} {c1 c2 : Nat} {l1 l2 : List (Int × Int)} (h1 : Rd v a1 (flatB l1)) (h2 : Rd v a2 (flatB l2)) (hl : l1.length ≤ 4611686018427387904) :
    CallV Try.prog 18 #[.slice a1 l1.length c1, .slice a2 l2.length c2] v (fun r u => r = .returned (.bool (decide (l1 = l2))) ∧ RV v u) := by
  refine callV_of_callI (callI_of_pt (vs := [.slice a1 l1.length c1, .slice a2 l2.length c2]) Try.func18 rfl rfl fun cf cs g1 g2 => ?_)
  refine Pt.imp (M' := fun u => RV v u) (fun u hu => hu ▸ RV.refl _) ?_
  refine pt_seq (pt_region ?_)
  refine pt_val (by decide) rfl (val_assign (v := .bool false) rfl) rfl ?_
  refine pt_regionEnd (pt_seq (pt_seq (pt_region ?_)))
  refine pt_val (by decide) rfl (val_move (v := .slice a1 l1.length c1) rfl) rfl ?_
  refine pt_val (by decide) rfl (val_len (len := l1.length) rfl Try.underlying32) rfl ?_
  refine pt_val (by decide) rfl (val_move (v := .slice a2 l2.length c2) rfl) rfl ?_
  refine pt_val (by decide) rfl (val_len (len := l2.length) rfl Try.underlying32) rfl ?_
  refine pt_val (by decide) rfl (val_neq_int (a := (l1.length : Int)) (b := (l2.length : Int)) rfl rfl) rfl ?_ (tame_int rfl rfl)
  refine pt_regionEnd (pt_if rfl (fun hne => ?_) (fun heq => pt_skip ?_))
  · refine pt_seq (pt_region ?_)
    refine pt_val (by decide) rfl (val_assign (v := .bool false) rfl) rfl ?_
    refine pt_regionEnd (pt_ret (fn := Try.f18) (v := .bool false) Try.func18 rfl (fun a hf => res_slot rfl rfl hf) fun w hw => g1 _ () w (hw.mono fun x hx => ⟨?_, hx⟩))
    rw [decide_eq_false (fun e => hne (by rw [e]))]
  have hlen : l1.length = l2.length := by omega
  refine pt_seq (pt_seq (pt_region ?_))
  refine pt_val (by decide) rfl (val_move (v := .slice a1 l1.length c1) rfl) rfl ?_
  refine pt_val (by decide) rfl (val_len (len := l1.length) rfl Try.underlying32) rfl ?_
  refine pt_val (by decide) rfl (val_move (v := vInt (0 : Nat)) rfl) rfl ?_
  refine pt_regionEnd (pt_block ?_)
  refine pt_loop_inv (fun j : Nat => j ≤ l1.length ∧ ∀ i : Nat, i < j → l1[i]? = l2[i]?) (fun j => [(12, vInt l1.length), (13, vInt j), (0, .slice a1 l1.length c1), (1, .slice a2 l2.length c2)]) (fun _ => ()) (fun _ z => RV v z) (fun j => l1.length - j) 0 ⟨Nat.zero_le _, fun _ h => by omega⟩ ⟨rfl, rfl, rfl, rfl, trivial⟩ rfl (fun _ h => h) ?_
  rintro j ⟨hle, hsame⟩ hloop
  refine pt_seq (pt_region ?_)
  refine pt_val (by decide) rfl (val_lss_int (a := (j : Int)) (b := (l1.length : Int)) rfl rfl) rfl ?_ (tame_int rfl rfl)
  refine pt_regionEnd (pt_seq (pt_if rfl (fun hlt => ?_) (fun hge => ?_)))
  · have hj : j < l1.length := by omega
    have hj2 : j < l2.length := by omega
    obtain ⟨b1, o1, rfl, _⟩ := h1 (2 * j) _ (flatB_get (get_getD hj)).1
    obtain ⟨b2, o2, rfl, _⟩ := h2 (2 * j) _ (flatB_get (get_getD hj2)).1
    refine pt_skip (pt_seq (pt_block (pt_seq (pt_region ?_))))
    refine pt_val (by decide) rfl (val_move (v := vInt j) rfl) rfl ?_
    refine pt_val (by decide) rfl (val_assign (v := vInt j) rfl) rfl ?_
    refine pt_regionEnd (pt_seq ?_)
    refine pt_draw (S := fun u => RV v u) 8 [0, 1, 2, 3, 4, 5, 6, 7] [] (by kernel_rfl) (by decide) (by kernel_rfl) (by kernel_rfl) (by kernel_rfl) (fun t => (Go.Sx.go_forced (L := 8) (by kernel_rfl)).trans (congrArg (8 :: ·) Go.Sx.go_end)) (by kernel_rfl) (fun _ h => h) ?_
    refine lz_val rfl (val_move (v := .slice (some ⟨b1, o1, none⟩) l1.length c1) rfl) rfl ?_
    refine lz_val rfl (val_move (v := vInt j) rfl) rfl ?_
    refine lz_val rfl (val_indexAddr_slice (m := 2) j (o1 + j * 2) rfl rfl Try.underlying32 Try.sizeOf56 rfl hj rfl) rfl ?_
    refine lz_val rfl (val_load_elem (cells := fun y : Int × Int => [vI y.1, vI y.2]) (l := l1) (o := o1) (i := j) rfl Try.isAgg56 Try.sizeOf56 (fun _ _ => rfl) hj rfl (fun w hw => (fun k y hy => let ⟨b', o', e1, e2⟩ := h1 k y hy; ⟨b', o', e1, cell_rv' e2 hw⟩))) rfl ?_
    refine lz_val rfl (val_move (v := .slice (some ⟨b2, o2, none⟩) l2.length c2) rfl) rfl ?_
    refine lz_val rfl (val_move (v := vInt j) rfl) rfl ?_
    refine lz_val rfl (val_indexAddr_slice (m := 2) j (o2 + j * 2) rfl rfl Try.underlying32 Try.sizeOf56 rfl hj2 rfl) rfl ?_
    refine lz_val rfl (val_load_elem (cells := fun y : Int × Int => [vI y.1, vI y.2]) (l := l2) (o := o2) (i := j) rfl Try.isAgg56 Try.sizeOf56 (fun _ _ => rfl) hj2 rfl (fun w hw => (fun k y hy => let ⟨b', o', e1, e2⟩ := h2 k y hy; ⟨b', o', e1, cell_rv' e2 hw⟩))) rfl ?_
    show Pt _ _ _ _ _ _ _ _
    have hg1 := get_getD hj
    have hg2 := get_getD hj2
    generalize l1.getD j default = x at hg1
    generalize l2.getD j default = y at hg2
    refine pt_val (by decide) rfl (val_neq_agg (xs := #[vInt x.1, vInt x.2]) (ys := #[vInt y.1, vInt y.2]) rfl rfl (by kernel_rfl) (fun w => eq56 x.1 x.2 y.1 y.2 w)) rfl ?_ (tame_two (xs := #[vInt x.1, vInt x.2]) (ys := #[vInt y.1, vInt y.2]) rfl rfl (by kernel_rfl) (lin56 x.1 x.2 y.1 y.2) (.inr rfl))
    refine pt_regionEnd (Go.Sx.pt_cond rfl (fun hb => ?_) (fun hb => ?_))
    · refine pt_seq (pt_region ?_)
      refine pt_val (by decide) rfl (val_assign (v := .bool false) rfl) rfl ?_
      refine pt_regionEnd (pt_ret (fn := Try.f18) (v := .bool false) Try.func18 rfl (fun a hf => res_slot rfl rfl hf) fun w hw => g1 _ () w (hw.mono fun q hq => ⟨?_, hq⟩))
      rw [decide_eq_false (fun e => ?_)]
      subst e
      rw [hg1] at hg2; cases hg2
      simp at hb
    · refine pt_skip (pt_inBlock (pt_region ?_))
      have hxy : x = y := by
        have hb : (!(x.1 == y.1 && x.2 == y.2)) = false := hb
        simp only [Bool.not_eq_false', Bool.and_eq_true, beq_iff_eq] at hb
        exact Prod.ext hb.1 hb.2
      refine pt_val (by decide) rfl (val_add_int (a := (j : Int)) (b := 1) _ rfl rfl rfl (by omega)) rfl ?_ (tame_int rfl rfl)
      refine pt_val (by decide) rfl (val_move (v := vInt (j + 1 : Nat)) rfl) rfl ?_
      refine pt_regionEnd (Pt.weaken ?_ (fun _ h => h) (hloop (j + 1) ⟨hj, fun i hi => ?_⟩ (by omega)))
      · exact ⟨rfl, rfl, rfl, rfl, trivial⟩
      · by_cases hij : i = j
        · subst hij; rw [hg1, hg2, hxy]
        · exact hsame i (by omega)
  · refine pt_exit rfl (pt_seq (pt_region ?_))
    refine pt_val (by decide) rfl (val_assign (v := .bool true) rfl) rfl ?_
    refine pt_regionEnd (pt_ret (fn := Try.f18) (v := .bool true) Try.func18 rfl (fun a hf => res_slot rfl rfl hf) fun w hw => g1 _ () w (hw.mono fun q hq => ⟨?_, hq⟩))
    rw [decide_eq_true (List.ext_getElem? fun i => ?_)]
    by_cases hi : i < l1.length
    · exact hsame i (by omega)
    · rw [List.getElem?_eq_none (by omega), List.getElem?_eq_none (by omega)]
end
end Go.Bt
end
section
namespace Go.Bt
variable [Gnd]
open Go.Conc Go.ConcN Go.RowKit Go.Proofs
open Go.Sx (vInt RV Co SW Stb sw_region_lex lw_pure lw_held lw_nil lwg_pure lwg_held lwg_no val_move val_indexAddr_slice val_fieldAddr val_load val_neq_int val_neq_bool val_pick_true val_pick_false tame_int tame_bool wg)
section
variable {v : World} [C : Co Try.prog]
theorem look_ge {t m : Nat} (h : t < 14) (hm : 14 ≤ m) : Nat.beq m t = false := by
  cases e : Nat.beq m t with
  | false => rfl
  | true => have := Nat.eq_of_beq_eq_true e; omega
noncomputable def r17 : Code := match Try.f17.body with
  | some (.seq _ (.seq _ (.seq (.seq _ (.block _ (.loop (.seq _ (.seq _ (.seq (.block _ (.seq _ (.seq c _))) _)))))) _))) => c
  | _ => .skip
set_option maxRecDepth 100000 in
set_option maxHeartbeats 4000000 in
theorem sw_alike {b1 o1 b2 o2 n1 n2 c1 c2 j : Nat} {x y : Int × Bool} {F : Go.Sx.Fr} (h0 : Go.Sx.look F 0 = some (.slice (some ⟨b1, o1, none⟩) n1 c1)) (h1 : Go.Sx.look F 1 = some (.slice (some ⟨b2, o2, none⟩) n2 c2)) (h5 : Go.Sx.look F 5 = some (vInt j)) (hj1 : j < n1) (hj2 : j < n2)
    (k1 : v.cell? ⟨b1, o1 + j * 2, none⟩ = some (vInt x.1)) (k2 : v.cell? ⟨b1, o1 + j * 2 + 1, none⟩ = some (.bool x.2)) (k3 : v.cell? ⟨b2, o2 + j * 2, none⟩ = some (vInt y.1)) (k4 : v.cell? ⟨b2, o2 + j * 2 + 1, none⟩ = some (.bool y.2)) :
    SW Try.prog 41 r17 F (fun w => RV v w) (fun ex F' w => ex = .normal ∧ Go.Sx.look F' 39 = some (.bool (!(x.1 == y.1 && x.2 == y.2))) ∧ (∀ t u, t < 14 → Go.Sx.look F t = some u → Go.Sx.look F' t = some u) ∧ RV v w) := by
  show SW Try.prog 41 (Code.region 6 _ true) _ _ _
  by_cases hne : x.1 = y.1
  · refine sw_region_lex (fun w => RV v w) [] [(0, 0), (1, 0), (2, 0), (3, 0), (4, 1), (5, 0), (6, 0), (7, 0), (8, 0), (9, 1), (10, 0), (11, 0), (12, 0), (13, 0), (14, 0), (15, 0), (16, 1), (17, 0), (18, 0), (19, 0), (20, 0), (21, 1), (22, 0), (23, 0)] (by kernel_rfl) (by kernel_rfl) (fun c F w h => by cases h.1) (fun _ h => h) (fun w h => ⟨h.tape, h.os, h.output, h.heap⟩) ?_
    refine lw_pure rfl (val_move (v := .slice (some ⟨b1, o1, none⟩) n1 c1) (by exact h0)) rfl ?_
    refine lw_pure rfl (val_move (v := vInt j) (by exact h5)) rfl ?_
    refine lw_pure rfl (val_indexAddr_slice (m := 2) j (o1 + j * 2) rfl rfl Try.underlying28 Try.sizeOf43 rfl hj1 rfl) rfl ?_
    refine lw_pure rfl (val_fieldAddr (b := b1) (o := o1 + j * 2) (e := o1 + j * 2) rfl Try.underlying43 rfl rfl Try.sizeOf3 rfl) rfl ?_
    refine lw_held rfl (val_load rfl Try.isAgg3 (v := vInt x.1) (fun w h => cell_rv' k1 h)) rfl ?_
    refine lw_pure rfl (val_move (v := .slice (some ⟨b2, o2, none⟩) n2 c2) (by exact h1)) rfl ?_
    refine lw_pure rfl (val_move (v := vInt j) (by exact h5)) rfl ?_
    refine lw_pure rfl (val_indexAddr_slice (m := 2) j (o2 + j * 2) rfl rfl Try.underlying33 Try.sizeOf66 rfl hj2 rfl) rfl ?_
    refine lw_pure rfl (val_fieldAddr (b := b2) (o := o2 + j * 2) (e := o2 + j * 2) rfl Try.underlying66 rfl rfl Try.sizeOf3 rfl) rfl ?_
    refine lw_held rfl (val_load rfl Try.isAgg3 (v := vInt y.1) (fun w h => cell_rv' k3 h)) rfl ?_
    refine lw_pure rfl (val_neq_int (a := x.1) (b := y.1) rfl rfl) rfl ?_ (hT := tame_int rfl rfl)
    refine lw_pure rfl (val_move (v := .bool (decide (x.1 ≠ y.1))) rfl) rfl ?_
    rw [decide_eq_false (show ¬ x.1 ≠ y.1 from fun h => h hne)]
    refine lwg_pure rfl (wg rfl rfl) (val_move (v := .slice (some ⟨b1, o1, none⟩) n1 c1) (by exact h0)) rfl ?_
    refine lwg_pure rfl (wg rfl rfl) (val_move (v := vInt j) (by exact h5)) rfl ?_
    refine lwg_pure rfl (wg rfl rfl) (val_indexAddr_slice (m := 2) j (o1 + j * 2) rfl rfl Try.underlying28 Try.sizeOf43 rfl hj1 rfl) rfl ?_
    refine lwg_pure rfl (wg rfl rfl) (val_fieldAddr (b := b1) (o := o1 + j * 2) (e := o1 + j * 2 + 1) rfl Try.underlying43 rfl rfl Try.sizeOf4 rfl) rfl ?_
    refine lwg_held rfl (wg rfl rfl) (val_load rfl Try.isAgg4 (v := .bool x.2) (fun w h => cell_rv' k2 h)) rfl ?_
    refine lwg_pure rfl (wg rfl rfl) (val_move (v := .slice (some ⟨b2, o2, none⟩) n2 c2) (by exact h1)) rfl ?_
    refine lwg_pure rfl (wg rfl rfl) (val_move (v := vInt j) (by exact h5)) rfl ?_
    refine lwg_pure rfl (wg rfl rfl) (val_indexAddr_slice (m := 2) j (o2 + j * 2) rfl rfl Try.underlying33 Try.sizeOf66 rfl hj2 rfl) rfl ?_
    refine lwg_pure rfl (wg rfl rfl) (val_fieldAddr (b := b2) (o := o2 + j * 2) (e := o2 + j * 2 + 1) rfl Try.underlying66 rfl rfl Try.sizeOf4 rfl) rfl ?_
    refine lwg_held rfl (wg rfl rfl) (val_load rfl Try.isAgg4 (v := .bool y.2) (fun w h => cell_rv' k4 h)) rfl ?_
    refine lwg_pure rfl (wg rfl rfl) (val_neq_bool (a := x.2) (b := y.2) Try.underlying4 rfl rfl) rfl ?_ (hT := tame_bool rfl rfl)
    refine lw_pure rfl (val_pick_false (v := .bool (!(x.2 == y.2))) rfl rfl) rfl ?_
    refine lw_nil fun w hw => ⟨rfl, ?_, fun t u ht hl => ?_, hw⟩
    · show some (Value.bool _) = _
      simp [hne]
    · simp only [Go.Sx.look, look_ge ht (show 14 ≤ 16 by omega), look_ge ht (show 14 ≤ 17 by omega), look_ge ht (show 14 ≤ 18 by omega), look_ge ht (show 14 ≤ 19 by omega), look_ge ht (show 14 ≤ 20 by omega), look_ge ht (show 14 ≤ 21 by omega), look_ge ht (show 14 ≤ 22 by omega), look_ge ht (show 14 ≤ 23 by omega), look_ge ht (show 14 ≤ 24 by omega), look_ge ht (show 14 ≤ 25 by omega), look_ge ht (show 14 ≤ 26 by omega), look_ge ht (show 14 ≤ 27 by omega), look_ge ht (show 14 ≤ 28 by omega), look_ge ht (show 14 ≤ 29 by omega), look_ge ht (show 14 ≤ 30 by omega), look_ge ht (show 14 ≤ 31 by omega), look_ge ht (show 14 ≤ 32 by omega), look_ge ht (show 14 ≤ 33 by omega), look_ge ht (show 14 ≤ 34 by omega), look_ge ht (show 14 ≤ 35 by omega), look_ge ht (show 14 ≤ 36 by omega), look_ge ht (show 14 ≤ 37 by omega), look_ge ht (show 14 ≤ 38 by omega), look_ge ht (show 14 ≤ 39 by omega), cond_false]
      exact hl
  · refine sw_region_lex (fun w => RV v w) [] [(0, 0), (1, 0), (2, 0), (3, 0), (4, 1), (5, 0), (6, 0), (7, 0), (8, 0), (9, 1), (10, 0), (11, 0), (12, 0), (13, 0), (14, 0), (15, 0), (16, 0), (17, 0), (18, 0), (19, 0), (20, 0), (21, 0), (22, 0), (23, 0)] (by kernel_rfl) (by kernel_rfl) (fun c F w h => by cases h.1) (fun _ h => h) (fun w h => ⟨h.tape, h.os, h.output, h.heap⟩) ?_
    refine lw_pure rfl (val_move (v := .slice (some ⟨b1, o1, none⟩) n1 c1) (by exact h0)) rfl ?_
    refine lw_pure rfl (val_move (v := vInt j) (by exact h5)) rfl ?_
    refine lw_pure rfl (val_indexAddr_slice (m := 2) j (o1 + j * 2) rfl rfl Try.underlying28 Try.sizeOf43 rfl hj1 rfl) rfl ?_
    refine lw_pure rfl (val_fieldAddr (b := b1) (o := o1 + j * 2) (e := o1 + j * 2) rfl Try.underlying43 rfl rfl Try.sizeOf3 rfl) rfl ?_
    refine lw_held rfl (val_load rfl Try.isAgg3 (v := vInt x.1) (fun w h => cell_rv' k1 h)) rfl ?_
    refine lw_pure rfl (val_move (v := .slice (some ⟨b2, o2, none⟩) n2 c2) (by exact h1)) rfl ?_
    refine lw_pure rfl (val_move (v := vInt j) (by exact h5)) rfl ?_
    refine lw_pure rfl (val_indexAddr_slice (m := 2) j (o2 + j * 2) rfl rfl Try.underlying33 Try.sizeOf66 rfl hj2 rfl) rfl ?_
    refine lw_pure rfl (val_fieldAddr (b := b2) (o := o2 + j * 2) (e := o2 + j * 2) rfl Try.underlying66 rfl rfl Try.sizeOf3 rfl) rfl ?_
    refine lw_held rfl (val_load rfl Try.isAgg3 (v := vInt y.1) (fun w h => cell_rv' k3 h)) rfl ?_
    refine lw_pure rfl (val_neq_int (a := x.1) (b := y.1) rfl rfl) rfl ?_ (hT := tame_int rfl rfl)
    refine lw_pure rfl (val_move (v := .bool (decide (x.1 ≠ y.1))) rfl) rfl ?_
    rw [decide_eq_true (show x.1 ≠ y.1 from hne)]
    refine lwg_no rfl (Go.Sx.ng1 rfl rfl) rfl ?_
    refine lwg_no rfl (Go.Sx.ng1 rfl rfl) rfl ?_
    refine lwg_no rfl (Go.Sx.ng1 rfl rfl) rfl ?_
    refine lwg_no rfl (Go.Sx.ng1 rfl rfl) rfl ?_
    refine lwg_no rfl (Go.Sx.ng1 rfl rfl) rfl ?_
    refine lwg_no rfl (Go.Sx.ng1 rfl rfl) rfl ?_
    refine lwg_no rfl (Go.Sx.ng1 rfl rfl) rfl ?_
    refine lwg_no rfl (Go.Sx.ng1 rfl rfl) rfl ?_
    refine lwg_no rfl (Go.Sx.ng1 rfl rfl) rfl ?_
    refine lwg_no rfl (Go.Sx.ng1 rfl rfl) rfl ?_
    refine lwg_no rfl (Go.Sx.ng1 rfl rfl) rfl ?_
    refine lw_pure rfl (val_pick_true (v := .bool true) rfl rfl) rfl ?_
    refine lw_nil fun w hw => ⟨rfl, ?_, fun t u ht hl => ?_, hw⟩
    · show some (Value.bool _) = _
      simp [hne]
    · simp only [Go.Sx.look, look_ge ht (show 14 ≤ 16 by omega), look_ge ht (show 14 ≤ 17 by omega), look_ge ht (show 14 ≤ 18 by omega), look_ge ht (show 14 ≤ 19 by omega), look_ge ht (show 14 ≤ 20 by omega), look_ge ht (show 14 ≤ 21 by omega), look_ge ht (show 14 ≤ 22 by omega), look_ge ht (show 14 ≤ 23 by omega), look_ge ht (show 14 ≤ 24 by omega), look_ge ht (show 14 ≤ 25 by omega), look_ge ht (show 14 ≤ 26 by omega), look_ge ht (show 14 ≤ 27 by omega), look_ge ht (show 14 ≤ 28 by omega), look_ge ht (show 14 ≤ 29 by omega), look_ge ht (show 14 ≤ 30 by omega), look_ge ht (show 14 ≤ 31 by omega), look_ge ht (show 14 ≤ 32 by omega), look_ge ht (show 14 ≤ 33 by omega), look_ge ht (show 14 ≤ 34 by omega), look_ge ht (show 14 ≤ 35 by omega), look_ge ht (show 14 ≤ 36 by omega), look_ge ht (show 14 ≤ 37 by omega), look_ge ht (show 14 ≤ 38 by omega), look_ge ht (show 14 ≤ 39 by omega), cond_false]
      exact hl
end
end Go.Bt
namespace Go.Bt
variable [Gnd]
open Go.Conc Go.ConcN Go.RowKit Go.Proofs
open Go.Sx (vInt RV Co CallV Pt Rd callV_of_callI callI_of_pt pt_seq pt_region pt_regionEnd pt_val pt_ret pt_block pt_inBlock pt_exit pt_if pt_skip pt_sw pt_loop_inv val_assign val_move val_len val_lss_int val_add_int val_neq_int tame_int res_slot)
def flatM (l : List (Int × Bool)) : List Value := l.flatMap fun x => [vI x.1, .bool x.2]
theorem flatM_get {l : List (Int × Bool)} {j : Nat} {y : Int × Bool} (h : l[j]? = some y) : (flatM l)[j * 2]? = some (vI y.1) ∧ (flatM l)[j * 2 + 1]? = some (.bool y.2) := by
  induction l generalizing j with
  | nil => simp at h
  | cons a l ih =>
    cases j with
    | zero =>
      simp only [List.getElem?_cons_zero, Option.some.injEq] at h
      subst h
      exact ⟨rfl, rfl⟩
    | succ j =>
      rw [List.getElem?_cons_succ] at h
      have := ih h
      rw [show (j + 1) * 2 = j * 2 + 2 by omega]
      exact this
section
variable {v : World} [C : Co Try.prog]
set_option maxRecDepth 100000 in
set_option maxHeartbeats 4000000 in
theorem alike_v {a1 a2 : Option Addr} {c1 c2 : Nat} {l1 l2 : List (Int × Bool)} (h1 : Rd v a1 (flatM l1)) (h2 : Rd v a2 (flatM l2)) (hl : l1.length ≤ 4611686018427387904) :
    CallV Try.prog 17 #[.slice a1 l1.length c1, .slice a2 l2.length c2] v (fun r u => r = .returned (.bool (decide (l1 = l2))) ∧ RV v u) := by
  refine callV_of_callI (callI_of_pt (vs := [.slice a1 l1.length c1, .slice a2 l2.length c2]) Try.func17 rfl rfl fun cf cs g1 g2 => ?_)
  refine Pt.imp (M' := fun u => RV v u) (fun u hu => hu ▸ RV.refl _) ?_
  refine pt_seq (pt_region ?_)
  refine pt_val (by decide) rfl (val_assign (v := .bool false) rfl) rfl ?_
  refine pt_regionEnd (pt_seq (pt_seq (pt_region ?_)))
  refine pt_val (by decide) rfl (val_move (v := .slice a1 l1.length c1) rfl) rfl ?_
  refine pt_val (by decide) rfl (val_len (len := l1.length) rfl Try.underlying28) rfl ?_
  refine pt_val (by decide) rfl (val_move (v := .slice a2 l2.length c2) rfl) rfl ?_
  refine pt_val (by decide) rfl (val_len (len := l2.length) rfl Try.underlying33) rfl ?_
  refine pt_val (by decide) rfl (val_neq_int (a := (l1.length : Int)) (b := (l2.length : Int)) rfl rfl) rfl ?_ (tame_int rfl rfl)
  refine pt_regionEnd (pt_if rfl (fun hne => ?_) (fun heq => pt_skip ?_))
  · refine pt_seq (pt_region ?_)
    refine pt_val (by decide) rfl (val_assign (v := .bool false) rfl) rfl ?_
    refine pt_regionEnd (pt_ret (fn := Try.f17) (v := .bool false) Try.func17 rfl (fun a hf => res_slot rfl rfl hf) fun w hw => g1 _ () w (hw.mono fun x hx => ⟨?_, hx⟩))
    rw [decide_eq_false (fun e => hne (by rw [e]))]
  have hlen : l1.length = l2.length := by omega
  refine pt_seq (pt_seq (pt_region ?_))
  refine pt_val (by decide) rfl (val_move (v := .slice a1 l1.length c1) rfl) rfl ?_
  refine pt_val (by decide) rfl (val_len (len := l1.length) rfl Try.underlying28) rfl ?_
  refine pt_val (by decide) rfl (val_move (v := vInt (0 : Nat)) rfl) rfl ?_
  refine pt_regionEnd (pt_block ?_)
  refine pt_loop_inv (fun j : Nat => j ≤ l1.length ∧ ∀ i : Nat, i < j → l1[i]? = l2[i]?) (fun j => [(12, vInt l1.length), (13, vInt j), (0, .slice a1 l1.length c1), (1, .slice a2 l2.length c2)]) (fun _ => ()) (fun _ z => RV v z) (fun j => l1.length - j) 0 ⟨Nat.zero_le _, fun _ h => by omega⟩ ⟨rfl, rfl, rfl, rfl, trivial⟩ rfl (fun _ h => h) ?_
  rintro j ⟨hle, hsame⟩ hloop
  refine pt_seq (pt_region ?_)
  refine pt_val (by decide) rfl (val_lss_int (a := (j : Int)) (b := (l1.length : Int)) rfl rfl) rfl ?_ (tame_int rfl rfl)
  refine pt_regionEnd (pt_seq (pt_if rfl (fun hlt => ?_) (fun hge => ?_)))
  · have hj : j < l1.length := by omega
    have hj2 : j < l2.length := by omega
    have hg1 : l1[j]? = some l1[j] := List.getElem?_eq_getElem hj
    have hg2 : l2[j]? = some l2[j] := List.getElem?_eq_getElem hj2
    generalize l1[j] = x at hg1
    generalize l2[j] = y at hg2
    obtain ⟨b1, o1, rfl, k1⟩ := h1 (j * 2) _ (flatM_get hg1).1
    obtain ⟨b1', o1', e1, k2⟩ := h1 (j * 2 + 1) _ (flatM_get hg1).2
    obtain ⟨b2, o2, rfl, k3⟩ := h2 (j * 2) _ (flatM_get hg2).1
    obtain ⟨b2', o2', e2, k4⟩ := h2 (j * 2 + 1) _ (flatM_get hg2).2
    cases e1; cases e2
    refine pt_skip (pt_seq (pt_block (pt_seq (pt_region ?_))))
    refine pt_val (by decide) rfl (val_move (v := vInt j) rfl) rfl ?_
    refine pt_val (by decide) rfl (val_assign (v := vInt j) rfl) rfl ?_
    refine pt_regionEnd (pt_seq ?_)
    refine pt_sw (by decide) (sw_alike (b1 := b1) (o1 := o1) (b2 := b2) (o2 := o2) (x := x) (y := y) rfl rfl rfl hj hj2 k1 k2 k3 k4) (fun F' q hq => ?_) (fun ex F' q hne hq => hne hq.1)
    obtain ⟨-, h39, hkeep, hrq⟩ := hq
    refine Go.Sx.pt_cond h39 (fun hb => ?_) (fun hb => ?_)
    · refine Pt.imp (M' := fun z => RV q z) (fun z hz => hz ▸ RV.refl _) (pt_seq (pt_region ?_))
      refine pt_val (by decide) rfl (val_assign (v := .bool false) rfl) rfl ?_
      refine pt_regionEnd (pt_ret (fn := Try.f17) (v := .bool false) Try.func17 rfl (fun a hf => res_slot rfl rfl hf) fun w hw => g1 _ () w (hw.mono fun z hz => ⟨?_, RV.trans hrq hz⟩))
      rw [decide_eq_false (fun e => ?_)]
      subst e
      rw [hg1] at hg2; cases hg2
      simp at hb
    · refine pt_skip (pt_inBlock ?_)
      refine Pt.weaken (F' := [(12, vInt l1.length), (13, vInt j), (0, .slice (some ⟨b1, o1, none⟩) l1.length c1), (1, .slice (some ⟨b2, o2, none⟩) l2.length c2)]) (M' := fun z => RV v z) ⟨hkeep 12 _ (by decide) rfl, hkeep 13 _ (by decide) rfl, hkeep 0 _ (by decide) rfl, hkeep 1 _ (by decide) rfl, trivial⟩ (fun z hz => hz ▸ hrq) (pt_region ?_)
      have hxy : x = y := by
        have hb : (!(x.1 == y.1 && x.2 == y.2)) = false := hb
        simp only [Bool.not_eq_false', Bool.and_eq_true, beq_iff_eq] at hb
        exact Prod.ext hb.1 hb.2
      refine pt_val (by decide) rfl (val_add_int (a := (j : Int)) (b := 1) _ rfl rfl rfl (by omega)) rfl ?_ (tame_int rfl rfl)
      refine pt_val (by decide) rfl (val_move (v := vInt (j + 1 : Nat)) rfl) rfl ?_
      refine pt_regionEnd (Pt.weaken ?_ (fun _ h => h) (hloop (j + 1) ⟨hj, fun i hi => ?_⟩ (by omega)))
      · exact ⟨rfl, rfl, rfl, rfl, trivial⟩
      · by_cases hij : i = j
        · subst hij; rw [hg1, hg2, hxy]
        · exact hsame i (by omega)
  · refine pt_exit rfl (pt_seq (pt_region ?_))
    refine pt_val (by decide) rfl (val_assign (v := .bool true) rfl) rfl ?_
    refine pt_regionEnd (pt_ret (fn := Try.f17) (v := .bool true) Try.func17 rfl (fun a hf => res_slot rfl rfl hf) fun w hw => g1 _ () w (hw.mono fun q hq => ⟨?_, hq⟩))
    rw [decide_eq_true (List.ext_getElem? fun i => ?_)]
    by_cases hi : i < l1.length
    · exact hsame i (by omega)
    · rw [List.getElem?_eq_none (by omega), List.getElem?_eq_none (by omega)]
end
end Go.Bt
end
