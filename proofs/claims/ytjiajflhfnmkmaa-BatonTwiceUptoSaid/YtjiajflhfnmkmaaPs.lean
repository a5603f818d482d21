/- A PLAY OF THE BATON: what the row rests on. -/
import Derived.Test.YtjiajflhfnmkmaaPr
import Derived.Test.YtjiajflhfnmkmaaPn
import Derived.Test.YtjiajflhfnmkmaaPq
import Derived.Test.YtjiajflhfnmkmaaPo
import Derived.JoinedCond
import Derived.Conc.LeavingOf
import Derived.Test.YtjiajflhfnmkmaaRows
import Derived.ProofKit
import Derived.LaidLaws
set_option linter.unusedVariables false
set_option linter.unusedSimpArgs false
set_option linter.unusedSectionVars false
section
namespace Go.Bt
variable [Gnd]
open Go.Conc Go.ConcN Go.RowKit Go.Proofs
open Go.Sx (Rly RV pz pzo pz_heap spec isWg Gud Co blk RowE Rd Mem CallV vInt SW Sub callV_of_callI callI_of_pt CallI Pt pt_seq pt_sw pt_back pt_ret pt_retM pt_region pt_regionEnd pt_val pt_block pt_inBlock pt_exit pt_if pt_cond pt_skip pt_do pt_draw pt_call pt_act pt_loop_inv val_assign val_move val_build' val_load val_nilCheck val_fieldAddr val_len val_geq_int val_lss_int val_eql_int val_add_int val_rem_int val_rem_to val_load_elem val_load_at val_load_all val_indexAddr_slice val_pick_true val_pick_false acts_alloc does_store_all does_store_to tame_nilCheck tame_int callsTo res_nothing res_slot res_cell Lf ReI Stb re_fall pick_v slots rowE_set look upd pick keys mem_of_rv sw_16_3 sw_16_7 sw_16_8 sw_16_9 sw_16_19)
section
variable {v z : World} {pv : Value} {ps : List (List Ins)} {qs : List Int}
theorem OrdV.grow {b : Nat} (h : OrdV v b) (hr : RV v z) : OrdV z b := let ⟨o, h1, h2⟩ := h; ⟨o, hr.heap b o h1, h2⟩
theorem VRd.grow {a : Option Addr} {xs : List Value} (h : VRd v a xs) (hr : RV v z) : VRd z a xs := fun j y hy => let ⟨b, o, e1, e2, e3⟩ := h j y hy; ⟨b, o, e1, cell_rv' e2 hr, e3.grow hr⟩
theorem PrgV.grow (h : PrgV v pv ps) (hr : RV v z) : PrgV z pv ps where
  ex := let ⟨pa, pc, h1, h2⟩ := h.ex; ⟨pa, pc, h1, fun i p hp => let ⟨b, o, a, c, g1, g2, g3, g4⟩ := h2 i p hp; ⟨b, o, a, c, g1, cell_rv' g2 hr, g3.grow hr, g4.grow hr⟩⟩
  len := h.len
theorem MAt.rv {sb : Nat} {acs : List Ac} {B : Bd} {mv : List (Int × Bool)} {w : World} (h : MAt v sb pv acs B mv w) : RV v w :=
  let ⟨_, _, _, _, _, _, _, _, _, _, _, _, _, _, _, h6⟩ := h.ex; Mem.rv h6
/-- The machine that Play hands back. -/
structure RefM (v : World) (pv : Value) (m : Mac) (r : Value) (u : World) : Prop where
  ex : ∃ s1 s2 s3 bs ms eb em, r = .agg #[pv, s1, s2, s3, bs, ms] ∧ (s1.oneCell' = true ∧ s2.oneCell' = true ∧ s3.oneCell' = true) ∧ RowE bs 56 2 m.bd.notes.length (flatB m.bd.notes) eb ∧ RowE ms 66 2 m.moves.length (flatM m.moves) em ∧ Mem v [] [eb, em] u
variable [C : Co Try.prog]
/-- A pick of the machine that is played. -/
theorem rstep_v {sb k : Nat} {q : Int} (hF : Fit ps qs) (hn : 0 < ps.length) (hG : PrgV z pv ps) (hk : k + 1 ≤ 104000) (hw : (whoOf ps.length qs k : Int) = q % (ps.length : Int)) (hM : MAt z sb pv (macN ps qs k).acs (macN ps qs k).bd (macN ps qs k).moves v) :
    CallV Try.prog 26 #[vPtr sb, vI q] v (fun r u => r = .returned (.bool (movedN ps qs k)) ∧ MAt z sb pv (macN ps qs (k + 1)).acs (macN ps qs (k + 1)).bd (macN ps qs (k + 1)).moves u) := by
  have h1 := (mac_len (qs := qs) hn k).2
  have h2 := hF.notes hn (k := k) (by omega)
  have h3 := hF.pl (whoOf ps.length qs k)
  have h4 := hF.n
  refine (rpick_v (a := whoOf ps.length qs k) hn (by omega) hG (mac_ok hn k) hw.symm (by omega) (by omega) hM).mono fun r u hu => ⟨?_, hu.2⟩
  rw [hu.1, h1]; rfl
theorem repl_pl (i : Nat) : plL (List.replicate (i + 1) ⟨-1, false, false⟩) = plL (List.replicate i ⟨-1, false, false⟩) ++ [vI (-1)] := by
  unfold plL; rw [List.replicate_succ', List.map_append]; rfl
theorem repl_wt (i : Nat) : wtL (List.replicate (i + 1) ⟨-1, false, false⟩) = wtL (List.replicate i ⟨-1, false, false⟩) ++ [.bool false] := by
  unfold wtL; rw [List.replicate_succ', List.map_append]; rfl
theorem repl_ov (i : Nat) : ovL (List.replicate (i + 1) ⟨-1, false, false⟩) = ovL (List.replicate i ⟨-1, false, false⟩) ++ [.bool false] := by
  unfold ovL; rw [List.replicate_succ', List.map_append]; rfl
set_option maxRecDepth 100000 in
set_option maxHeartbeats 16000000 in
/-- The document's Play. -/
theorem rplay_v {qa : Option Addr} {cap : Nat} {calm : Bool} (hF : Fit ps qs) (hG : PrgV v pv ps) (hQ : QV v qa qs) :
    CallV Try.prog 16 #[pv, .slice qa qs.length cap, .bool calm] v (fun r u => ∃ x, r = .returned x ∧ RefM v pv (finM ps qs calm) x u) := by
  have hf1 := hF.n
  have hf3 := hF.q
  obtain ⟨pa, pc, hpv, _⟩ := hG.ex
  have hone : pv.oneCell' = true := by rw [hpv]; rfl
  refine callV_of_callI (callI_of_pt (vs := [pv, .slice qa qs.length cap, .bool calm]) Try.func16 rfl rfl fun cf cs g1 g2 => ?_)
  refine Pt.imp (M' := Mem v [] []) (fun w hw => hw ▸ Mem.refl v) (pt_seq (pt_region ?_))
  refine pt_new (by decide) rfl (acts_alloc Try.zeroValue35) rfl fun t6 ht6 => ?_
  refine pt_regionEnd (pt_seq (Pt.world fun z hz => ?_))
  have hGz := hG.grow (Mem.rv hz)
  refine Pt.imp (M' := Mem z [] []) (fun w hw => hw ▸ Mem.refl z) (pt_region ?_)
  refine pt_val (by decide) rfl (val_move (v := pv) rfl) rfl ?_
  refine pt_val (by decide) rfl (val_build' (parts := _) (vs := [(0, pv)]) (cs := [pv, .slice none 0 0, .slice none 0 0, .slice none 0 0, .slice none 0 0, .slice none 0 0]) rfl (by rw [hpv]; kernel_rfl)) rfl ?_
  refine pt_new (by decide) rfl (acts_alloc Try.zeroValue35) rfl fun sb hsb => ?_
  refine pt_do (by decide) rfl (does_store_all 0 (cs := [pv, .slice none 0 0, .slice none 0 0, .slice none 0 0, .slice none 0 0, .slice none 0 0]) rfl rfl rfl (by intro x hx; simp only [List.mem_cons, List.not_mem_nil, or_false] at hx; rcases hx with rfl | rfl | rfl | rfl | rfl | rfl <;> first | exact hone | rfl) Try.sizeOf35 rfl rfl) fun _ _ => ?_
  refine Pt.imp (M' := Mem z [] [some (sb, blk [pv, .slice none 0 0, .slice none 0 0, .slice none 0 0, .slice none 0 0, .slice none 0 0] 35)]) (fun _ h => h) ?_
  refine pt_regionEnd (pt_seq (pt_region ?_))
  refine pt_val (by decide) rfl (val_move (v := pv) rfl) rfl ?_
  refine pt_val (by decide) rfl (val_len (a := pa) (len := ps.length) (cap := pc) (by rw [← hpv]; rfl) Try.underlying22) rfl ?_
  refine pt_val (by decide) rfl (val_assign (v := vInt ps.length) rfl) rfl ?_
  refine pt_regionEnd (pt_seq (pt_seq ?_))
  refine Pt.weaken (F' := [(7, vPtr sb), (0, pv), (1, .slice qa qs.length cap), (2, .bool calm), (6, vPtr t6), (8, vInt ps.length)]) ⟨rfl, rfl, rfl, rfl, rfl, rfl, trivial⟩ (fun _ h => h) ?_
  refine pt_sw (by decide) (sw_16_3 (M := Mem z [] [some (sb, blk [pv, .slice none 0 0, .slice none 0 0, .slice none 0 0, .slice none 0 0, .slice none 0 0] 35)])) (fun F' y hq => ?_) (fun ex F' y hne hq => hne hq.1)
  obtain ⟨-, hFs, hy⟩ := hq
  refine Pt.weaken hFs (M' := Mem z [] [some (sb, blk [pv, .slice none 0 0, .slice none 0 0, .slice none 0 0, .slice none 0 0, .slice none 0 0] 35)]) (fun w hw => hw ▸ hy) ?_
  clear hFs hy
  refine pt_if rfl (fun hbad => ?_) (fun hok => pt_skip ?_)
  · -- nobody
    have h0 : ps.length = 0 := by omega
    obtain rfl : ps = [] := List.length_eq_zero_iff.1 h0
    refine Pt.world fun w hm => ?_
    have hmc := hz.call hm
    refine Pt.imp (fun u hu => hu ▸ hmc) (pt_seq (pt_region ?_))
    refine pt_val (by decide) rfl (val_load_all 0 rfl rfl Try.isAgg35 Try.sizeOf35 rfl) rfl ?_
    refine pt_do (by decide) rfl (does_store_all 1 (cs := [pv, .slice none 0 0, .slice none 0 0, .slice none 0 0, .slice none 0 0, .slice none 0 0]) rfl rfl rfl (by intro x hx; simp only [List.mem_cons, List.not_mem_nil, or_false] at hx; rcases hx with rfl | rfl | rfl | rfl | rfl | rfl <;> first | exact hone | rfl) Try.sizeOf35 rfl rfl) fun _ _ => ?_
    refine pt_regionEnd (pt_retM (fn := Try.f16) (v := .agg #[pv, .slice none 0 0, .slice none 0 0, .slice none 0 0, .slice none 0 0, .slice none 0 0]) Try.func16 rfl (fun a w hf hw => res_cell 1 rfl hf rfl hw rfl Try.isAgg35 Try.sizeOf35 rfl) fun w hw => g1 _ () w (hw.mono fun u hu => ⟨_, rfl, ?_⟩))
    refine ⟨_, _, _, _, _, none, none, rfl, ⟨rfl, rfl, rfl⟩, ?_, ?_, hu.forgetAll.place.place⟩
    · unfold finM; rw [mac_nil]; exact RowE.nil 56 2
    · unfold finM; rw [mac_nil]; exact RowE.nil 66 2
  have hn : 0 < ps.length := by omega
  -- the end
  have hfin : ∀ (m : Mac) (F : Go.Sx.Fr), Sub [(7, vPtr sb), (6, vPtr t6)] F → m = finM ps qs calm → Pt (fun _ : Unit => C) 70 (Go.Sx.fr0 16) (cf :: cs) () [.code (cR (cR (cR (cR (cR (cR (cR (Try.f16.body.getD .skip))))))))] F (fun w => MAt z sb pv m.acs m.bd m.moves w) := by
    intro m F hFs hm
    subst hm
    refine Pt.weaken hFs (fun _ h => h) (Pt.world fun w hM => ?_)
    obtain ⟨s1, s2, s3, bs, ms, e1, e2, e3, eb, em, h1, h2, h3, h4, h5, hm⟩ := hM.ex
    obtain ⟨a1, c1, rfl, _⟩ := h1.slice
    obtain ⟨a2, c2, rfl, _⟩ := h2.slice
    obtain ⟨a3, c3, rfl, _⟩ := h3.slice
    obtain ⟨a4, c4, rfl, _⟩ := h4.slice
    obtain ⟨a5, c5, rfl, _⟩ := h5.slice
    have hmc := hz.call hm
    refine Pt.imp (fun u hu => hu ▸ hmc) (pt_seq (pt_region ?_))
    refine pt_val (by decide) rfl (val_load_all 0 rfl rfl Try.isAgg35 Try.sizeOf35 rfl) rfl ?_
    refine pt_do (by decide) rfl (does_store_all 6 (cs := [pv, _, _, _, _, _]) rfl rfl rfl (by intro x hx; simp only [List.mem_cons, List.not_mem_nil, or_false] at hx; rcases hx with rfl | rfl | rfl | rfl | rfl | rfl <;> first | exact hone | rfl) Try.sizeOf35 rfl rfl) fun _ _ => ?_
    refine pt_regionEnd (pt_retM (fn := Try.f16) (v := .agg #[pv, _, _, _, _, _]) Try.func16 rfl (fun a w hf hw => res_cell 6 rfl hf rfl hw rfl Try.isAgg35 Try.sizeOf35 rfl) fun w hw => g1 _ () w (hw.mono fun u hu => ⟨_, rfl, ?_⟩))
    exact ⟨_, _, _, _, _, eb, em, rfl, ⟨rfl, rfl, rfl⟩, h4, h5, hu.only (((((List.Sublist.refl [eb, em]).trans (List.sublist_append_left [eb, em] _)).cons _).cons _).cons _ |>.cons _)⟩
  refine pt_seq (pt_seq (pt_region ?_))
  refine pt_val (by decide) rfl (val_move (v := pv) rfl) rfl ?_
  refine pt_val (by decide) rfl (val_len (a := pa) (len := ps.length) (cap := pc) (by rw [← hpv]; rfl) Try.underlying22) rfl ?_
  refine pt_val (by decide) rfl (val_move (v := vInt (0 : Nat)) rfl) rfl ?_
  refine pt_regionEnd (pt_block ?_)
  refine pt_loop_inv (fun i : Nat => i ≤ ps.length) (fun i => [(7, vPtr sb), (25, vInt ps.length), (26, vInt i), (0, pv), (1, .slice qa qs.length cap), (2, .bool calm), (6, vPtr t6), (8, vInt ps.length)]) (fun _ => ()) (fun i w => MAt z sb pv (List.replicate i ⟨-1, false, false⟩) ⟨[], []⟩ [] w) (fun i => ps.length - i) 0 (Nat.zero_le _) ⟨rfl, rfl, rfl, rfl, rfl, rfl, rfl, rfl, trivial⟩ rfl (fun w hw => ⟨_, _, _, _, _, none, none, none, none, none, RowE.nil 3 1, RowE.nil 4 1, RowE.nil 4 1, RowE.nil 56 2, RowE.nil 66 2, hw.place.place.place.place.place.perm (by simpa using List.perm_append_comm (l₂ := [none, none, none, none, none]) (l₁ := [some (sb, blk [pv, .slice none 0 0, .slice none 0 0, .slice none 0 0, .slice none 0 0, .slice none 0 0] 35)]))⟩) ?_
  rintro i hle hloop
  refine pt_seq (pt_region ?_)
  refine pt_val (by decide) rfl (val_lss_int (a := (i : Int)) (b := (ps.length : Int)) rfl rfl) rfl ?_ (tame_int rfl rfl)
  refine pt_regionEnd (pt_seq (pt_if rfl (fun hlt => ?_) (fun hge => ?_)))
  · refine pt_skip (pt_seq (pt_block (Pt.world fun w hM => ?_)))
    obtain ⟨s1, s2, s3, bs, ms, e1, e2, e3, eb, em, h1, h2, h3, h4, h5, hm⟩ := hM.ex
    rw [List.length_replicate] at h1 h2 h3
    refine Pt.weaken (F' := [(7, vPtr sb), (25, vInt ps.length), (26, vInt i), (0, pv), (1, .slice qa qs.length cap), (2, .bool calm), (6, vPtr t6), (8, vInt ps.length)]) ⟨rfl, rfl, rfl, rfl, rfl, rfl, rfl, rfl, trivial⟩ (fun u hu => hu ▸ hm) (pt_seq ?_)
    refine pt_sw (by decide) (sw_16_7 h1 (by omega)) (fun F' y hq => ?_) (fun ex F' y hne hq => hne hq.1)
    obtain ⟨-, hFs, s1', e1', h1, hy⟩ := hq
    refine Pt.weaken hFs (fun u hu => hu ▸ hy) (pt_seq ?_)
    refine pt_sw (by decide) (sw_16_8 h2 (by omega)) (fun F' y hq => ?_) (fun ex F' y hne hq => hne hq.1)
    obtain ⟨-, hFs, s2', e2', h2, hy⟩ := hq
    refine Pt.weaken hFs (fun u hu => hu ▸ hy) ?_
    refine pt_sw (by decide) (sw_16_9 h3 (by omega)) (fun F' y hq => ?_) (fun ex F' y hne hq => hne hq.1)
    obtain ⟨-, hFs, s3', e3', h3, hy⟩ := hq
    refine Pt.weaken hFs (M' := fun w => MAt z sb pv (List.replicate (i + 1) ⟨-1, false, false⟩) ⟨[], []⟩ [] w) (fun u hu => hu ▸ ⟨_, _, _, _, _, _, _, _, _, _, by rw [List.length_replicate, repl_pl]; exact h1, by rw [List.length_replicate, repl_wt]; exact h2, by rw [List.length_replicate, repl_ov]; exact h3, h4, h5, hy⟩) (pt_inBlock (pt_region ?_))
    refine pt_val (by decide) rfl (val_add_int (a := (i : Int)) (b := 1) _ rfl rfl rfl (by omega)) rfl ?_ (tame_int rfl rfl)
    refine pt_val (by decide) rfl (val_move (v := vInt (i + 1 : Nat)) rfl) rfl ?_
    refine pt_regionEnd (Pt.weaken ?_ (fun _ h => h) (hloop (i + 1) (by omega) (by omega)))
    exact ⟨rfl, rfl, rfl, rfl, rfl, rfl, rfl, rfl, trivial⟩
  have hi : i = ps.length := by omega
  subst hi
  clear hloop hle hge
  refine pt_exit rfl (Pt.imp (M' := fun w => MAt z sb pv (macN ps qs 0).acs (macN ps qs 0).bd (macN ps qs 0).moves w) (fun _ h => h) (pt_seq (pt_seq (pt_region ?_))))
  refine pt_val (by decide) rfl (val_move (v := .slice qa qs.length cap) rfl) rfl ?_
  refine pt_val (by decide) rfl (val_len (len := qs.length) rfl Try.underlying23) rfl ?_
  refine pt_val (by decide) rfl (val_move (v := vInt (0 : Nat)) rfl) rfl ?_
  refine pt_regionEnd (pt_block ?_)
  refine pt_loop_inv (fun j : Nat => j ≤ qs.length) (fun j => [(44, .slice qa qs.length cap), (45, vInt qs.length), (46, vInt j), (7, vPtr sb), (6, vPtr t6), (8, vInt ps.length), (2, .bool calm)]) (fun _ => ()) (fun j w => MAt z sb pv (macN ps qs j).acs (macN ps qs j).bd (macN ps qs j).moves w) (fun j => qs.length - j) 0 (Nat.zero_le _) ⟨rfl, rfl, rfl, rfl, rfl, rfl, rfl, trivial⟩ rfl (fun _ h => h) ?_
  rintro j hle hloop
  refine pt_seq (pt_region ?_)
  refine pt_val (by decide) rfl (val_lss_int (a := (j : Int)) (b := (qs.length : Int)) rfl rfl) rfl ?_ (tame_int rfl rfl)
  refine pt_regionEnd (pt_seq (pt_if rfl (fun hlt => ?_) (fun hge => ?_)))
  · have hj : j < qs.length := by omega
    have hq : qs[j]? = some qs[j] := List.getElem?_eq_getElem hj
    generalize qs[j] = q at hq
    obtain ⟨qb, qo, rfl, _, hqc⟩ := hQ.cells j q hq
    refine pt_skip (pt_seq (pt_block (pt_seq (pt_region ?_))))
    refine pt_val (by decide) rfl (val_indexAddr_slice (m := 1) j (qo + j) rfl rfl Try.underlying23 Try.sizeOf3 rfl hj (by omega)) rfl ?_
    refine pt_val (by decide) rfl (val_load rfl Try.isAgg3 (v := vI q) (fun w h => cell_rv' (cell_rv' hqc (Mem.rv hz)) h.rv)) rfl ?_
    refine pt_val (by decide) rfl (val_assign (v := vI q) rfl) rfl ?_
    refine pt_regionEnd (pt_region ?_)
    refine pt_val (by decide) rfl (val_move (v := vI q) rfl) rfl ?_
    refine pt_call (T := fun w r _ u => r = .returned (.bool (movedN ps qs j)) ∧ MAt z sb pv (macN ps qs (j + 1)).acs (macN ps qs (j + 1)).bd (macN ps qs (j + 1)).moves u) (by decide) rfl (callsTo (xs := [.tmp 7, .tmp 50]) (vs := [vPtr sb, vI q]) Try.func26 rfl (by decide) rfl) (by infer_instance) (fun w hw => callI_of_v (rstep_v hF hn hGz (by omega) (by
        have : 0 ≤ q % (ps.length : Int) := Int.emod_nonneg q (by omega)
        unfold whoOf; rw [hq]; simp only; omega) hw)) (fun t' ht => by cases ht; rfl) (fun w r x' hw => ?_) (fun w ch x' hw a w' hf hl => ?_)
    · refine Pt.imp (fun u hu => hu.2) (pt_regionEnd (pt_inBlock (pt_region ?_)))
      haveI : Stb (fun w => MAt z sb pv (macN ps qs (j + 1)).acs (macN ps qs (j + 1)).bd (macN ps qs (j + 1)).moves w) := inferInstance
      refine pt_val (by decide) rfl (val_add_int (a := (j : Int)) (b := 1) _ rfl rfl rfl (by omega)) rfl ?_ (tame_int rfl rfl)
      refine pt_val (by decide) rfl (val_move (v := vInt (j + 1 : Nat)) rfl) rfl ?_
      refine pt_regionEnd (Pt.weaken ?_ (fun _ h => h) (hloop (j + 1) (by omega) (by omega)))
      exact ⟨rfl, rfl, rfl, rfl, rfl, rfl, rfl, trivial⟩
    · obtain ⟨y, ⟨hy, _⟩, _⟩ := hl; cases hy
  have hjq : j = qs.length := by omega
  subst hjq
  clear hloop hle hge
  refine pt_exit rfl (pt_seq (pt_seq (pt_region ?_)))
  refine pt_val (by decide) rfl (val_move (v := .bool calm) rfl) rfl ?_
  refine pt_regionEnd (pt_cond rfl (fun hc => ?_) (fun hc => ?_))
  rotate_left
  · refine pt_skip (hfin (macN ps qs qs.length) _ ⟨rfl, rfl, trivial⟩ ?_)
    unfold finM calmJ; rw [hc]; simp
  refine pt_seq (pt_region (pt_val (by decide) rfl (val_assign (v := vInt (0 : Nat)) rfl) rfl (pt_regionEnd ?_)))
  refine pt_seq (pt_region (pt_val (by decide) rfl (val_assign (v := vInt (0 : Nat)) rfl) rfl (pt_regionEnd (pt_block ?_))))
  have h00 : stopJ (fun j => movedN ps qs (qs.length + j)) ps.length (100000 - 0) 0 0 = calmJ ps qs calm := by
    rw [Nat.sub_zero]; unfold calmJ; rw [if_pos hc]
  refine pt_loop_inv (σ := Nat × Nat) (fun y => stopJ (fun j => movedN ps qs (qs.length + j)) ps.length (100000 - y.1) y.1 y.2 = calmJ ps qs calm ∧ y.1 ≤ 100000 ∧ y.2 ≤ y.1) (fun y => [(7, vPtr sb), (6, vPtr t6), (8, vInt ps.length), (11, vInt y.2), (12, vInt y.1)]) (fun _ => ()) (fun y w => MAt z sb pv (macN ps qs (qs.length + y.1)).acs (macN ps qs (qs.length + y.1)).bd (macN ps qs (qs.length + y.1)).moves w) (fun y => 100000 - y.1) (0, 0) ⟨h00, Nat.zero_le _, Nat.zero_le _⟩ ⟨rfl, rfl, rfl, rfl, rfl, trivial⟩ rfl (fun _ h => h) ?_
  rintro ⟨j, q⟩ ⟨hJ, hle, hqj⟩ hloop
  simp only at hJ hle hqj
  refine pt_seq (pt_seq ?_)
  refine pt_sw (by decide) (sw_16_19 (M := fun w => MAt z sb pv (macN ps qs (qs.length + j)).acs (macN ps qs (qs.length + j)).bd (macN ps qs (qs.length + j)).moves w)) (fun F' y hq => ?_) (fun ex F' y hne hq => hne hq.1)
  obtain ⟨-, hFs, hy⟩ := hq
  refine Pt.weaken hFs (M' := fun w => MAt z sb pv (macN ps qs (qs.length + j)).acs (macN ps qs (qs.length + j)).bd (macN ps qs (qs.length + j)).moves w) (fun w hw => hw ▸ hy) ?_
  clear hFs hy
  refine pt_if rfl (fun hgo => ?_) (fun hst => ?_)
  · obtain ⟨hj, hqn⟩ := hgo
    refine pt_skip (pt_seq (pt_block (pt_seq (pt_region ?_))))
    refine pt_val (by decide) rfl (val_move (v := vInt q) rfl) rfl ?_
    refine pt_val (by decide) rfl (val_add_int (a := (q : Int)) (b := 1) _ rfl rfl rfl (by omega)) rfl ?_ (tame_int rfl rfl)
    refine pt_val (by decide) rfl (val_assign (v := vInt (q + 1 : Nat)) rfl) rfl ?_
    refine pt_regionEnd (pt_seq (pt_region ?_))
    refine pt_val (by decide) rfl (val_move (v := vInt j) rfl) rfl ?_
    refine pt_val (by decide) rfl (val_move (v := vInt ps.length) rfl) rfl ?_
    refine pt_val (by decide) rfl (val_rem_to (a := (j : Int)) (b := (ps.length : Int)) (r := ((j % ps.length : Nat) : Int)) rfl rfl (by omega) (by rw [Int.tmod_eq_emod_of_nonneg (by omega)]; rfl)) rfl ?_ (tame_int rfl rfl)
    refine pt_call (T := fun w r _ u => r = .returned (.bool (movedN ps qs (qs.length + j))) ∧ MAt z sb pv (macN ps qs (qs.length + j + 1)).acs (macN ps qs (qs.length + j + 1)).bd (macN ps qs (qs.length + j + 1)).moves u) (by decide) rfl (callsTo (xs := [.tmp 7, .tmp 67]) (vs := [vPtr sb, vI (j % ps.length : Nat)]) Try.func26 rfl (by decide) rfl) (by infer_instance) (fun w hw => callI_of_v (rstep_v hF hn hGz (by omega) (by
        unfold whoOf; rw [List.getElem?_eq_none (by omega)]; simp only
        rw [show qs.length + j - qs.length = j by omega]
        have hlt := Nat.mod_lt j hn
        exact (Int.emod_eq_of_lt (by omega) (by omega)).symm) hw)) (fun t' ht => by cases ht; rfl) (fun w r x' hw => ?_) (fun w ch x' hw a w' hf hl => ?_)
    rotate_left
    · obtain ⟨y, ⟨hy, _⟩, _⟩ := hl; cases hy
    refine Pt.world fun y hy => ?_
    obtain ⟨hr, hy⟩ := hy
    obtain rfl : r = .bool (movedN ps qs (qs.length + j)) := by cases hr; rfl
    clear hr
    have hst : stopJ (fun j => movedN ps qs (qs.length + j)) ps.length (100000 - (j + 1)) (j + 1) (if movedN ps qs (qs.length + j) then 0 else q + 1) = calmJ ps qs calm := by
      rw [← hJ, show 100000 - j = (100000 - (j + 1)) + 1 by omega]
      conv => rhs; rw [stopJ]
      rw [if_pos hqn]
    have hnext : ∀ (q' : Nat) (F : Go.Sx.Fr), Sub [(7, vPtr sb), (6, vPtr t6), (8, vInt ps.length), (11, vInt q'), (12, vInt j)] F → q' = (if movedN ps qs (qs.length + j) then 0 else q + 1) → Pt (fun _ : Unit => C) 70 (Go.Sx.fr0 16) (cf :: cs) () [.inBlock 5, .code (cR (cR Go.Sx.c16l)), .inLoop Go.Sx.c16l, .inBlock 4, .code (cR (cR (cR (cR (cR (cR (cR (Try.f16.body.getD .skip))))))))] F (fun w => MAt z sb pv (macN ps qs (qs.length + j + 1)).acs (macN ps qs (qs.length + j + 1)).bd (macN ps qs (qs.length + j + 1)).moves w) := by
      intro q' F hFs hq'
      refine Pt.weaken hFs (fun _ h => h) (pt_inBlock (pt_region ?_))
      refine pt_val (by decide) rfl (val_move (v := vInt j) rfl) rfl ?_
      refine pt_val (by decide) rfl (val_add_int (a := (j : Int)) (b := 1) _ rfl rfl rfl (by omega)) rfl ?_ (tame_int rfl rfl)
      refine pt_val (by decide) rfl (val_assign (v := vInt (j + 1 : Nat)) rfl) rfl ?_
      refine pt_regionEnd (Pt.weaken ?_ (fun _ h => h) (hloop (j + 1, q') ⟨by rw [hq']; exact hst, by omega, by simp only; rw [hq']; split <;> omega⟩ (by simp only; omega)))
      exact ⟨rfl, rfl, rfl, rfl, rfl, trivial⟩
    refine Pt.imp (M' := fun w => MAt z sb pv (macN ps qs (qs.length + j + 1)).acs (macN ps qs (qs.length + j + 1)).bd (macN ps qs (qs.length + j + 1)).moves w) (fun w hw => hw ▸ hy) (pt_regionEnd (pt_cond rfl (fun hb => ?_) (fun hb => ?_)))
    · refine pt_region (pt_val (by decide) rfl (val_assign (v := vInt (0 : Nat)) rfl) rfl (pt_regionEnd ?_))
      exact hnext 0 _ ⟨rfl, rfl, rfl, rfl, rfl, trivial⟩ (by rw [hb]; rfl)
    · exact pt_skip (hnext (q + 1) _ ⟨rfl, rfl, rfl, rfl, rfl, trivial⟩ (by rw [hb]; rfl))
  · refine pt_exit rfl (hfin (macN ps qs (qs.length + j)) _ ⟨rfl, rfl, trivial⟩ ?_)
    have : calmJ ps qs calm = j := by
      rw [← hJ]
      by_cases h0 : j = 100000
      · rw [h0, Nat.sub_self, stopJ]
      · rw [show 100000 - j = (100000 - (j + 1)) + 1 by omega]
        simp only [stopJ]
        rw [if_neg (by omega)]
    unfold finM; rw [this]
end
end Go.Bt
end
section
namespace Go.Bt
variable [Gnd]
open Go.Conc Go.ConcN Go.RowKit Go.Proofs
open Go.Sx (Rly RV pz pzo pz_heap spec isWg Gud Co blk RowE Rd Mem CallV vInt CallI SW Sub Pt callV_of_callI callI_of_pt pt_seq pt_sw pt_true pt_region pt_regionEnd pt_val pt_call pt_ret val_assign val_move val_load val_build' val_len val_lss_int val_gtr_int val_pick_true val_pick_false tame_int acts_box callsTo ev_eval res_two res_slot Fits sw_region ow_val ow_nil ow_guard_yes ow_guard_no)
section
variable {v : World} {pv : Value} {ps : List (List Ins)} {qs : List Int} {calm : Bool} {Post : Value → World → Prop}
/-- No Play: too few, too many, no act. -/
def OddP (n : Int) (fv : Value) : Prop := (n < 1 ∨ 1000 < n) ∨ fv = .nilFunc
set_option maxRecDepth 100000 in
set_option maxHeartbeats 4000000 in
theorem sw_guards_odd [C : Co Try.prog] {n : Int} {fv : Value} {tn ba : Nat} (h : OddP n fv) (hf : fv = .nilFunc ∨ ∃ f a k, fv = .func f a k) :
    SW Try.prog 92 (cL (cL (cR c22))) [(4, vPtr tn), (5, vPtr ba)] (Mem v [] [some (ba, blk [fv] 53), some (tn, blk [vI n] 3)]) (fun ex F' w => ex = .normal ∧ Sub [(30, .bool true)] F' ∧ Mem v [] [some (ba, blk [fv] 53), some (tn, blk [vI n] 3)] w) := by
  have hcn : ∀ {w : World}, Mem v [] [some (ba, blk [fv] 53), some (tn, blk [vI n] 3)] w → w.cell? ⟨tn, 0, none⟩ = some (vI n) := fun h => by rw [Go.Sx.cell_of_blk (h.own _ _ (List.mem_cons_of_mem _ (List.mem_cons_self ..)))]; rfl
  have hcf : ∀ {w : World}, Mem v [] [some (ba, blk [fv] 53), some (tn, blk [vI n] 3)] w → w.cell? ⟨ba, 0, none⟩ = some fv := fun h => by rw [Go.Sx.cell_of_blk (h.own _ _ (List.mem_cons_self ..))]; rfl
  show @SW _ Try.prog C 92 (Code.region 1 _ false) _ _ _
  refine sw_region ?_
  refine ow_val (val_load rfl Try.isAgg3 (v := vI n) (fun w h => hcn h)) rfl ?_
  refine ow_val (val_lss_int (a := n) (b := 1) rfl rfl) rfl ?_ (tame_int rfl rfl)
  refine ow_val (val_move (v := .bool (decide (n < 1))) rfl) rfl ?_
  by_cases h1 : n < 1
  · rw [decide_eq_true h1]
    refine ow_guard_no (t := 23) rfl rfl rfl rfl rfl ?_
    refine ow_guard_no (t := 23) rfl rfl rfl rfl rfl ?_
    refine ow_val (val_pick_true (v := .bool true) rfl rfl) rfl ?_
    refine ow_val (val_move (v := .bool true) rfl) rfl ?_
    refine ow_guard_no (t := 27) rfl rfl rfl rfl rfl ?_
    refine ow_guard_no (t := 27) rfl rfl rfl rfl rfl ?_
    refine ow_val (val_pick_true (v := .bool true) rfl rfl) rfl ?_
    exact ow_nil fun w hw => ⟨rfl, ⟨rfl, trivial⟩, hw⟩
  · rw [decide_eq_false h1]
    refine ow_guard_yes (t := 23) rfl rfl rfl (ow_val (val_load rfl Try.isAgg3 (v := vI n) (fun w h => hcn h)) rfl ?_)
    refine ow_guard_yes (t := 23) rfl rfl rfl (ow_val (val_gtr_int (a := n) (b := 1000) rfl rfl) rfl ?_ (tame_int rfl rfl))
    refine ow_val (val_pick_false (v := .bool (decide (n > 1000))) rfl rfl) rfl ?_
    refine ow_val (val_move (v := .bool (decide (n > 1000))) rfl) rfl ?_
    by_cases h2 : n > 1000
    · rw [decide_eq_true h2]
      refine ow_guard_no (t := 27) rfl rfl rfl rfl rfl ?_
      refine ow_guard_no (t := 27) rfl rfl rfl rfl rfl ?_
      refine ow_val (val_pick_true (v := .bool true) rfl rfl) rfl ?_
      exact ow_nil fun w hw => ⟨rfl, ⟨rfl, trivial⟩, hw⟩
    · rw [decide_eq_false h2]
      obtain rfl : fv = .nilFunc := by
        rcases h with (h | h) | h
        · exact absurd h h1
        · exact absurd h h2
        · exact h
      refine ow_guard_yes (t := 27) rfl rfl rfl (ow_val (val_load rfl Try.isAgg53 (v := .nilFunc) (fun w h => hcf h)) rfl ?_)
      refine ow_guard_yes (t := 27) rfl rfl rfl (ow_val (val_eql_nilfunc Try.underlying53 rfl rfl) rfl ?_ (Go.Sx.tame_func rfl (.inl rfl) rfl (.inl rfl)))
      refine ow_val (val_pick_false (v := .bool true) rfl rfl) rfl ?_
      exact ow_nil fun w hw => ⟨rfl, ⟨rfl, trivial⟩, hw⟩
theorem nil_cells {fv : Value} (hf : fv = .nilFunc ∨ ∃ f a k, fv = .func f a k) : fv.cells = #[fv] := by
  rcases hf with rfl | ⟨f, a, k, rfl⟩ <;> rfl
set_option maxRecDepth 100000 in
set_option maxHeartbeats 4000000 in
theorem odd22_v [C : Co Try.prog] {n : Int} {fv qv : Value} (h : OddP n fv) (hf : fv = .nilFunc ∨ ∃ f a k, fv = .func f a k) :
    CallV Try.prog 22 #[vI n, fv, qv, .bool calm] v (fun r u => r = .returned (.slice none 0 0) ∧ RV v u) := by
  refine callV_of_callI (callI_of_pt (vs := [vI n, fv, qv, .bool calm]) Try.func22 rfl rfl fun cf cs g1 g2 => ?_)
  refine Pt.imp (M' := Mem v [] []) (fun w hw => hw ▸ Mem.refl v) ?_
  refine pt_seq (pt_region ?_)
  refine pt_new (by decide) rfl (acts_box (v := vI n) rfl) rfl fun tn htn => ?_
  refine pt_new (by decide) rfl (acts_box (v := fv) rfl) rfl fun ba hba => ?_
  refine pt_val (by decide) rfl (val_assign (v := .slice none 0 0) rfl) rfl ?_
  refine Pt.weaken (F' := [(4, vPtr tn), (5, vPtr ba)]) (M' := Mem v [] [some (ba, blk [fv] 53), some (tn, blk [vI n] 3)]) ⟨rfl, rfl, trivial⟩ (fun w hw => by rw [nil_cells hf] at hw; exact hw) ?_
  refine pt_regionEnd (pt_seq (pt_seq ?_))
  refine pt_sw (by decide) (sw_guards_odd h hf) (fun F' y hq => ?_) (fun ex F' y hne hq => hne hq.1)
  obtain ⟨-, hF, hy⟩ := hq
  refine Pt.weaken hF (M' := fun w => RV v w) (fun w hw => hw ▸ Mem.rv hy) (pt_true rfl (pt_seq (pt_region ?_)))
  refine pt_val (by decide) rfl (val_assign (v := .slice none 0 0) rfl) rfl ?_
  exact pt_regionEnd (pt_ret (fn := Try.f22) (v := .slice none 0 0) Try.func22 rfl (fun a hf => res_slot rfl rfl hf) fun w hw => g1 _ () w (hw.mono fun q hq => ⟨rfl, hq⟩))
/-- What a play of the laws leaves. -/
structure PlayU (pv : Value) (v : World) (sb : Nat) (mv : Value) (m : Mac) (u : World) : Prop where
  ex : ∃ bs pk eb ep er, Mem v [] [some (sb, blk [pv, bs, pk] 40), eb, ep, er] u ∧ RowE bs 56 2 m.bd.notes.length (flatB m.bd.notes) eb ∧ RowE pk 3 1 m.bd.pks.length (m.bd.pks.map vI) ep ∧ RowE mv 43 2 m.moves.length (flatM m.moves) er
set_option maxRecDepth 100000 in
set_option maxHeartbeats 4000000 in
/-- Nobody on the stage. -/
theorem play15_nil (hG : PrgV v pv []) {qv : Value} :
    @CallV _ Try.prog (coLaw Try.prog Post) 15 #[pv, qv, .bool calm] v (fun r u => ∃ sb mv, r = .returned (.tuple #[vPtr sb, mv]) ∧ PlayU pv v sb mv (mac0 0) u) := by
  letI C : Co Try.prog := coLaw Try.prog Post
  obtain ⟨pa, pc, hpv, _⟩ := hG.ex
  refine callV_of_callI (callI_of_pt (vs := [pv, qv, .bool calm]) Try.func15 rfl rfl fun cf cs g1 g2 => ?_)
  refine Pt.imp (M' := Mem v [] []) (fun w hw => hw ▸ Mem.refl v) ?_
  refine pt_seq (pt_region ?_)
  refine pt_val (by decide) rfl (val_assign (v := .pointer none) rfl) rfl ?_
  refine pt_val (by decide) rfl (val_assign (v := .slice none 0 0) rfl) rfl ?_
  refine pt_regionEnd (pt_seq (pt_region ?_))
  refine pt_val (by decide) rfl (val_move (v := pv) rfl) rfl ?_
  refine pt_val (by decide) rfl (val_build' (parts := _) (vs := [(0, pv)]) (cs := [pv, .slice none 0 0, .slice none 0 0]) rfl (by rw [hpv]; kernel_rfl)) rfl ?_
  refine pt_new (by decide) rfl (acts_box (v := .agg #[pv, .slice none 0 0, .slice none 0 0]) rfl) rfl fun sb hsb => ?_
  refine Pt.imp (M' := Mem v [] [some (sb, blk [pv, .slice none 0 0, .slice none 0 0] 40)]) (fun _ h => h) ?_
  refine pt_val (by decide) rfl (val_assign (v := vPtr sb) rfl) rfl ?_
  refine pt_regionEnd (pt_seq (pt_region ?_))
  refine pt_val (by decide) rfl (val_move (v := vPtr sb) rfl) rfl ?_
  refine pt_val (by decide) rfl (val_move (v := pv) rfl) rfl ?_
  refine pt_val (by decide) rfl (val_len (a := pa) (len := 0) (cap := pc) (by rw [show Value.slice pa 0 pc = pv from hpv.symm]; rfl) Try.underlying22) rfl ?_
  refine pt_val (by decide) rfl (val_move (v := vPtr sb) rfl) rfl ?_
  refine pt_val (by decide) rfl (val_makeFunc1 (fs := #[vPtr sb]) (vs := #[]) (fun a hf => ?_) (fun a hf => by simp)) rfl ?_
  · simp only [List.map_toArray, List.map_cons, List.map_nil]
    rw [ev_eval hf (x := .tmp 15) (v := vPtr sb) rfl]
  refine pt_val (by decide) rfl (val_move (v := qv) rfl) rfl ?_
  refine pt_val (by decide) rfl (val_move (v := .bool calm) rfl) rfl ?_
  refine pt_call (T := fun w r _ u => r = .returned (.slice none 0 0) ∧ RV w u) (by decide) rfl (callsTo (xs := [.tmp 14, .tmp 16, .tmp 17, .tmp 18]) (vs := [vI 0, .func (.func 23) #[vPtr sb] #[], qv, .bool calm]) Try.func22 rfl (by decide) rfl) (by infer_instance) (fun w hw => callI_of_v (odd22_v (.inl (.inl (by decide))) (.inr ⟨_, _, _, rfl⟩))) (fun t' ht => by cases ht; rfl) (fun w r x' hw => ?_) (fun w ch x' hw a w' hf hl => ?_)
  · refine Pt.world fun z hz => ?_
    obtain ⟨hr, hz⟩ := hz
    obtain rfl : r = .slice none 0 0 := by cases hr; rfl
    have hw' := hw.grow hz
    refine Pt.imp (M' := Mem v [] [some (sb, blk [pv, .slice none 0 0, .slice none 0 0] 40)]) (fun y hy => hy ▸ hw') ?_
    refine pt_val (by decide) rfl (val_assign (v := vPtr sb) rfl) rfl ?_
    refine pt_val (by decide) rfl (val_assign (v := .slice none 0 0) rfl) rfl ?_
    refine pt_regionEnd (pt_ret (fn := Try.f15) (v := .tuple #[vPtr sb, .slice none 0 0]) Try.func15 rfl (fun a hf => res_two' rfl rfl rfl hf) fun w hw => g1 _ () w (hw.mono fun q hq => ⟨sb, _, rfl, ?_⟩))
    exact ⟨_, _, none, none, none, hq.place.place.place.perm (List.perm_append_comm (l₁ := [some (sb, blk [pv, .slice none 0 0, .slice none 0 0] 40)]) (l₂ := [none, none, none])), RowE.nil 56 2, RowE.nil 3 1, RowE.nil 43 2⟩
  · obtain ⟨z, ⟨hr, _⟩, _⟩ := hl
    cases hr
/-- ████ The laws' play. ████ -/
theorem plU_v {qa : Option Addr} {cap : Nat} (hF : Fit ps qs) (hG : PrgV v pv ps) (hQ : QV v qa qs) :
    @CallV _ Try.prog (coLaw Try.prog Post) 15 #[pv, .slice qa qs.length cap, .bool calm] v (fun r u => ∃ sb mv, r = .returned (.tuple #[vPtr sb, mv]) ∧ PlayU pv v sb mv (finM ps qs calm) u) := by
  have hf1 := hF.n
  have hf3 := hF.q
  rcases Nat.eq_zero_or_pos ps.length with h0 | hn
  · obtain rfl : ps = [] := List.length_eq_zero_iff.1 h0
    have e : finM [] qs calm = mac0 0 := by unfold finM; exact mac_nil _
    rw [e]
    exact play15_nil hG
  · have hJ := calmJ_le ps qs calm
    letI C : Co Try.prog := coLaw Try.prog Post
    refine (play15_v (Post := Post) (cap := cap) (by omega) (hF.pre hn (by omega)) hG (by omega) hQ).mono fun r u ⟨sb, mv, hr, hu⟩ => ⟨sb, mv, hr, ?_⟩
    obtain ⟨bs, pk, eb, ep, er, h1, h2, h3, h4⟩ := hu.ex
    refine ⟨bs, pk, eb, ep, er, h1, h2, h3, ?_⟩
    have e1 : (finM ps qs calm).moves.length = qs.length + calmJ ps qs calm := (mac_len hn _).2
    have e2 : flatM (finM ps qs calm).moves = (List.range (qs.length + calmJ ps qs calm)).flatMap fun m => [vI (whoOf ps.length qs m), .bool (movedN ps qs m)] := by
      unfold finM; rw [movs_mac hn]; unfold flatM; rw [List.flatMap_map]
    rw [e1, e2]; exact h4
end
end Go.Bt
end
section
namespace Go.Bt
variable [Gnd]
open Go.Conc Go.ConcN Go.RowKit Go.Proofs
open Go.Sx (Rly RV pz pzo pz_heap spec isWg Gud Co blk RowE Rd Mem CallV vInt CallI SW Sub Pt callV_of_callI callI_of_pt pt_seq pt_sw pt_true pt_false pt_cond pt_if pt_skip pt_region pt_regionEnd pt_val pt_call pt_act pt_ret val_assign val_move val_load val_load_at val_build' val_len val_extract val_nilCheck val_fieldAddr val_lss_int val_gtr_int val_pick_true val_pick_false tame_nilCheck tame_int acts_box acts_buildSlice callsTo ev_eval res_two res_slot Fits sw_region ow_val ow_nil ow_make ow_call_pure ow_guard_yes ow_guard_no mem_of_rv pick)
section
variable {X : Type} {R : X → Co Try.prog} {n j : Nat} {b : Frame} {cs : List Frame} {x : X} {k : List Item} {F : Go.Sx.Fr} {ops : Array Oper} {rest : List Nat}
/-- A new row. -/
theorem pt_mk {t len cap : Nat} {op : Op} {ty : TypeId} {ps : String} {af : Array Edge} {w0 : World} {olds : List Nat} {l : List Go.Sx.Ent} {o : Obj} (hb : b.kind ≠ .early) (ho : ops[j]? = some ⟨some t, op, ty, ps, af, none⟩)
    (hv : Go.Sx.Acts Try.prog n F (Mem w0 olds l) op ty (fun w u w' => u = .slice (some ⟨w.heap.size, 0, none⟩) len cap ∧ Mem w0 olds (some (w.heap.size, o) :: l) w')) (ht : Nat.blt t n = true)
    (h : ∀ b', w0.heap.size ≤ b' → Pt R n b cs x (.inRegion ops rest :: k) ((t, .slice (some ⟨b', 0, none⟩) len cap) :: F) (Mem w0 olds (some (b', o) :: l))) (hT : Go.Sx.Tame Try.prog n F op ty := by infer_instance) : Pt R n b cs x (.inRegion ops (j :: rest) :: k) F (Mem w0 olds l) :=
  pt_act hb ho hv ht (fun w v hm => Pt.world fun v' hv' => by
    obtain ⟨rfl, h2⟩ := hv'
    exact Pt.imp (fun u hu => hu ▸ h2) (h _ hm.size)) hT
end
section
variable {v : World} {pv : Value} {ps : List (List Ins)} {qs : List Int} {calm : Bool} {Post : Value → World → Prop}
def twoP : List (List Ins) := [[(1, 10), (2, 0), (1, 11)], [(1, 20), (2, 0), (1, 21)]]
def twoQ : List Int := [0, 1, 1, 0, 0]
def twoN : List (Int × Int) := [(0, 10), (1, 20), (1, 21), (0, 11)]
def twoM : List (Int × Bool) := [(0, true), (1, true), (1, true), (0, true), (0, false)]
theorem two_notes : (finM twoP twoQ false).bd.notes = twoN := by decide
theorem two_moves : (finM twoP twoQ false).moves = twoM := by decide
theorem two_fit : Fit twoP twoQ := ⟨by decide, by decide, by decide⟩
noncomputable def c12 : Code := Try.f12.body.getD .skip
set_option maxRecDepth 100000 in
set_option maxHeartbeats 4000000 in
theorem sw_12_1 [C : Co Try.prog] : SW Try.prog 39 (cL (cR c12)) [(0, .bool false)] (Mem v [] []) (fun ex F' w => ex = .normal ∧ ∃ b7 b11 b12, Sub [(1, .slice (some ⟨b12, 0, none⟩) 2 2)] F' ∧ Mem v [] [some (b12, blk [.slice (some ⟨b7, 0, none⟩) 3 3, .slice (some ⟨b11, 0, none⟩) 3 3] 58), some (b11, blk [vI 1, vI 20, vI 2, vI 0, vI 1, vI 21] 61), some (b7, blk [vI 1, vI 10, vI 2, vI 0, vI 1, vI 11] 61)] w) := by
  show SW Try.prog 39 (Code.region 1 _ false) _ _ _
  refine sw_region ?_
  refine ow_val (val_build' (parts := _) (vs := [(0, vI 1), (1, vI 10)]) (cs := [vI 1, vI 10]) rfl (by kernel_rfl)) rfl ?_
  refine ow_val (val_build' (parts := _) (vs := [(0, vI 2)]) (cs := [vI 2, vI 0]) rfl (by kernel_rfl)) rfl ?_
  refine ow_val (val_build' (parts := _) (vs := [(0, vI 1), (1, vI 11)]) (cs := [vI 1, vI 11]) rfl (by kernel_rfl)) rfl ?_
  refine ow_make (acts_buildSlice (cs := [vI 1, vI 10, vI 2, vI 0, vI 1, vI 11]) Try.underlying58 Try.sizeOf61 Try.zeroValue61 rfl rfl (by kernel_rfl)) rfl (fun b7 hb7 => ?_)
  refine ow_val (val_build' (parts := _) (vs := [(0, vI 1), (1, vI 20)]) (cs := [vI 1, vI 20]) rfl (by kernel_rfl)) rfl ?_
  refine ow_val (val_build' (parts := _) (vs := [(0, vI 2)]) (cs := [vI 2, vI 0]) rfl (by kernel_rfl)) rfl ?_
  refine ow_val (val_build' (parts := _) (vs := [(0, vI 1), (1, vI 21)]) (cs := [vI 1, vI 21]) rfl (by kernel_rfl)) rfl ?_
  refine ow_make (acts_buildSlice (cs := [vI 1, vI 20, vI 2, vI 0, vI 1, vI 21]) Try.underlying58 Try.sizeOf61 Try.zeroValue61 rfl rfl (by kernel_rfl)) rfl (fun b11 hb11 => ?_)
  refine ow_make (acts_buildSlice (cs := [.slice (some ⟨b7, 0, none⟩) 3 3, .slice (some ⟨b11, 0, none⟩) 3 3]) Try.underlying22 Try.sizeOf58 Try.zeroValue58 rfl rfl (by kernel_rfl)) rfl (fun b12 hb12 => ?_)
  refine ow_val (val_assign (v := .slice (some ⟨b12, 0, none⟩) 2 2) rfl) rfl ?_
  exact ow_nil fun w hw => ⟨rfl, b7, b11, b12, ⟨rfl, trivial⟩, hw⟩
theorem two_cell {k : Nat} {q : Int} (h : twoQ[k]? = some q) : ([vI 0, vI 1, vI 1, vI 0, vI 0] : List Value)[k]? = some (vI q) := by
  rw [show ([vI 0, vI 1, vI 1, vI 0, vI 0] : List Value) = twoQ.map vI from rfl, List.getElem?_map, h]; rfl
theorem two_prg {b7 b11 b12 : Nat} {z : World} (h : Mem v [] [some (b12, blk [.slice (some ⟨b7, 0, none⟩) 3 3, .slice (some ⟨b11, 0, none⟩) 3 3] 58), some (b11, blk [vI 1, vI 20, vI 2, vI 0, vI 1, vI 21] 61), some (b7, blk [vI 1, vI 10, vI 2, vI 0, vI 1, vI 11] 61)] z) : PrgV z (.slice (some ⟨b12, 0, none⟩) 2 2) twoP where
  ex := by
    have h12 := h.at (i := 0) rfl
    have h11 := h.at (i := 1) rfl
    have h7 := h.at (i := 2) rfl
    have o12 : OrdV z b12 := ⟨_, h12, rfl, rfl⟩
    have o11 : OrdV z b11 := ⟨_, h11, rfl, rfl⟩
    have o7 : OrdV z b7 := ⟨_, h7, rfl, rfl⟩
    have hr : ∀ (b : Nat) (xs : List Value), z.heap[b]? = some (blk xs 61) → OrdV z b → VRd z (some ⟨b, 0, none⟩) xs := fun b xs hb hO j y hy => ⟨b, 0, rfl, by rw [Nat.zero_add, Go.Sx.cell_of_blk hb]; exact hy, hO⟩
    refine ⟨_, _, rfl, fun i p hp => ⟨b12, 0, ?_⟩⟩
    match i, hp with
    | 0, hp =>
      obtain rfl := Option.some.inj hp
      exact ⟨some ⟨b7, 0, none⟩, 3, rfl, by rw [Go.Sx.cell_of_blk h12]; rfl, o12, hr b7 _ h7 o7⟩
    | 1, hp =>
      obtain rfl := Option.some.inj hp
      exact ⟨some ⟨b11, 0, none⟩, 3, rfl, by rw [Go.Sx.cell_of_blk h12]; rfl, o12, hr b11 _ h11 o11⟩
    | i + 2, hp => cases hp
  len := fun p hp => by
    rcases List.mem_cons.1 hp with rfl | hp
    · decide
    · rcases List.mem_cons.1 hp with rfl | hp
      · decide
      · cases hp
set_option maxRecDepth 100000 in
set_option maxHeartbeats 4000000 in
theorem sw_12_3 [C : Co Try.prog] {sb c1 c2 : Nat} {a1 a2 : Option Addr} {pk : Value} {eb ep er : Go.Sx.Ent} (hb : RowE (.slice a1 4 c1) 56 2 4 (flatB twoN) eb) (hr : RowE (.slice a2 5 c2) 43 2 5 (flatM twoM) er) :
    SW Try.prog 39 (cL (cR (cR (cR c12)))) [(2, vPtr sb), (3, .slice a2 5 c2)] (Mem v [] [some (sb, blk [pv, .slice a1 4 c1, pk] 40), eb, ep, er]) (fun ex F' w => ex = .normal ∧ Sub [(0, .bool true)] F' ∧ RV v w) := by
  show SW Try.prog 39 (Code.region 3 _ false) _ _ _
  refine sw_region ?_
  refine ow_val (val_move (v := vPtr sb) rfl) rfl ?_
  refine ow_val (val_nilCheck (a := ⟨sb, 0, none⟩) rfl) rfl ?_ (tame_nilCheck rfl)
  refine ow_val (val_fieldAddr (b := sb) (o := 0) (e := 1) rfl Try.underlying40 rfl rfl Try.sizeOf32 rfl) rfl ?_
  refine ow_val (val_load_at (v := .slice a1 4 c1) 0 rfl rfl Try.isAgg32 rfl) rfl ?_
  refine ow_val (val_build' (parts := _) (vs := [(0, vI 0), (1, vI 10)]) (cs := [vI 0, vI 10]) rfl (by kernel_rfl)) rfl ?_
  refine ow_val (val_build' (parts := _) (vs := [(0, vI 1), (1, vI 20)]) (cs := [vI 1, vI 20]) rfl (by kernel_rfl)) rfl ?_
  refine ow_val (val_build' (parts := _) (vs := [(0, vI 1), (1, vI 21)]) (cs := [vI 1, vI 21]) rfl (by kernel_rfl)) rfl ?_
  refine ow_val (val_build' (parts := _) (vs := [(0, vI 0), (1, vI 11)]) (cs := [vI 0, vI 11]) rfl (by kernel_rfl)) rfl ?_
  refine ow_make (acts_buildSlice (cs := [vI 0, vI 10, vI 1, vI 20, vI 1, vI 21, vI 0, vI 11]) Try.underlying32 Try.sizeOf56 Try.zeroValue56 rfl rfl (by kernel_rfl)) rfl (fun b27 hb27 => ?_)
  refine ow_call_pure (v := .bool true) (callsTo Try.func18 rfl (by kernel_rfl) rfl) rfl (fun w hm => (notes_v (l1 := twoN) (l2 := twoN) (by obtain ⟨a', c', e, _, hr⟩ := hb.rd (i := 2) hm rfl; cases e; exact hr) (Rd.own hm (i := 0) rfl rfl) (by decide)).mono fun e u hu => ⟨_, hu.1, by rw [decide_eq_true rfl], mem_of_rv hu.2⟩) ?_
  refine ow_val (val_move (v := .bool true) rfl) rfl ?_
  refine ow_guard_yes (t := 29) rfl rfl rfl (ow_val (val_move (v := .slice a2 5 c2) rfl) rfl ?_)
  refine ow_guard_yes (t := 29) rfl rfl rfl (ow_val (val_build' (parts := _) (vs := [(0, vI 0), (1, .bool true)]) (cs := [vI 0, .bool true]) rfl (by kernel_rfl)) rfl ?_)
  refine ow_guard_yes (t := 29) rfl rfl rfl (ow_val (val_build' (parts := _) (vs := [(0, vI 1), (1, .bool true)]) (cs := [vI 1, .bool true]) rfl (by kernel_rfl)) rfl ?_)
  refine ow_guard_yes (t := 29) rfl rfl rfl (ow_val (val_build' (parts := _) (vs := [(0, vI 1), (1, .bool true)]) (cs := [vI 1, .bool true]) rfl (by kernel_rfl)) rfl ?_)
  refine ow_guard_yes (t := 29) rfl rfl rfl (ow_val (val_build' (parts := _) (vs := [(0, vI 0), (1, .bool true)]) (cs := [vI 0, .bool true]) rfl (by kernel_rfl)) rfl ?_)
  refine ow_guard_yes (t := 29) rfl rfl rfl (ow_val (val_build' (parts := _) (vs := [(0, vI 0)]) (cs := [vI 0, .bool false]) rfl (by kernel_rfl)) rfl ?_)
  refine ow_guard_yes (t := 29) rfl rfl rfl (ow_make (acts_buildSlice (cs := [vI 0, .bool true, vI 1, .bool true, vI 1, .bool true, vI 0, .bool true, vI 0, .bool false]) Try.underlying33 Try.sizeOf66 Try.zeroValue66 rfl rfl (by kernel_rfl)) rfl (fun b36 hb36 => ?_))
  refine ow_guard_yes (t := 29) rfl rfl rfl (ow_call_pure (v := .bool true) (callsTo Try.func17 rfl (by kernel_rfl) rfl) rfl (fun w hm => (alike_v (l1 := twoM) (l2 := twoM) (by obtain ⟨a', c', e, _, hr⟩ := hr.rd (i := 5) hm rfl; cases e; exact hr) (Rd.own hm (i := 0) rfl rfl) (by decide)).mono fun e u hu => ⟨_, hu.1, by rw [decide_eq_true rfl], mem_of_rv hu.2⟩) ?_)
  refine ow_val (val_pick_true (v := .bool true) rfl rfl) rfl ?_
  refine ow_val (val_assign (v := .bool true) rfl) rfl ?_
  exact ow_nil fun w hw => ⟨rfl, ⟨rfl, trivial⟩, Mem.rv hw⟩
set_option maxRecDepth 100000 in
set_option maxHeartbeats 4000000 in
theorem awake_v : @CallV _ Try.prog (coLaw Try.prog Post) 12 #[] v (fun r u => r = .returned (.bool true) ∧ RV v u) := by
  letI C : Co Try.prog := coLaw Try.prog Post
  refine callV_of_callI (callI_of_pt (vs := []) Try.func12 rfl rfl fun cf cs g1 g2 => ?_)
  refine Pt.imp (M' := Mem v [] []) (fun w hw => hw ▸ Mem.refl v) ?_
  refine pt_seq (pt_region ?_)
  refine pt_val (by decide) rfl (val_assign (v := .bool false) rfl) rfl ?_
  refine pt_regionEnd (pt_seq ?_)
  refine Pt.weaken (F' := [(0, .bool false)]) ⟨rfl, trivial⟩ (fun _ h => h) ?_
  refine pt_sw (by decide) sw_12_1 (fun F' y hq => ?_) (fun ex F' y hne hq => hne hq.1)
  obtain ⟨-, b7, b11, b12, hF, hy⟩ := hq
  refine Pt.weaken hF (M' := Mem v [] [some (b12, blk [.slice (some ⟨b7, 0, none⟩) 3 3, .slice (some ⟨b11, 0, none⟩) 3 3] 58), some (b11, blk [vI 1, vI 20, vI 2, vI 0, vI 1, vI 21] 61), some (b7, blk [vI 1, vI 10, vI 2, vI 0, vI 1, vI 11] 61)]) (fun w hw => hw ▸ hy) (pt_seq (pt_region ?_))
  clear hF hy
  refine pt_val (by decide) rfl (val_move (v := .slice (some ⟨b12, 0, none⟩) 2 2) rfl) rfl ?_
  refine pt_mk (by decide) rfl (acts_buildSlice (cs := [vI 0, vI 1, vI 1, vI 0, vI 0]) Try.underlying23 Try.sizeOf3 Try.zeroValue3 rfl rfl (by kernel_rfl)) rfl fun b15 hb15 => ?_
  refine pt_call (T := fun w r _ u => ∃ sb mv, r = .returned (.tuple #[vPtr sb, mv]) ∧ RV v w ∧ PlayU (.slice (some ⟨b12, 0, none⟩) 2 2) w sb mv (finM twoP twoQ false) u) (by decide) rfl (callsTo (xs := [.tmp 14, .tmp 15, .const (.bool false)]) (vs := [.slice (some ⟨b12, 0, none⟩) 2 2, .slice (some ⟨b15, 0, none⟩) 5 5, .bool false]) Try.func15 rfl (by decide) rfl) (by infer_instance) (fun w hw => callI_of_v ((plU_v (Post := Post) two_fit (two_prg hw.forget) (qs := twoQ) (cap := 5) ⟨fun k q hk => ⟨b15, 0, rfl, hw.lt (by simp [Go.Sx.keys]), by rw [Nat.zero_add, Go.Sx.cell_of_blk (hw.at (i := 0) rfl)]; exact two_cell hk⟩⟩).mono fun r u ⟨sb, mv, h1, h2⟩ => ⟨sb, mv, h1, Mem.rv hw, h2⟩)) (fun t' ht => by cases ht; rfl) (fun w r x' hw => ?_) (fun w ch x' hw a w' hf hl => ?_)
  rotate_left
  · obtain ⟨z, ⟨_, _, hz, _⟩, _⟩ := hl; cases hz
  refine Pt.world fun z hz => ?_
  obtain ⟨sb, mv, hr, hvw, hz⟩ := hz
  obtain rfl : r = .tuple #[vPtr sb, mv] := by cases hr; rfl
  obtain ⟨bs, pk, eb, ep, er, hm, h1, h2, h3⟩ := hz.ex
  rw [two_notes] at h1
  rw [two_moves] at h3
  obtain ⟨a1, c1, rfl, _⟩ := h1.slice
  obtain ⟨a2, c2, rfl, _⟩ := h3.slice
  refine Pt.imp (fun u hu => hu ▸ hm) ?_
  refine pt_val (by decide) rfl (val_move (v := .tuple #[vPtr sb, .slice a2 5 c2]) rfl) rfl ?_
  refine pt_val (by decide) rfl (val_extract (v := vPtr sb) rfl rfl) rfl ?_
  refine pt_val (by decide) rfl (val_extract (v := .slice a2 5 c2) rfl rfl) rfl ?_
  refine pt_val (by decide) rfl (val_assign (v := vPtr sb) rfl) rfl ?_
  refine pt_val (by decide) rfl (val_assign (v := .slice a2 5 c2) rfl) rfl ?_
  refine pt_regionEnd (pt_seq ?_)
  refine Pt.weaken (F' := [(2, vPtr sb), (3, .slice a2 5 c2)]) ⟨rfl, rfl, trivial⟩ (fun _ h => h) ?_
  refine pt_sw (by decide) (sw_12_3 h1 h3) (fun F' y hq => ?_) (fun ex F' y hne hq => hne hq.1)
  obtain ⟨-, hF, hy⟩ := hq
  refine Pt.weaken hF (M' := fun u => RV v u) (fun u hu => hu ▸ hvw.trans hy) ?_
  exact pt_ret (fn := Try.f12) (v := .bool true) Try.func12 rfl (fun a hf => res_slot rfl rfl hf) fun w hw => g1 _ () w (hw.mono fun q hq => ⟨rfl, hq⟩)
end
end Go.Bt
end
section
namespace Go.Bt
variable [Gnd]
open Go.Conc Go.ConcN Go.RowKit Go.Proofs
open Go.Sx (Rly RV pz pzo Co Lf Fits Pt Stb KS stepG_ret pl_ok_same reI_go ordO)
omit [Gnd] in
theorem stepG_last {P : Program} {b : Frame} {a : Act} {w : World} {fn : Func} {todo : List Item} {v : Value} {es : Array Event} (hf : P.funcs[b.fn]? = some fn) (hk : b.kind = .normal) (hd : a.defers = []) (hi : P.inits.idxOf? b.fn = none)
    (hv : (results fn a.tmps).runT P w #[] = (.ok v w, es)) : stepG P true (G { b.at a todo with mode := .returning } []) w = .ended (.done v) w (seen P b.fn es) := by
  have h0 : (results fn a.tmps).run P w = .ok v w := by have := congrArg Prod.fst hv; simpa using this
  have h1 : (results fn a.tmps).events P w #[] = es := by have := congrArg Prod.snd hv; simpa using this
  simp [G, stepG, unwind, Frame.at, hd, hf, h0, h1, doReturn, hk, GStep.after, hi]
section
variable {Post : Value → World → Prop} {b : Frame} {k : List Item} {F : Go.Sx.Fr} {M : World → Prop}
/-- GOROUTINE 0's RETURN. -/
theorem pt_last {fn : Func} {v : Value} [hS : Stb M] (hf : Try.prog.funcs[b.fn]? = some fn) (hk : b.kind = .normal) (hi : Try.prog.inits.idxOf? b.fn = none) (hv : ∀ a, Fits fn.ntmps F a → (results fn a.tmps).Pl Try.prog ∧ ∀ w, (results fn a.tmps).run Try.prog w = .ok v w)
    (h : ∀ w, KS w → M (pz w) → Post v w) : Pt (fun _ : Unit => coLaw Try.prog Post) fn.ntmps b [] () (.code .ret :: k) F M := fun a w hfit hm =>
  reI_go (R := fun _ : Unit => coLaw Try.prog Post) rfl (fun _ => stepG_ret) (LRe.ends rfl fun w₁ h₁ hK => by
    obtain ⟨es, h2, h3⟩ := pl_ok_same (hv a hfit).1 ((hv a hfit).2 (pz w₁))
    exact ⟨v, _, stepG_last hf hk hfit.defers hi h2, h3.seen, h w₁ hK (hm.rely h₁).here⟩)
end
/-- What there was in the beginning stands in the end. -/
theorem below_of {w : World} (hK : KS w) (hr : RV (pz Gnd.w0) (pz w)) : Below Gnd.w0.heap.size Gnd.w0 w := by
  refine ⟨hr.os, hr.tape, hr.output, hK.size, fun b hb => ?_⟩
  have h0 : Gnd.w0.heap[b]? = some Gnd.w0.heap[b] := Array.getElem?_eq_getElem hb
  generalize Gnd.w0.heap[b] = o at h0
  rw [h0]
  cases ho : ordO o with
  | false => exact hK.keep b o h0 ho
  | true =>
    have h1 : (pz Gnd.w0).heap[b]? = some o := by rw [Go.Sx.pz_heap, h0, Option.map_some, Go.Sx.pzo_of_spec (Go.Sx.spec_of_ordO ho)]
    have h2 := hr.heap b o h1
    rw [Go.Sx.pz_heap] at h2
    obtain ⟨o', h3, h4⟩ := Option.map_eq_some_iff.1 h2
    rw [h3]
    cases o with
    | cells c e fz =>
      cases o' with
      | cells c' e' fz' =>
        simp only [pzo] at h4
        split at h4
        · simp only [Obj.cells.injEq] at h4
          rw [← h4.2.1] at ho
          simp [ordO, Go.Sx.ord] at ho
        · split at h4
          · rw [h4]
          · rename_i hne
            simp only [Obj.cells.injEq] at h4
            rw [h4.2.1] at hne
            exact absurd ho hne
      | view a t => simp [pzo] at h4
      | _ => rw [show ∀ o : Obj, pzo o = pzo o from fun _ => rfl] at h4; first | exact congrArg some h4 | (simp [pzo] at h4)
    | _ => simp [ordO] at ho
end Go.Bt
namespace Go.Bt
open Go.Conc Go.ConcN Go.RowKit Go.Proofs
open Go.Sx (Rly RV pz Co Lf Fits Pt Stb KS enter_fits fr0 slots)
/-- From the walk to the run. -/
theorem law_run {Post : Value → World → Prop} {W : World} {f : FuncId} {fn : Func} {c : Code} {vs : List Value} (hf : Try.prog.funcs[f]? = some fn) (hb : fn.body = some c) (hlen : Nat.ble vs.length fn.ntmps = true)
    (h : letI : Gnd := ⟨W⟩; Pt (fun _ : Unit => coLaw Try.prog Post) fn.ntmps (fr0 f) [] () [.code c] (slots 0 vs) (· = pz W)) : EndsW Try.prog Post (solo (G (Frame.enter Try.prog f vs.toArray .normal) []) W) #[] := by
  letI : Gnd := ⟨W⟩
  obtain ⟨a, e, hfit⟩ := enter_fits (P := Try.prog) hf hb hlen
  rw [e]
  have h1 : LRe Try.prog Post (G ((fr0 f).at a [.code c]) []) W := h a W hfit ⟨pz W, rfl, RV.refl _⟩
  exact h1 W (Rly.refl _) ⟨Nat.le_refl _, fun b o hb _ => hb⟩ #[G ((fr0 f).at a [.code c]) []] none #[] (fun _ => 0) (fun _ => False) (lf_first _ _ _) rfl
end Go.Bt
end
section
namespace Go.Bt
variable [Gnd]
open Go.Conc Go.ConcN Go.RowKit Go.Proofs
open Go.Sx (RV pz pzo pz_heap spec isWg wgc Rd Sl vInt blk)
def noU (x : Value) : Prop := (∀ n, x ≠ .int .u64 n) ∧ ∀ n, x ≠ .int .u32 n
theorem wgc_no {c : Array Value} {j : Nat} {x : Value} (h : c[j]? = some x) (hx : noU x) : wgc c = false := by
  have h' : c.toList[j]? = some x := by rw [Array.getElem?_toList]; exact h
  cases hw : wgc c with
  | false => rfl
  | true =>
    unfold wgc at hw
    split at hw
    · rename_i a b he
      rw [he] at h'
      match j, h' with
      | 0, h => simp at h; exact absurd h.symm (hx.1 _)
      | 1, h => simp at h; exact absurd h.symm (hx.2 _)
      | j + 2, h => simp at h
    · cases hw
theorem pzo_nw {c : Array Value} {e : TypeId} {fz : Nat × Nat} (hw : wgc c = false) : pzo (.cells c e fz) = .cells c e (if Go.Sx.ord e then fz else (0, c.size)) := by
  simp only [pzo, hw, Bool.and_false, Bool.false_eq_true, if_false]
  split <;> rfl
/-- A cell that is seen in the world is seen in the sealed one. -/
theorem pz_cell {w : World} {a : Addr} {x : Value} (h : w.cell? a = some x) (hx : noU x) : (pz w).cell? a = some x := by
  unfold World.cell? at h ⊢
  rw [pz_heap]
  cases ho : w.heap[a.block]? with
  | none => rw [ho] at h; cases h
  | some o =>
    rw [ho] at h
    cases o with
    | cells c e fz =>
      cases hs : a.spot.isSome with
      | true => simp [hs] at h
      | false =>
        simp only [hs, Bool.false_eq_true, if_false] at h
        rw [Option.map_some, pzo_nw (wgc_no h hx)]
        simpa [hs] using h
    | view p t => simp at h
    | _ => simp at h
/-- A row in which two numbers stand side by side is nobody's. -/
theorem ints_ord {w : World} {b o : Nat} {x y : Int} (h1 : w.cell? ⟨b, o, none⟩ = some (.int .i64 x)) (h2 : w.cell? ⟨b, o + 1, none⟩ = some (.int .i64 y)) : OrdV (pz w) b := by
  unfold World.cell? at h1 h2
  cases ho : w.heap[b]? with
  | none => simp only [ho] at h1; cases h1
  | some ob =>
    simp only [ho] at h1 h2
    cases ob with
    | cells c e fz =>
      simp only [Option.isSome_none, Bool.false_eq_true, if_false] at h1 h2
      have hw := wgc_no h1 ⟨fun n => by simp, fun n => by simp⟩
      refine ⟨_, by rw [pz_heap, ho, Option.map_some], ?_, ?_⟩
      · rw [pzo_nw hw]
        have hsz : (c.size == 0) = false := by
          have := (Array.getElem?_eq_some_iff.1 h1).1
          exact beq_false_of_ne (by omega)
        simp only [spS, hw, hsz, Bool.or_self, Bool.and_false, Bool.false_or]
        obtain ⟨l⟩ := c
        simp only [List.getElem?_toArray] at h1 h2
        rw [Bool.or_eq_false_iff]
        refine ⟨?_, ?_⟩
        · rw [Bool.and_eq_false_iff]; right
          unfold shT
          split
          · rename_i p q r he
            have he : l = _ := he
            subst he
            match o, h1, h2 with
            | 0, h1, _ => simp at h1
            | 1, h1, _ => simp at h1
            | 2, _, h2 => simp at h2
            | o + 3, h1, _ => simp at h1
          · rfl
        · rw [Bool.and_eq_false_iff]; right
          unfold shA
          split
          · rename_i p q r s t he
            have he : l = _ := he
            subst he
            match o, h1, h2 with
            | 0, h1, _ => simp at h1
            | 1, h1, _ => simp at h1
            | 2, _, h2 => simp at h2
            | o + 3, h1, _ => simp at h1
          · rfl
      · simp only [pzo]; split
        · rfl
        · split <;> rfl
    | view p t => simp at h1
    | _ => simp at h1
/-- No slice of these lies in a row of turns, or of actors. -/
theorem rowAt_no {P : Program} {fits : TypeId → Bool} {d : Nat} {e : TypeId} {fs : Array Field} {count off n : Nat} (hu : P.underlying e = some (.struct fs)) (h0 : fits e = false) (hf : ∀ f ∈ fs, fits f.type = false ∧ (∀ gs, P.underlying f.type ≠ some (.struct gs)) ∧ (∀ m u, P.underlying f.type ≠ some (.array m u))) :
    rowAt P fits (d + 2) e count off n = false := by
  have inner : ∀ f ∈ fs, ∀ r n, rowAt P fits (d + 1) f.type 1 r n = false := fun f hfm r n => by
    obtain ⟨h1, h2, h3⟩ := hf f hfm
    unfold rowAt
    by_cases hs : P.cellsOf f.type = 0
    · simp [hs]
    · simp only [hs, if_false, h1, Bool.and_false, Bool.false_or]
  unfold rowAt
  by_cases hs : P.cellsOf e = 0
  · simp [hs]
  · simp only [hs, if_false, h0, hu, Bool.and_false, Bool.false_or]
    rw [Bool.and_eq_false_iff]; right
    rw [Bool.and_eq_false_iff]; right
    rw [Array.any_eq_false]
    intro i hi
    rw [inner _ (Array.getElem_mem hi)]
    simp
end Go.Bt
end
section
namespace Go.Bt
variable [Gnd]
open Go.Conc Go.ConcN Go.RowKit Go.Proofs
open Go.Sx (RV pz pzo pz_heap spec isWg wgc Rd Sl vInt blk)
theorem fits58 (d : Nat) {t : TypeId} (h : (Try.prog.underlyingId t == Try.prog.underlyingId 58) = false) : sameLayout Try.prog (d + 1) t 58 = false := by
  unfold sameLayout
  rw [h, Try.underlying58, Bool.false_or]
  cases Try.prog.underlying t with
  | none => rfl
  | some x => cases x <;> rfl
theorem nsa {t : TypeId} {d : TypeDesc} (h : Try.prog.underlying t = some d) (hd : (match d with | .struct _ => false | .array _ _ => false | _ => true) = true) : (∀ gs, Try.prog.underlying t ≠ some (.struct gs)) ∧ (∀ m u, Try.prog.underlying t ≠ some (.array m u)) := by
  constructor
  · intro gs h'
    rw [h] at h'
    have h' := Option.some.inj h'
    subst h'
    cases hd
  · intro m u h'
    rw [h] at h'
    have h' := Option.some.inj h'
    subst h'
    cases hd
set_option maxRecDepth 100000 in
theorem lies_no {e : TypeId} {fs : Array Field} {count off n : Nat} (hu : Try.prog.underlying e = some (.struct fs)) (h0 : (Try.prog.underlyingId e == Try.prog.underlyingId 58) = false)
    (hf : ∀ f ∈ fs, (Try.prog.underlyingId f.type == Try.prog.underlyingId 58) = false ∧ (∀ gs, Try.prog.underlying f.type ≠ some (.struct gs)) ∧ (∀ m u, Try.prog.underlying f.type ≠ some (.array m u))) : liesAt Try.prog Try.prog.depth e count off 58 n = false := by
  obtain ⟨k, hk⟩ : ∃ k, Try.prog.depth = k + 2 := ⟨Try.prog.depth - 2, by
    have : 2 ≤ Try.prog.depth := by decide +kernel
    omega⟩
  rw [hk]
  unfold liesAt
  rw [hk, rowAt_no hu (fits58 _ h0) (fun f hfm => ⟨fits58 _ (hf f hfm).1, (hf f hfm).2⟩), Try.underlying58]
  rfl
theorem lies48 {count off n : Nat} : liesAt Try.prog Try.prog.depth 48 count off 58 n = false := by
  refine lies_no Try.underlying48 (by kernel_rfl) fun f hf => ?_
  simp only [List.mem_toArray, List.mem_cons, List.not_mem_nil, or_false] at hf
  rcases hf with rfl | rfl | rfl
  · exact ⟨by kernel_rfl, nsa Try.underlying45 rfl⟩
  · exact ⟨by kernel_rfl, nsa Try.underlying46 rfl⟩
  · exact ⟨by kernel_rfl, nsa Try.underlying3 rfl⟩
theorem lies85 {count off n : Nat} : liesAt Try.prog Try.prog.depth 85 count off 58 n = false := by
  refine lies_no Try.underlying85 (by kernel_rfl) fun f hf => ?_
  simp only [List.mem_toArray, List.mem_cons, List.not_mem_nil, or_false] at hf
  rcases hf with rfl | rfl | rfl
  · exact ⟨by kernel_rfl, nsa Try.underlying44 rfl⟩
  · exact ⟨by kernel_rfl, nsa Try.underlying83 rfl⟩
  · exact ⟨by kernel_rfl, nsa Try.underlying4 rfl⟩
/-- The row in which the programs lie. -/
theorem outer_ord {w : World} {r : Reach} {base b o n : Nat} {x : Value} (h : w.has Try.prog r base ⟨b, o, none⟩ 58 n) {j : Nat} (h1 : w.cell? ⟨b, o + j, none⟩ = some x) (hx : noU x) : OrdV (pz w) b := by
  obtain ⟨_, _, row, cells, hs, hl⟩ := h
  unfold World.shape? at hs
  unfold World.cell? at h1
  cases ho : w.heap[b]? with
  | none => simp only [ho] at h1; cases h1
  | some ob =>
    simp only [ho] at h1 hs
    cases ob with
    | cells c e fz =>
      simp only [Option.some.injEq, Prod.mk.injEq] at hs
      obtain ⟨rfl, rfl⟩ := hs
      simp only [Option.isSome_none, Bool.false_eq_true, if_false] at h1
      have hw := wgc_no h1 hx
      refine ⟨_, by rw [pz_heap, ho, Option.map_some], ?_, ?_⟩
      · rw [pzo_nw hw]
        have hsz : (c.size == 0) = false := by
          have := (Array.getElem?_eq_some_iff.1 h1).1
          exact beq_false_of_ne (by omega)
        have e48 : (e == 48) = false := by
          cases h : e == 48 with
          | false => rfl
          | true => rw [show e = 48 from by simpa using h, lies48] at hl; cases hl
        have e85 : (e == 85) = false := by
          cases h : e == 85 with
          | false => rfl
          | true => rw [show e = 85 from by simpa using h, lies85] at hl; cases hl
        simp only [spS, hw, hsz, e48, e85, Bool.or_self, Bool.and_false, Bool.false_and]
      · rw [pzo_nw hw]; rfl
    | view p t => simp at h1
    | _ => simp at h1
/-- The programs as they are read. -/
def insOf (s : Sl (Int × Int × Unit)) : List Ins := s.xs.map fun x => (x.1, x.2.1)
abbrev insC (x : Int × Int × Unit) : List Value := [vInt x.1] ++ ([vInt x.2.1] ++ [])
theorem insC_flat (l : List (Int × Int × Unit)) : l.flatMap insC = flatB (l.map fun x => (x.1, x.2.1)) := by
  unfold flatB
  rw [List.flatMap_map]; rfl
theorem flat_one {α : Type} (V : α → Value) (l : List α) : (l.flatMap fun x => [V x]) = l.map V := by
  induction l with
  | nil => rfl
  | cons y r ih => rw [List.flatMap_cons, ih]; rfl
/-- A program's instructions. -/
theorem inner_vrd {w : World} {s : Sl (Int × Int × Unit)} (h : Rd w s.a (s.xs.flatMap insC)) : VRd (pz w) s.a (flatB (insOf s)) := fun j y hy => by
  rw [insC_flat] at h
  have hy : (flatB (insOf s))[j]? = some y := hy
  obtain ⟨b, o, ha, hc⟩ := h j y hy
  have h0 : 0 < (insOf s).length := by
    rcases Nat.eq_zero_or_pos (insOf s).length with h1 | h1
    · rw [List.length_eq_zero_iff.1 h1] at hy; simp [flatB] at hy
    · exact h1
  obtain ⟨g1, g2⟩ := flatB_get (get_getD h0)
  obtain ⟨b1, o1, e1, c1⟩ := h _ _ g1
  obtain ⟨b2, o2, e2, c2⟩ := h _ _ g2
  rw [ha] at e1 e2
  simp only [Option.some.injEq, Addr.mk.injEq, and_true] at e1 e2
  obtain ⟨rfl, rfl⟩ := e1
  obtain ⟨rfl, rfl⟩ := e2
  have hn : noU y := by
    have hm := List.mem_of_getElem? hy
    unfold flatB at hm
    obtain ⟨z, _, hz⟩ := List.mem_flatMap.1 hm
    simp only [List.mem_cons, List.not_mem_nil, or_false] at hz
    rcases hz with rfl | rfl <;> exact ⟨(fun n h => by cases h), (fun n h => by cases h)⟩
  exact ⟨b, o, ha, pz_cell hc hn, ints_ord (o := o + 2 * 0) c1 c2⟩
set_option maxRecDepth 100000 in
/-- ████ THE PROGRAMS. ████ -/
theorem prg_of {w : World} {base : Nat} {x : Sl (Sl (Int × Int × Unit))} (hv : Value.okWide Try.prog w .any base 22 x.v) (hr : Rd w x.a (x.xs.flatMap fun s : Sl (Int × Int × Unit) => [s.v])) (hi : ∀ s ∈ x.xs, Rd w s.a (s.xs.flatMap insC)) (hl : ∀ s ∈ x.xs, s.xs.length ≤ 4611686018427387904) :
    PrgV (pz w) x.v (x.xs.map insOf) where
  ex := by
    rw [flat_one] at hr
    refine ⟨x.a, x.c, by rw [List.length_map]; rfl, fun i p hp => ?_⟩
    rw [List.getElem?_map] at hp
    obtain ⟨s, hs, rfl⟩ := Option.map_eq_some_iff.1 hp
    obtain ⟨b, o, ha, hc⟩ := hr i s.v (by rw [List.getElem?_map, hs]; rfl)
    have hn : noU s.v := ⟨(fun n h => by cases h), (fun n h => by cases h)⟩
    refine ⟨b, o, s.a, s.c, ha, by rw [pz_cell hc hn]; unfold insOf; rw [List.length_map]; rfl, ?_, inner_vrd (hi s (List.mem_of_getElem? hs))⟩
    have hok : Go.Cell.okWide Try.prog w .any base 22 x.v := by
      unfold Value.okWide at hv
      rw [Try.underlying22] at hv
      exact hv
    unfold Go.Cell.okWide at hok
    rw [Try.underlying22] at hok
    simp only [Sl.v, ha] at hok
    unfold Go.Cell.ok at hok
    rw [Try.underlying22] at hok
    exact outer_ord hok.2.2 hc hn
  len := fun p hp => by
    obtain ⟨s, hs, rfl⟩ := List.mem_map.1 hp
    unfold insOf; rw [List.length_map]; exact hl s hs
/-- The picks. -/
theorem qv_of {w : World} {a : Option Addr} {qs : List Int} (h : Rd w a (qs.flatMap fun x => [vInt x])) : QV (pz w) a qs := by
  rw [flat_one] at h
  refine ⟨fun k q hk => ?_⟩
  obtain ⟨b, o, ha, hc⟩ := h k (vInt q) (by rw [List.getElem?_map, hk]; rfl)
  exact ⟨b, o, ha, by rw [Go.Sx.pz_size]; exact World.block_lt_of_cell? _ _ hc, pz_cell hc ⟨(fun n h => by cases h), (fun n h => by cases h)⟩⟩
end Go.Bt
end
section
namespace Go.Sx
open Go.Conc Go.Bt
variable {H : Type} {enc : TypeId × Value → H}
/-- One good run from every start, under a bound. -/
theorem returnsInLeaving_of_cond {a : Assume} {C : Checked} {os : Os} {f : FuncId} {fn : Func} {s : OpenSpec} {k : (H : Type) → List (DataW H) → Bool} (hk : s.cond = some k) {F : Stop.Interp} {conds : List PathCond} {apart fresh handsOn again : Bool}
    (own : ownKnob C.prog.godebug = none) (started : os.Started) (hfn : C.prog.funcs[f]? = some fn)
    (witness : ∃ (w : World) (tape : Tape) (i : Input), w.os = os ∧ (w.forCall tape i).Shaped C.prog ∧ i.vars = [] ∧ Input.okWide C.prog (w.forCall tape i) .any w.heap.size f i ∧
      s.pre6 enc C.prog fn conds apart (w.forCall tape i).memory i.args ∧ a.holds C.prog (lone (Frame.enter C.prog f i.args .normal) [] (w.forCall tape i)))
    (runs : ∀ (W : World) (base : Nat) (args : Array Value) (ds gs : List (DataW H)) (before : List MemPlace),
      (∀ (j : Nat) t v, fn.params[j]? = some t → args[j]? = some v → Value.okWide C.prog W .any base t v) →
      DataW.Whole enc C.prog fn.params.toList s.vars apart W args.toList ds gs before →
      (DataW.weightsEach C.prog (fn.params.toList ++ s.bare.plain.varTypes C.prog) (ds ++ gs)).all (· ≤ reachBytes) = true → k H (ds ++ gs) = true →
      EndsW C.prog (fun v W' => (s.at F).post enc C.prog fn apart fresh handsOn again W args v W') (solo (G (Frame.enter C.prog f args .normal) []) W) #[]) :
    ReturnsInLeavingWide a C os f .any (s.pre6 enc C.prog fn conds apart) ((s.at F).post enc C.prog fn apart fresh handsOn again) := by
  refine returnsInLeavingWide_of_good own started witness ?_
  intro w tape i _ _ _ hok hpre _
  obtain ⟨_, _, _, fn', hfn', _, _, _, _, hval⟩ := hok
  have e : fn' = fn := Option.some.inj (hfn'.symm.trans hfn)
  subst e
  obtain ⟨ds, gs, before, hw, _, hkk⟩ := (OpenSpec.pre_some hk conds apart _ _).1 hpre.1
  have hw' := DataW.Whole.of_heap (w' := w.forCall tape i) (by rfl) hw
  obtain ⟨M, last, o, w', t', h1, h2, h3, h4⟩ := runs (w.forCall tape i) w.heap.size i.args ds gs before hval hw' (hpre.2.weights hw) hkk
  exact ⟨M, last, o, w', t', h1, h2, h3, h4.mono fun v hp => ChangeSpec.post_blind hp⟩
/-- A row that says 'leaving' and is bound holds. -/
theorem holds_leaving {p : Pinned} {s : OpenSpec} {c : OpenClaim} (f : FuncId) (fn : Func)
    (names : c.program = p.name ∧ c.sum = p.sum ∧ c.spec = s.name) (hstart : c.start = .entering) (hout : c.outside = []) (plain : c.inits = [] ∧ c.under = none ∧ (c.initsInPlace = [] ∧ c.initsUnfollowed = false ∧ c.initsRecurse = false ∧ c.initsNamed = [] ∧ c.initsPassed = []))
    (hnb : c.noBlocks = false) (hlv : c.leaving = true) (hfo : c.followed = none) (hnar : c.narrowed = s.cond.isSome) (hstill : c.still = false) (hfn : p.checked.prog.funcNamed c.func = some f) (hf : p.checked.prog.funcs[f]? = some fn)
    (closed : joinedFacts p.checked.prog f fn s.bare c = true) (hinst : fn.isInstance p.checked.prog c.origin c.targs) (hwrap : fn.isWrapper p.checked.prog c.wrapper c.mainSum)
    (h : ∀ os : Os, os.Started → ∀ (H : Type) (enc : TypeId × Value → H), (∀ a b, enc a = enc b → a = b) → ∀ F : Stop.Interp,
      ReturnsInLeavingWide c.assume p.checked os f .any (c.pre enc p.checked.prog fn s) ((s.at F).post enc p.checked.prog fn c.apart c.fresh c.handsOn c.again)) : c.holds p s := by
  simp only [joinedFacts, Bool.and_eq_true, beq_iff_eq, Array.all_eq_true_iff_forall_mem, List.all_eq_true, decide_eq_true_eq] at closed
  obtain ⟨⟨⟨⟨⟨⟨⟨⟨⟨⟨⟨⟨⟨⟨⟨⟨⟨⟨⟨⟨⟨⟨⟨⟨⟨⟨⟨⟨⟨⟨⟨f1, f2⟩, f3⟩, f4⟩, f5⟩, f6⟩, f7⟩, f8⟩, f9⟩, f10⟩, f11⟩, f12⟩, f13⟩, f14⟩, f15⟩, f16⟩, f17⟩, f17b⟩, f18⟩, f19⟩, f20⟩, f21⟩, f22⟩, f23⟩, f23b⟩, f24⟩, f24b⟩, f24c⟩, f25⟩, f26⟩, f27⟩, f28⟩ := closed
  have fits : c.startFits p.checked.prog := by unfold OpenClaim.startFits; rw [hstart]; exact f24
  have told : c.startTold p.checked.prog := by unfold OpenClaim.startTold; rw [hstart]; exact plain
  have quiet : ∀ os : Os, Stop.quiet p.checked.prog os := fun os k hk => by rw [f9] at hk; cases hk
  have narrow : c.narrowed = (c.outside.any OutsideCond.fixesBytes || s.cond.isSome || c.shortTexts.isSome) := by
    rw [hout, hnar]
    cases hsh : c.shortTexts with
    | none => simp
    | some _ => rw [hsh] at f23; cases f23
  refine ⟨f1, names.1, names.2.1, names.2.2, f2, f3, fits, told, f, fn, hfn, hf, ⟨f4, f19⟩, (fun hb => by rw [hnb] at hb; cases hb), by unfold OpenClaim.namedList; rw [hfo]; exact f5, hinst, hwrap,
    f6.trans f7.symm, ⟨f8.trans f9.symm, by unfold Program.envWorded; rw [f9]; rfl, f23b⟩, f10, f11, f12, f13, f14, ⟨f15, f27, f28⟩, ⟨f16, f20⟩, ⟨f17, f21, f25, f26⟩, ⟨f22, f24b, f24c, f17b⟩, narrow, fun n hn' => varReadable_some (f18 n hn'),
    ⟨_, by unfold OpenClaim.world; rw [hout, hstart]; exact WideRow.started_initial, quiet _⟩, [], by unfold OpenClaim.lists; rw [hfo], fun os st _ H enc inj => ?_⟩
  have begun : os.Started := by unfold OpenClaim.world at st; rw [hout, hstart] at st; exact st
  have g1 : c.okInput = Input.okWide := by unfold OpenClaim.okInput; rw [hnb]
  have g2 : c.atReturn p.checked.prog = leavingAtReturn p.checked.prog := by unfold OpenClaim.atReturn; rw [hlv]
  have g3 : c.always p.checked.prog [] = nothingAlways := by unfold OpenClaim.always; rw [hfo]
  rw [OpenClaim.post_not_still hstill]
  unfold OpenClaim.form
  rw [hstart, f6]
  intro F
  have g4 : s.post enc p.checked.prog fn F c.outside c.apart c.fresh c.handsOn c.again = (s.at F).post enc p.checked.prog fn c.apart c.fresh c.handsOn c.again := by rw [hout]; rfl
  rw [g1, g2, g3]
  show ReturnsInOpen _ _ _ _ _ _ _ _ (s.post enc p.checked.prog fn F c.outside c.apart c.fresh c.handsOn c.again) _ _
  rw [g4]
  exact h os begun H enc inj F f24
end Go.Sx
namespace Go.Proofs.Ytjiajflhfnmkmaa
open Go.Sx Go.Bt Go.Conc Go.ChangeShapes Go.WideShapes Go.ChangeAt Go.RowKit
theorem own : ownKnob Try.prog.godebug = none := by kernel_rfl
theorem laidOut : laidOutB Try.prog = true := by kernel_rfl
theorem bulkAll {H : Type} : ∀ l : List (DataW H), Rows.uptoBulkAll l = (l.map Rows.uptoBulk).sum
  | [] => rfl
  | x :: r => by rw [Rows.uptoBulkAll, bulkAll r]; rfl
theorem bulk {H : Type} : Bulk (H := H) Rows.uptoBulk where
  pos d := by
    cases d with
    | lit l => cases l <;> simp [Rows.uptoBulk]
    | _ => simp [Rows.uptoBulk]
  slice el sp := by rw [Rows.uptoBulk, bulkAll, bulkAll]
  agg ps := by rw [Rows.uptoBulk, bulkAll]
  str bs := by simp [Rows.uptoBulk]
theorem bulk_bound {H : Type} {l : List (DataW H)} (hk : Rows.uptoSmall H l = true) : (l.map Rows.uptoBulk).sum ≤ 1048576 := by
  rw [← bulkAll]; simpa [Rows.uptoSmall] using hk
section
variable [Gnd] {H : Type} {enc : TypeId × Value → H}
theorem o3 : Opener enc Try.prog Rows.uptoBulk 3 (fun x => [vInt x]) okInt noSz := opener_int bulk Try.underlying3
theorem o4 : Opener enc Try.prog Rows.uptoBulk 4 (fun x => [.bool x]) noOk noSz := opener_bool bulk Try.underlying4
theorem o23 : Opener enc Try.prog Rows.uptoBulk 23 (fun s : Sl Int => [s.v]) (Sl.ok (fun x => [vInt x]) 8 okInt) (Sl.sz noSz) := opener_slice (n := 1) (b := 8) bulk Try.underlying23 (by kernel_rfl) (by kernel_rfl) (by decide) o3
theorem o61 : Opener enc Try.prog Rows.uptoBulk 61 insC (fun w (x : Int × Int × Unit) => (okInt w x.1 ∧ (okInt w x.2.1 ∧ noOk w x.2.2))) (fun x : Int × Int × Unit => noSz x.1 + (noSz x.2.1 + noSz x.2.2)) := by
  have h := (fields_cons (enc := enc) (P := Try.prog) (B := Rows.uptoBulk) (t := 3) (k := 0) (n := 1) (by kernel_rfl) o3 (fields_cons (t := 3) (k := 1) (n := 1) (by kernel_rfl) o3 fields_nil))
  exact opener_struct (L := [(3, 0), (3, 1)]) bulk Try.underlying61 (by kernel_rfl) (by kernel_rfl) h
theorem o58 : Opener enc Try.prog Rows.uptoBulk 58 (fun s : Sl (Int × Int × Unit) => [s.v]) (Sl.ok insC 16 (fun w (x : Int × Int × Unit) => (okInt w x.1 ∧ (okInt w x.2.1 ∧ noOk w x.2.2)))) (Sl.sz (fun x : Int × Int × Unit => noSz x.1 + (noSz x.2.1 + noSz x.2.2))) :=
  opener_slice (n := 2) (b := 16) bulk Try.underlying58 (by kernel_rfl) (by kernel_rfl) (by decide) o61
theorem o22 : Opener enc Try.prog Rows.uptoBulk 22 (fun s : Sl (Sl (Int × Int × Unit)) => [s.v]) (Sl.ok (fun s : Sl (Int × Int × Unit) => [s.v]) 24 (Sl.ok insC 16 (fun w (x : Int × Int × Unit) => (okInt w x.1 ∧ (okInt w x.2.1 ∧ noOk w x.2.2))))) (Sl.sz (Sl.sz (fun x : Int × Int × Unit => noSz x.1 + (noSz x.2.1 + noSz x.2.2)))) :=
  opener_slice (n := 1) (b := 24) bulk Try.underlying22 (by kernel_rfl) (by kernel_rfl) (by decide) o58
/-- The programs are small. -/
theorem prg_small {W : World} {x : Sl (Sl (Int × Int × Unit))} {n : Nat} (hok : Sl.ok (fun s : Sl (Int × Int × Unit) => [s.v]) 24 (Sl.ok insC 16 (fun w (x : Int × Int × Unit) => (okInt w x.1 ∧ (okInt w x.2.1 ∧ noOk w x.2.2)))) W x)
    (hs : Sl.sz (Sl.sz (fun x : Int × Int × Unit => noSz x.1 + (noSz x.2.1 + noSz x.2.2))) x < n) (hn : n ≤ 1048576) : ((x.xs.map insOf).map List.length).sum ≤ 4611686018427387904 ∧ (x.xs.map insOf).length ≤ 4611686018427387904 ∧ ∀ s ∈ x.xs, s.xs.length ≤ 4611686018427387904 := by
  have hl := hok.le
  have key : ∀ l : List (Sl (Int × Int × Unit)), (∀ s ∈ l, s.xs.length ≤ s.c) → ((l.map insOf).map List.length).sum ≤ (l.map (Sl.sz (fun x : Int × Int × Unit => noSz x.1 + (noSz x.2.1 + noSz x.2.2)))).sum ∧ ∀ s ∈ l, s.xs.length ≤ (l.map (Sl.sz (fun x : Int × Int × Unit => noSz x.1 + (noSz x.2.1 + noSz x.2.2)))).sum := by
    intro l
    induction l with
    | nil => intro _; exact ⟨Nat.le_refl _, fun s h => by cases h⟩
    | cons s r ih =>
      intro h
      obtain ⟨i1, i2⟩ := ih fun y hy => h y (List.mem_cons_of_mem _ hy)
      have h1 := h s (List.mem_cons_self ..)
      have h2 : (insOf s).length = s.xs.length := by unfold insOf; rw [List.length_map]
      have h3 : s.c ≤ Sl.sz (fun x : Int × Int × Unit => noSz x.1 + (noSz x.2.1 + noSz x.2.2)) s := by unfold Sl.sz; omega
      simp only [List.map_cons, List.sum_cons, h2]
      refine ⟨by omega, fun y hy => ?_⟩
      rcases List.mem_cons.1 hy with rfl | hy
      · omega
      · have := i2 y hy; omega
  obtain ⟨k1, k2⟩ := key x.xs fun s hs => (hok.each s hs).le
  have h4 : Sl.sz (Sl.sz (fun x : Int × Int × Unit => noSz x.1 + (noSz x.2.1 + noSz x.2.2))) x = x.c + (x.xs.map (Sl.sz (fun x : Int × Int × Unit => noSz x.1 + (noSz x.2.1 + noSz x.2.2)))).sum := rfl
  refine ⟨by omega, by rw [List.length_map]; omega, fun s hs' => ?_⟩
  have := k2 s hs'
  omega
end
end Go.Proofs.Ytjiajflhfnmkmaa
end
section
namespace Go.Sx
variable [Gnd]
open Go.Conc Go.Proofs
theorem Rd.rv {w u : World} {a : Option Addr} {xs : List Value} (h : Rd w a xs) (hr : RV w u) : Rd u a xs := fun j x hx => let ⟨b, o, e1, e2⟩ := h j x hx; ⟨b, o, e1, Go.Bt.cell_rv' e2 hr⟩
end Go.Sx
namespace Go.Bt
variable [Gnd]
open Go.Conc Go.ConcN Go.RowKit Go.Proofs
open Go.Sx (Rly RV pz pzo pz_heap spec isWg Gud Co blk RowE Rd Mem CallV vInt CallI SW Sub Stb Pt callV_of_callI callI_of_pt pt_seq pt_sw pt_true pt_false pt_cond pt_if pt_skip pt_region pt_regionEnd pt_val pt_call pt_act pt_do pt_ret val_assign val_move val_load val_load_at val_load_all val_build' val_len val_not val_extract val_nilCheck val_fieldAddr val_lss_int val_gtr_int val_pick_true val_pick_false tame_nilCheck tame_int acts_box acts_alloc acts_buildSlice does_store_all callsTo ev_eval res_two res_slot Fits sw_region sw_region_lex ow_val ow_nil ow_make ow_call_pure ow_guard_yes ow_guard_no ow_guard_none lw_pure lw_held lw_nil lw_call_pure lwg_pure lwg_held lwg_call_pure lwg_no mem_of_rv pick wg)
section
variable {v : World} {pv : Value} {ps : List (List Ins)} {qs : List Int} {calm : Bool} {Post : Value → World → Prop}
theorem QV.grow {z : World} {qa : Option Addr} (h : QV v qa qs) (hr : RV v z) : QV z qa qs :=
  ⟨fun k q hk => let ⟨b, o, e1, e2, e3⟩ := h.cells k q hk; ⟨b, o, e1, Nat.lt_of_lt_of_le e2 hr.size, cell_rv' e3 hr⟩⟩
/-- What a play leaves, told plainly. -/
theorem PlayU.facts {sb : Nat} {mv : Value} {m : Mac} {u : World} (h : PlayU pv v sb mv m u) : ∃ a1 c1 a2 c2 a3 c3, u.heap[sb]? = some (blk [pv, .slice a1 m.bd.notes.length c1, .slice a3 m.bd.pks.length c3] 40) ∧ Rd u a1 (flatB m.bd.notes) ∧ Rd u a3 (m.bd.pks.map vI) ∧ mv = .slice a2 m.moves.length c2 ∧ Rd u a2 (flatM m.moves) ∧ RV v u := by
  obtain ⟨bs, pk, eb, ep, er, hm, h1, h2, h3⟩ := h.ex
  obtain ⟨a1, c1, rfl, _, r1⟩ := h1.rd (i := 1) hm rfl
  obtain ⟨a3, c3, rfl, _, r3⟩ := h2.rd (i := 2) hm rfl
  obtain ⟨a2, c2, rfl, _, r2⟩ := h3.rd (i := 3) hm rfl
  exact ⟨a1, c1, a2, c2, a3, c3, hm.at (i := 0) rfl, r1, r3, rfl, r2, Mem.rv hm⟩
noncomputable def c3 : Code := Try.f3.body.getD .skip
set_option maxRecDepth 100000 in
set_option maxHeartbeats 4000000 in
theorem sw_3_3 [C : Co Try.prog] {qa : Option Addr} {cap : Nat} (hfit : ∀ w, Mem v [] [] w → CallV Try.prog 13 #[pv, .slice qa qs.length cap] w (fun r u => r = .returned (.bool (isFit ps qs)) ∧ RV w u)) (hend : ∀ w, Mem v [] [] w → CallV Try.prog 14 #[pv] w (fun r u => r = .returned (.bool (isEndless ps)) ∧ RV w u)) :
    SW Try.prog 47 (cL (cL (cR (cR c3)))) [(0, pv), (1, .slice qa qs.length cap), (2, .bool calm)] (Mem v [] []) (fun ex F' w => ex = .normal ∧ Sub ((22, .bool (!isFit ps qs || (calm && isEndless ps))) :: [(0, pv), (1, .slice qa qs.length cap), (2, .bool calm)]) F' ∧ Mem v [] [] w) := by
  show SW Try.prog 47 (Code.region 3 _ false) _ _ _
  refine sw_region ?_
  refine ow_val (val_move (v := pv) rfl) rfl ?_
  refine ow_val (val_move (v := .slice qa qs.length cap) rfl) rfl ?_
  refine ow_call_pure (v := .bool (isFit ps qs)) (callsTo Try.func13 rfl (by kernel_rfl) rfl) rfl (fun w hm => (hfit w hm).mono fun e u hu => ⟨_, hu.1, rfl, mem_of_rv hu.2⟩) ?_
  refine ow_val (val_not rfl) rfl ?_
  refine ow_val (val_move (v := .bool (!isFit ps qs)) rfl) rfl ?_
  generalize isFit ps qs = b1
  cases b1 with
  | false =>
    refine ow_guard_no (t := 16) rfl rfl rfl rfl rfl ?_
    refine ow_guard_no (t := 16) rfl rfl rfl rfl rfl ?_
    refine ow_guard_none (t := 18) rfl rfl rfl rfl rfl ?_
    refine ow_guard_none (t := 18) rfl rfl rfl rfl rfl ?_
    refine ow_guard_no (t := 16) rfl rfl rfl rfl rfl ?_
    refine ow_val (val_pick_true (v := .bool true) rfl rfl) rfl ?_
    exact ow_nil fun w hw => ⟨rfl, ⟨rfl, rfl, rfl, rfl, trivial⟩, hw⟩
  | true =>
    refine ow_guard_yes (t := 16) rfl rfl rfl (ow_val (val_move (v := .bool calm) rfl) rfl ?_)
    refine ow_guard_yes (t := 16) rfl rfl rfl (ow_val (val_move (v := .bool calm) rfl) rfl ?_)
    cases calm with
    | false =>
      refine ow_guard_no (t := 18) rfl rfl rfl rfl rfl ?_
      refine ow_guard_no (t := 18) rfl rfl rfl rfl rfl ?_
      refine ow_guard_yes (t := 16) rfl rfl rfl (ow_val (val_pick_false (v := .bool false) rfl rfl) rfl ?_)
      refine ow_val (val_pick_false (v := .bool false) rfl rfl) rfl ?_
      exact ow_nil fun w hw => ⟨rfl, ⟨rfl, rfl, rfl, rfl, trivial⟩, hw⟩
    | true =>
      refine ow_guard_yes (t := 18) rfl rfl rfl (ow_val (val_move (v := pv) rfl) rfl ?_)
      refine ow_guard_yes (t := 18) rfl rfl rfl (ow_call_pure (v := .bool (isEndless ps)) (callsTo Try.func14 rfl (by kernel_rfl) rfl) rfl (fun w hm => (hend w hm).mono fun e u hu => ⟨_, hu.1, rfl, mem_of_rv hu.2⟩) ?_)
      refine ow_guard_yes (t := 16) rfl rfl rfl (ow_val (val_pick_true (v := .bool (isEndless ps)) rfl rfl) rfl ?_)
      refine ow_val (val_pick_false (v := .bool (isEndless ps)) rfl rfl) rfl ?_
      exact ow_nil fun w hw => ⟨rfl, ⟨rfl, rfl, rfl, rfl, trivial⟩, hw⟩
set_option maxRecDepth 100000 in
set_option maxHeartbeats 4000000 in
theorem sw_3_7 [C : Co Try.prog] {m : Mac} {sb t9 c1 c2 c4 c5 : Nat} {a1 a2 a4 a5 : Option Addr} {pk s1 s2 s3 : Value} {eb em : Go.Sx.Ent} (hst : v.heap[sb]? = some (blk [pv, .slice a1 m.bd.notes.length c1, pk] 40)) (r1 : Rd v a1 (flatB m.bd.notes)) (r2 : Rd v a2 (flatM m.moves)) (hb : RowE (.slice a4 m.bd.notes.length c4) 56 2 m.bd.notes.length (flatB m.bd.notes) eb) (hr : RowE (.slice a5 m.moves.length c5) 66 2 m.moves.length (flatM m.moves) em)
    (l1 : m.bd.notes.length ≤ 4611686018427387904) (l2 : m.moves.length ≤ 4611686018427387904) :
    SW Try.prog 47 (cL (cR (cR (cR (cR (cR c3)))))) [(7, vPtr sb), (8, .slice a2 m.moves.length c2), (9, vPtr t9)] (Mem v [] [some (t9, blk [pv, s1, s2, s3, .slice a4 m.bd.notes.length c4, .slice a5 m.moves.length c5] 35), eb, em]) (fun ex F' w => ex = .normal ∧ Sub [(6, .bool true)] F' ∧ RV v w) := by
  have hcl : ∀ w, Mem v [] [some (t9, blk [pv, s1, s2, s3, .slice a4 m.bd.notes.length c4, .slice a5 m.moves.length c5] 35), eb, em] w → w.cell? ⟨sb, 1, none⟩ = some (.slice a1 m.bd.notes.length c1) := fun w hw => cell_rv' (by rw [Go.Sx.cell_of_blk hst]; rfl) (Mem.rv hw)
  show SW Try.prog 47 (Code.region 7 _ true) _ _ _
  refine sw_region_lex (fun w => Mem v [] [some (t9, blk [pv, s1, s2, s3, .slice a4 m.bd.notes.length c4, .slice a5 m.moves.length c5] 35), eb, em] w) [] [(0, 0), (1, 0), (2, 1), (3, 2), (4, 0), (5, 0), (6, 0), (7, 0), (8, 1), (9, 0), (10, 1), (11, 2), (12, 0), (13, 0)] (by kernel_rfl) (by kernel_rfl) (fun c F w h => by cases h.1) (fun _ h => h) (fun w h => h.drawn _) ?_
  refine lw_pure rfl (val_move (v := .slice a2 m.moves.length c2) rfl) rfl ?_
  refine lw_pure rfl (val_fieldAddr (b := t9) (o := 0) (e := 5) rfl Try.underlying35 rfl rfl Try.sizeOf33 rfl) rfl ?_
  refine lw_held rfl (val_load_at (v := .slice a5 m.moves.length c5) 0 rfl rfl Try.isAgg33 rfl) rfl ?_
  refine lw_call_pure (v := .bool true) rfl (callsTo Try.func17 rfl (by kernel_rfl) rfl) rfl (fun w hm => (alike_v (l1 := m.moves) (l2 := m.moves) (r2.rv (Mem.rv hm)) (by obtain ⟨a', c', e, _, hr⟩ := hr.rd (i := 2) hm rfl; cases e; exact hr) l2).mono fun e u hu => ⟨_, hu.1, by rw [decide_eq_true rfl], mem_of_rv hu.2⟩) ?_
  refine lw_pure rfl (val_move (v := .bool true) rfl) rfl ?_
  refine lwg_pure rfl (wg rfl rfl) (val_move (v := vPtr sb) rfl) rfl ?_
  refine lwg_pure rfl (wg rfl rfl) (val_nilCheck (a := ⟨sb, 0, none⟩) rfl) rfl ?_ (hT := tame_nilCheck rfl)
  refine lwg_pure rfl (wg rfl rfl) (val_fieldAddr (b := sb) (o := 0) (e := 1) rfl Try.underlying40 rfl rfl Try.sizeOf32 rfl) rfl ?_
  refine lwg_held rfl (wg rfl rfl) (val_load rfl Try.isAgg32 (v := .slice a1 m.bd.notes.length c1) (fun w h => hcl w h)) rfl ?_
  refine lwg_pure rfl (wg rfl rfl) (val_fieldAddr (b := t9) (o := 0) (e := 4) rfl Try.underlying35 rfl rfl Try.sizeOf32 rfl) rfl ?_
  refine lwg_held rfl (wg rfl rfl) (val_load_at (v := .slice a4 m.bd.notes.length c4) 0 rfl rfl Try.isAgg32 rfl) rfl ?_
  refine lwg_call_pure (v := .bool true) rfl (wg rfl rfl) (callsTo Try.func18 rfl (by kernel_rfl) rfl) rfl (fun w hm => (notes_v (l1 := m.bd.notes) (l2 := m.bd.notes) (r1.rv (Mem.rv hm)) (by obtain ⟨a', c', e, _, hr⟩ := hb.rd (i := 1) hm rfl; cases e; exact hr) l1).mono fun e u hu => ⟨_, hu.1, by rw [decide_eq_true rfl], mem_of_rv hu.2⟩) ?_
  refine lw_pure rfl (val_pick_true (v := .bool true) rfl rfl) rfl ?_
  refine lw_pure rfl (val_assign (v := .bool true) rfl) rfl ?_
  exact lw_nil fun w hw => ⟨rfl, ⟨rfl, trivial⟩, Mem.rv hw⟩
theorem fin_small (hF : Fit ps qs) : (finM ps qs calm).bd.notes.length ≤ 4611686018427387904 ∧ (finM ps qs calm).moves.length ≤ 4611686018427387904 := by
  rcases Nat.eq_zero_or_pos ps.length with h0 | hn
  · obtain rfl : ps = [] := List.length_eq_zero_iff.1 h0
    unfold finM; rw [mac_nil]; exact ⟨Nat.zero_le _, Nat.zero_le _⟩
  · have hJ := calmJ_le ps qs calm
    have hq := hF.q
    have h1 := hF.notes hn (k := qs.length + calmJ ps qs calm) (by omega)
    have h2 := (mac_len (qs := qs) hn (qs.length + calmJ ps qs calm)).2
    unfold finM; omega
set_option maxRecDepth 100000 in
set_option maxHeartbeats 8000000 in
/-- ████ BATONPLAYS. ████ -/
theorem plays_p {S : List Frame} (hy : ∀ (F : Go.Sx.Fr) (t : List Item), Sub [(6, .bool true)] F → Pt (fun _ : Unit => coLaw Try.prog Post) 47 (Go.Sx.fr0 3) S () (.code .ret :: t) F (fun w => RV v w)) {qa : Option Addr} {cap : Nat} (hG : PrgV v pv ps) (hsum : (ps.map List.length).sum ≤ 4611686018427387904) (hlen : ps.length ≤ 4611686018427387904) (hQ : QV v qa qs) :
    Pt (fun _ : Unit => coLaw Try.prog Post) 47 (Go.Sx.fr0 3) S () [.code c3] (Go.Sx.slots 0 [pv, .slice qa qs.length cap, .bool calm]) (· = v) := by
  letI C : Co Try.prog := coLaw Try.prog Post
  obtain ⟨pa, pc, hpv, _⟩ := hG.ex
  have hone : pv.oneCell' = true := by rw [hpv]; rfl
  have hyes : ∀ (M : World → Prop) (hM : ∀ w, M w → RV v w) (F : Go.Sx.Fr) (t : List Item), Sub [(6, .bool true)] F → Pt (fun _ : Unit => C) 47 (Go.Sx.fr0 3) S () (.code .ret :: t) F M := fun M hM F t hF => Pt.imp hM (hy F t hF)
  refine Pt.imp (M' := fun w => RV v w) (fun w hw => hw ▸ RV.refl _) (pt_seq (pt_region ?_))
  refine pt_val (by decide) rfl (val_assign (v := .bool false) rfl) rfl ?_
  refine pt_regionEnd (pt_seq (pt_seq (pt_region ?_)))
  refine pt_call (T := fun w r _ u => r = .returned (.bool true) ∧ RV w u) (by decide) rfl (callsTo (xs := []) (vs := []) Try.func12 rfl (by decide) rfl) (by infer_instance) (fun w hw => callI_of_v (awake_v (Post := Post))) (fun t' ht => by cases ht; rfl) (fun w r x' hw => ?_) (fun w ch x' hw a w' hf hl => ?_)
  rotate_left
  · obtain ⟨z, ⟨hz, _⟩, _⟩ := hl; cases hz
  refine Pt.world fun z hz => ?_
  obtain ⟨hr, hz⟩ := hz
  obtain rfl : r = .bool true := by cases hr; rfl
  replace hz := RV.trans hw hz
  clear hr hw
  have hGz := hG.grow hz
  refine Pt.imp (M' := Mem z [] []) (fun u hu => hu ▸ Mem.refl z) ?_
  refine pt_val (by decide) rfl (val_not rfl) rfl (pt_regionEnd (pt_false rfl (pt_skip (pt_seq (pt_seq ?_)))))
  refine Pt.weaken (F' := [(0, pv), (1, .slice qa qs.length cap), (2, .bool calm)]) ⟨rfl, rfl, rfl, trivial⟩ (fun _ h => h) ?_
  refine pt_sw (by decide) (sw_3_3 (fun w hw => fit_v (hGz.grow (Mem.rv hw)) hsum hlen) (fun w hw => endless_v (hGz.grow (Mem.rv hw)) hlen)) (fun F' y hq => ?_) (fun ex F' y hne hq => hne hq.1)
  obtain ⟨-, hF, hy⟩ := hq
  refine Pt.weaken hF (M' := Mem z [] []) (fun w hw => hw ▸ hy) (pt_cond rfl (fun hs => ?_) (fun hs => pt_skip ?_))
  · refine pt_seq (pt_region (pt_val (by decide) rfl (val_assign (v := .bool true) rfl) rfl (pt_regionEnd ?_)))
    exact hyes _ (fun w hw => hz.trans (Mem.rv hw)) _ _ ⟨rfl, trivial⟩
  clear hF hy
  have hFit : Fit ps qs := fit_iff.1 (by simpa using (Bool.or_eq_false_iff.1 hs).1)
  obtain ⟨hl1, hl2⟩ := fin_small (calm := calm) hFit
  refine pt_seq (pt_region ?_)
  refine pt_val (by decide) rfl (val_move (v := pv) rfl) rfl ?_
  refine pt_val (by decide) rfl (val_move (v := .slice qa qs.length cap) rfl) rfl ?_
  refine pt_val (by decide) rfl (val_move (v := .bool calm) rfl) rfl ?_
  refine pt_call (T := fun w r _ u => ∃ sb mv, r = .returned (.tuple #[vPtr sb, mv]) ∧ PlayU pv w sb mv (finM ps qs calm) u) (by decide) rfl (callsTo (xs := [.tmp 24, .tmp 25, .tmp 26]) (vs := [pv, .slice qa qs.length cap, .bool calm]) Try.func15 rfl (by decide) rfl) (by infer_instance) (fun w hw => callI_of_v (plU_v (Post := Post) hFit (hGz.grow (Mem.rv hw)) (hQ.grow (hz.trans (Mem.rv hw))))) (fun t' ht => by cases ht; rfl) (fun w r x' hw => ?_) (fun w ch x' hw a w' hf hl => ?_)
  rotate_left
  · obtain ⟨z, ⟨_, _, hz, _⟩, _⟩ := hl; cases hz
  refine Pt.world fun z2 hz2 => ?_
  obtain ⟨sb, mv, hr, hU⟩ := hz2
  obtain rfl : r = .tuple #[vPtr sb, mv] := by cases hr; rfl
  obtain ⟨a1, c1, a2, c2, a3, c3', hst, r1, r3, rfl, r2, hv2⟩ := hU.facts
  replace hv2 := hz.trans ((Mem.rv hw).trans hv2)
  clear hr hw hU
  refine Pt.imp (M' := Mem z2 [] []) (fun u hu => hu ▸ Mem.refl z2) ?_
  refine pt_val (by decide) rfl (val_move (v := .tuple #[vPtr sb, .slice a2 (finM ps qs calm).moves.length c2]) rfl) rfl ?_
  refine pt_val (by decide) rfl (val_extract (v := vPtr sb) rfl rfl) rfl ?_
  refine pt_val (by decide) rfl (val_extract (v := .slice a2 (finM ps qs calm).moves.length c2) rfl rfl) rfl ?_
  refine pt_val (by decide) rfl (val_assign (v := vPtr sb) rfl) rfl ?_
  refine pt_val (by decide) rfl (val_assign (v := .slice a2 (finM ps qs calm).moves.length c2) rfl) rfl ?_
  refine pt_regionEnd (pt_seq (pt_region ?_))
  refine pt_val (by decide) rfl (val_move (v := pv) rfl) rfl ?_
  refine pt_val (by decide) rfl (val_move (v := .slice qa qs.length cap) rfl) rfl ?_
  refine pt_val (by decide) rfl (val_move (v := .bool calm) rfl) rfl ?_
  refine pt_call (T := fun w r _ u => ∃ x, r = .returned x ∧ RefM w pv (finM ps qs calm) x u) (by decide) rfl (callsTo (xs := [.tmp 30, .tmp 31, .tmp 32]) (vs := [pv, .slice qa qs.length cap, .bool calm]) Try.func16 rfl (by decide) rfl) (by infer_instance) (fun w hw => callI_of_v (rplay_v hFit (hG.grow (hv2.trans (Mem.rv hw))) (hQ.grow (hv2.trans (Mem.rv hw))))) (fun t' ht => by cases ht; rfl) (fun w r x' hw => ?_) (fun w ch x' hw a w' hf hl => ?_)
  rotate_left
  · obtain ⟨z, ⟨_, hz, _⟩, _⟩ := hl; cases hz
  refine Pt.world fun z3 hz3 => ?_
  obtain ⟨x, hr, hM⟩ := hz3
  obtain rfl : r = x := by cases hr; rfl
  obtain ⟨s1, s2, s3, bs, ms, eb, em, rfl, ⟨hs1, hs2, hs3⟩, hb, hm, hMm⟩ := hM.ex
  obtain ⟨a4, c4, rfl, _⟩ := hb.slice
  obtain ⟨a5, c5, rfl, _⟩ := hm.slice
  have hM2 : Mem z2 [] ([eb, em] ++ []) z3 := hw.call hMm
  refine Pt.imp (M' := Mem z2 [] [eb, em]) (fun u hu => hu ▸ hM2) ?_
  refine pt_new (by decide) rfl (acts_alloc Try.zeroValue35) rfl fun t9 ht9 => ?_
  refine pt_do (by decide) rfl (does_store_all 0 (cs := [pv, s1, s2, s3, .slice a4 (finM ps qs calm).bd.notes.length c4, .slice a5 (finM ps qs calm).moves.length c5]) rfl rfl rfl (by intro x hx; simp only [List.mem_cons, List.not_mem_nil, or_false] at hx; rcases hx with rfl | rfl | rfl | rfl | rfl | rfl <;> first | exact hone | rfl | exact hs1 | exact hs2 | exact hs3) Try.sizeOf35 rfl rfl) fun _ _ => ?_
  refine pt_regionEnd (pt_seq ?_)
  refine Pt.weaken (F' := [(7, vPtr sb), (8, .slice a2 (finM ps qs calm).moves.length c2), (9, vPtr t9)]) ⟨rfl, rfl, rfl, trivial⟩ (fun _ h => h) ?_
  refine pt_sw (by decide) (sw_3_7 (m := finM ps qs calm) hst r1 r2 hb hm hl1 hl2) (fun F' y hq => ?_) (fun ex F' y hne hq => hne hq.1)
  obtain ⟨-, hF, hy⟩ := hq
  exact hyes (fun w => w = y) (fun w hw => hw ▸ hv2.trans hy) _ _ hF
end
end Go.Bt
end
