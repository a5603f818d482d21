/- A PLAY OF THE BATON: what the row rests on. -/
import Derived.Test.YtjiajflhfnmkmaaOSplits
set_option linter.unusedVariables false
set_option linter.unusedSimpArgs false
set_option linter.unusedSectionVars false
section
namespace Go.Sx
variable [Gnd]
open Go.Conc Go.Proofs
set_option linter.unusedVariables false
theorem val_sub_int {P : Program} {n : Nat} {F : Fr} {S : World → Prop} {ty : TypeId} {T V : TypeId} {x y : Operand} {a b : Int} (r : Int) (hx : ev F x = some (vInt a)) (hy : ev F y = some (vInt b)) (hr : a - b = r) (hb : -9223372036854775808 ≤ r ∧ r ≤ 9223372036854775807) : Val P n F S (.binOp .sub T x y V) ty (vInt r) :=
  bin_int hx hy fun w => by
    subst hr
    simp only [binOp, Op.intArith, ne_eq, not_true, if_false, vInt, Sem.run_pure, Result.ok.injEq, Value.int.injEq, true_and, and_true]
    exact wrap_i64 _ hb.1 hb.2
theorem RowE.rdAt {w0 : World} {olds : List Nat} {a : Option Addr} {c k size : Nat} {T : TypeId} {xs : List Value} {e : Ent} (h : RowE (.slice a k c) T size k xs e) {l : List Ent} {w : World} {i : Nat} (hm : Mem w0 olds l w) (hp : pick l i = e) : Rd w a xs := by
  obtain ⟨a', cap, e', _, hr⟩ := h.rd hm hp
  simp only [Value.slice.injEq] at e'
  rw [e'.1]; exact hr
end Go.Sx
end
section
namespace Go.Bt
variable [Gnd]
open Go.Conc Go.ConcN Go.RowKit Go.Proofs
open Go.Sx (Rly RV pz pzo pz_heap spec isWg Gud Co blk RowE Rd Mem CallV vInt CallI SW Sub Stb Pt run_two lin_equal_two lin_equal_int lin_equal_bool callV_of_callI callI_of_pt pt_seq pt_sw pt_true pt_false pt_cond pt_if pt_skip pt_region pt_regionEnd pt_val pt_call pt_act pt_do pt_draw pt_ret pt_block pt_inBlock pt_exit pt_loop_inv lz_val val_assign val_move val_load val_load_at val_load_all val_load_elem val_build' val_len val_not val_extract val_nilCheck val_fieldAddr val_indexAddr_slice val_slice_lo val_slice_hi val_neq_agg tame_two val_rem_int val_rem_to val_eql_int val_lss_int val_geq_int val_neq_int val_add_int val_gtr_int val_pick_true val_pick_false tame_nilCheck tame_int acts_box acts_alloc acts_buildSlice acts_append ow_append' does_store_all callsTo ev_eval res_two res_slot Fits sw_region sw_region_lex ow_val ow_nil ow_make ow_call_pure ow_guard_yes ow_guard_no ow_guard_none lw_pure lw_held lw_nil lw_call_pure lwg_pure lwg_held lwg_call_pure lwg_no mem_of_rv pick wg)
noncomputable def c4 : Code := Try.f4.body.getD .skip
noncomputable def r4j : Code := match c4 with
  | .seq _ (.seq _ (.seq _ (.seq _ (.seq _ (.seq _ (.seq _ (.seq _ (.seq (.seq c _) _)))))))) => c
  | _ => .skip
/-- An element of two cells written over. -/
theorem rowE_set2 {mv : Value} {T : TypeId} {n k : Nat} {xs : List Value} {er : Go.Sx.Ent} (h : RowE mv T 2 n xs er) (hk : k < n) : ∃ b cap rest, mv = .slice (some ⟨b, 0, none⟩) n cap ∧ er = some (b, blk (xs ++ rest) T) ∧ 0 + k * 2 + 2 ≤ (xs ++ rest).length ∧ ∀ u y, ∃ xs', RowE mv T 2 n xs' (some (b, blk ((xs ++ rest).take (0 + k * 2) ++ [u, y] ++ (xs ++ rest).drop (0 + k * 2 + 2)) T)) := by
  obtain ⟨hl, ⟨h1, h2, _⟩ | ⟨b, cap, rest, h1, h2, h3, h4, h5⟩⟩ := h
  · omega
  · refine ⟨b, cap, rest, h1, h5, by rw [List.length_append]; omega, fun u y => ⟨xs.take (k * 2) ++ [u, y] ++ xs.drop (k * 2 + 2), ?_, .inr ⟨b, cap, rest, h1, h2, h3, ?_, ?_⟩⟩⟩
    · simp only [List.length_append, List.length_take, List.length_drop, List.length_cons, List.length_nil]; omega
    · rw [List.length_append] at h4 ⊢
      simp only [List.length_append, List.length_take, List.length_drop, List.length_cons, List.length_nil]; omega
    · rw [Nat.zero_add, List.take_append_of_le_length (by omega), List.drop_append_of_le_length (by omega)]
      simp only [List.append_assoc]
section
variable {v : World} {pv : Value} {ps : List (List Ins)} {qs : List Int} {calm : Bool} {Post : Value → World → Prop}
set_option maxRecDepth 100000 in
set_option maxHeartbeats 4000000 in
theorem sw_4_3 [C : Co Try.prog] {qa : Option Addr} {cap : Nat} (hfit : ∀ w, Mem v [] [] w → CallV Try.prog 13 #[pv, .slice qa qs.length cap] w (fun r u => r = .returned (.bool (isFit ps qs)) ∧ RV w u)) (hend : ∀ w, Mem v [] [] w → CallV Try.prog 14 #[pv] w (fun r u => r = .returned (.bool (isEndless ps)) ∧ RV w u)) :
    SW Try.prog 174 (cL (cL (cR (cR c4)))) [(0, pv), (1, .slice qa qs.length cap), (2, .bool calm)] (Mem v [] []) (fun ex F' w => ex = .normal ∧ Sub ((30, .bool (!isFit ps qs || (calm && isEndless ps))) :: [(0, pv), (1, .slice qa qs.length cap), (2, .bool calm)]) F' ∧ Mem v [] [] w) := by
  show SW Try.prog 174 (Code.region 3 _ false) _ _ _
  refine sw_region ?_
  refine ow_val (val_move (v := pv) rfl) rfl ?_
  refine ow_val (val_move (v := .slice qa qs.length cap) rfl) rfl ?_
  refine ow_call_pure (v := .bool (isFit ps qs)) (callsTo Try.func13 rfl (by kernel_rfl) rfl) rfl (fun w hm => (hfit w hm).mono fun e u hu => ⟨_, hu.1, rfl, mem_of_rv hu.2⟩) ?_
  refine ow_val (val_not rfl) rfl ?_
  refine ow_val (val_move (v := .bool (!isFit ps qs)) rfl) rfl ?_
  generalize isFit ps qs = b1
  cases b1 with
  | false =>
    refine ow_guard_no (t := 24) rfl rfl rfl rfl rfl ?_
    refine ow_guard_no (t := 24) rfl rfl rfl rfl rfl ?_
    refine ow_guard_none (t := 26) rfl rfl rfl rfl rfl ?_
    refine ow_guard_none (t := 26) rfl rfl rfl rfl rfl ?_
    refine ow_guard_no (t := 24) rfl rfl rfl rfl rfl ?_
    refine ow_val (val_pick_true (v := .bool true) rfl rfl) rfl ?_
    exact ow_nil fun w hw => ⟨rfl, ⟨rfl, rfl, rfl, rfl, trivial⟩, hw⟩
  | true =>
    refine ow_guard_yes (t := 24) rfl rfl rfl (ow_val (val_move (v := .bool calm) rfl) rfl ?_)
    refine ow_guard_yes (t := 24) rfl rfl rfl (ow_val (val_move (v := .bool calm) rfl) rfl ?_)
    cases calm with
    | false =>
      refine ow_guard_no (t := 26) rfl rfl rfl rfl rfl ?_
      refine ow_guard_no (t := 26) rfl rfl rfl rfl rfl ?_
      refine ow_guard_yes (t := 24) rfl rfl rfl (ow_val (val_pick_false (v := .bool false) rfl rfl) rfl ?_)
      refine ow_val (val_pick_false (v := .bool false) rfl rfl) rfl ?_
      exact ow_nil fun w hw => ⟨rfl, ⟨rfl, rfl, rfl, rfl, trivial⟩, hw⟩
    | true =>
      refine ow_guard_yes (t := 26) rfl rfl rfl (ow_val (val_move (v := pv) rfl) rfl ?_)
      refine ow_guard_yes (t := 26) rfl rfl rfl (ow_call_pure (v := .bool (isEndless ps)) (callsTo Try.func14 rfl (by kernel_rfl) rfl) rfl (fun w hm => (hend w hm).mono fun e u hu => ⟨_, hu.1, rfl, mem_of_rv hu.2⟩) ?_)
      refine ow_guard_yes (t := 24) rfl rfl rfl (ow_val (val_pick_true (v := .bool (isEndless ps)) rfl rfl) rfl ?_)
      refine ow_val (val_pick_false (v := .bool (isEndless ps)) rfl rfl) rfl ?_
      exact ow_nil fun w hw => ⟨rfl, ⟨rfl, rfl, rfl, rfl, trivial⟩, hw⟩
set_option maxRecDepth 100000 in
set_option maxHeartbeats 4000000 in
theorem sw_4_5 [C : Co Try.prog] {qa : Option Addr} {cap : Nat} (hq : Rd v qa (qs.map vI)) (l1 : qs.length ≤ 1048576) :
    SW Try.prog 174 (cL (cR (cR (cR c4)))) [(0, pv), (1, .slice qa qs.length cap), (2, .bool calm)] (Mem v [] []) (fun ex F' w => ex = .normal ∧ ∃ a c e, RowE (.slice a (qs.length + 2) c) 3 1 (qs.length + 2) ((qs ++ [71, 72]).map vI) e ∧ Sub [(7, .slice a (qs.length + 2) c), (0, pv), (1, .slice qa qs.length cap), (2, .bool calm)] F' ∧ Mem v [] [e] w) := by
  obtain ⟨ti, hi, hz, hsz, hby⟩ : ∃ i, Try.prog.info? 3 = some i ∧ i.zero = some (vInt 0) ∧ i.size = 1 ∧ i.bytes = 8 := ⟨_, rfl, rfl, rfl, rfl⟩
  show SW Try.prog 174 (Code.region 5 _ false) _ _ _
  refine sw_region ?_
  refine ow_make (acts_buildSlice (parts := []) (vs := []) (cs := []) Try.underlying23 Try.sizeOf3 Try.zeroValue3 rfl rfl (by kernel_rfl)) rfl (fun bb hbb => ?_)
  refine ow_val (val_move (v := .slice qa qs.length cap) rfl) rfl ?_
  refine ow_append' (k := 0 + qs.length) (acts_append (size := 1) (bytes := 8) (ys := qs.map vI) 0 rfl rfl rfl (RowE.full (b := bb) (n := 0) (T := 3) (size := 1) (xs := []) rfl (by decide)) rfl Try.underlying23 hi hz hsz hby rfl (by decide) (fun w hw => hq.rv (Mem.rv hw)) (by rw [List.length_map, Nat.mul_one]) (by intro u hu; obtain ⟨q, _, rfl⟩ := List.mem_map.1 hu; rfl) (by omega) (by omega)) rfl (fun a5 c5 e5 hr5 => ?_)
  rw [Nat.zero_add, List.nil_append] at hr5
  rw [Nat.zero_add]
  refine ow_make (acts_buildSlice (vs := [(0, vI 71), (1, vI 72)]) (cs := [vI 71, vI 72]) Try.underlying23 Try.sizeOf3 Try.zeroValue3 rfl rfl (by kernel_rfl)) rfl (fun b2 hb2 => ?_)
  refine ow_append' (k := qs.length + 2) (acts_append (size := 1) (bytes := 8) (ys := [vI 71, vI 72]) 1 rfl rfl rfl hr5 rfl Try.underlying23 hi hz hsz hby rfl (by decide) (fun w hm => Rd.own hm (i := 0) rfl rfl) rfl (by intro u hu; simp only [List.mem_cons, List.not_mem_nil, or_false] at hu; rcases hu with rfl | rfl <;> rfl) (by omega) (by omega)) rfl (fun a6 c6 e6 hr6 => ?_)
  have hr6' : RowE (.slice a6 (qs.length + 2) c6) 3 1 (qs.length + 2) ((qs ++ [71, 72]).map vI) e6 := by rw [List.map_append]; exact hr6
  refine ow_val (val_assign (v := .slice a6 (qs.length + 2) c6) rfl) rfl ?_
  exact ow_nil fun w hw => ⟨rfl, a6, c6, e6, hr6', ⟨rfl, rfl, rfl, rfl, trivial⟩, hw.forget⟩
set_option maxRecDepth 100000 in
set_option maxHeartbeats 8000000 in
theorem sw_4_10 [C : Co Try.prog] {sb sb2 t q cap cf M c1 ck1 c2 ck2 c5 bf of : Nat} {a1 ak1 a2 ak2 a5 qa : Option Addr} {x8 : Value} {l : List (Int × Int)} {mvs : List (Int × Bool)} (hM : M = mvs.length) (hc1 : v.cell? ⟨sb, 1, none⟩ = some (.slice a1 l.length c1)) (hk1 : v.cell? ⟨sb2, 1, none⟩ = some (.slice ak1 l.length ck1)) (ht : v.cell? ⟨t, 5, none⟩ = some (.slice a5 M c5))
    (h71 : v.cell? ⟨bf, of + q, none⟩ = some (vI 71)) (h72 : v.cell? ⟨bf, of + (q + 1), none⟩ = some (vI 72)) (r1 : Rd v a1 (flatB l)) (rk1 : Rd v ak1 (flatB l)) (r2 : Rd v a2 (flatM mvs)) (rk2 : Rd v ak2 (flatM mvs)) (r5 : Rd v a5 (flatM mvs)) (hl1 : l.length ≤ 4611686018427387904) (hl2 : M ≤ 4611686018427387904) (hq : q ≤ 1048576) :
    SW Try.prog 174 r4j [(1, .slice qa q cap), (7, .slice (some ⟨bf, of, none⟩) (q + 2) cf), (8, x8), (9, vPtr sb), (10, .slice a2 M c2), (11, vPtr t), (12, vPtr sb2), (13, .slice ak2 M ck2)] (Mem v [] []) (fun ex F' w => ex = .normal ∧ Sub [(98, .bool false), (1, .slice qa q cap), (7, .slice (some ⟨bf, of, none⟩) (q + 2) cf), (8, x8), (10, .slice a2 M c2), (11, vPtr t), (13, .slice ak2 M ck2)] F' ∧ RV v w) := by
  subst hM
  show SW Try.prog 174 (Code.region 10 _ true) _ _ _
  refine sw_region_lex (Mem v [] []) [] [(0, 0), (1, 0), (2, 1), (3, 2), (4, 0), (5, 0), (6, 0), (7, 0), (8, 1), (9, 2), (10, 0), (11, 0), (12, 0), (13, 0), (14, 0), (15, 0), (16, 1), (17, 0), (18, 0), (19, 0), (20, 1), (21, 2), (22, 0), (23, 0), (24, 0), (25, 0), (26, 0), (27, 0), (28, 0), (29, 1), (30, 0), (31, 0), (32, 0), (33, 0), (34, 0), (35, 0), (36, 0), (37, 0), (38, 1), (39, 0), (40, 0)] (by kernel_rfl) (by kernel_rfl) (fun c F w h => by cases h.1) (fun _ h => h) (fun w h => h.drawn _) ?_
  refine lw_pure rfl (val_move (v := .slice a2 mvs.length c2) rfl) rfl ?_
  refine lw_pure rfl (val_fieldAddr (b := t) (o := 0) (e := 5) rfl Try.underlying35 rfl rfl Try.sizeOf33 rfl) rfl ?_
  refine lw_held rfl (val_load rfl Try.isAgg33 (v := .slice a5 mvs.length c5) (fun w h => cell_rv' ht (Mem.rv h))) rfl ?_
  refine lw_call_pure (v := .bool true) rfl (callsTo Try.func17 rfl (by kernel_rfl) rfl) rfl (fun w hm => (alike_v (l1 := mvs) (l2 := mvs) (r2.rv (Mem.rv hm)) (r5.rv (Mem.rv hm)) hl2).mono fun e u hu => ⟨_, hu.1, by rw [decide_eq_true rfl], mem_of_rv hu.2⟩) ?_
  refine lw_pure rfl (val_not rfl) rfl ?_
  refine lw_pure rfl (val_move (v := .bool false) rfl) rfl ?_
  refine lwg_pure rfl (wg rfl rfl) (val_move (v := .slice ak2 mvs.length ck2) rfl) rfl ?_
  refine lwg_pure rfl (wg rfl rfl) (val_fieldAddr (b := t) (o := 0) (e := 5) rfl Try.underlying35 rfl rfl Try.sizeOf33 rfl) rfl ?_
  refine lwg_held rfl (wg rfl rfl) (val_load rfl Try.isAgg33 (v := .slice a5 mvs.length c5) (fun w h => cell_rv' ht (Mem.rv h))) rfl ?_
  refine lwg_call_pure (v := .bool true) rfl (wg rfl rfl) (callsTo Try.func17 rfl (by kernel_rfl) rfl) rfl (fun w hm => (alike_v (l1 := mvs) (l2 := mvs) (rk2.rv (Mem.rv hm)) (r5.rv (Mem.rv hm)) hl2).mono fun e u hu => ⟨_, hu.1, by rw [decide_eq_true rfl], mem_of_rv hu.2⟩) ?_
  refine lwg_pure rfl (wg rfl rfl) (val_not rfl) rfl ?_
  refine lw_pure rfl (val_pick_false (v := .bool false) rfl rfl) rfl ?_
  refine lw_pure rfl (val_move (v := .bool false) rfl) rfl ?_
  refine lwg_pure rfl (wg rfl rfl) (val_move (v := vPtr sb) rfl) rfl ?_
  refine lwg_pure rfl (wg rfl rfl) (val_nilCheck (a := ⟨sb, 0, none⟩) rfl) rfl ?_ (hT := tame_nilCheck rfl)
  refine lwg_pure rfl (wg rfl rfl) (val_fieldAddr (b := sb) (o := 0) (e := 1) rfl Try.underlying40 rfl rfl Try.sizeOf32 rfl) rfl ?_
  refine lwg_held rfl (wg rfl rfl) (val_load rfl Try.isAgg32 (v := .slice a1 l.length c1) (fun w h => cell_rv' hc1 (Mem.rv h))) rfl ?_
  refine lwg_pure rfl (wg rfl rfl) (val_move (v := vPtr sb2) rfl) rfl ?_
  refine lwg_pure rfl (wg rfl rfl) (val_nilCheck (a := ⟨sb2, 0, none⟩) rfl) rfl ?_ (hT := tame_nilCheck rfl)
  refine lwg_pure rfl (wg rfl rfl) (val_fieldAddr (b := sb2) (o := 0) (e := 1) rfl Try.underlying40 rfl rfl Try.sizeOf32 rfl) rfl ?_
  refine lwg_held rfl (wg rfl rfl) (val_load rfl Try.isAgg32 (v := .slice ak1 l.length ck1) (fun w h => cell_rv' hk1 (Mem.rv h))) rfl ?_
  refine lwg_call_pure (v := .bool true) rfl (wg rfl rfl) (callsTo Try.func18 rfl (by kernel_rfl) rfl) rfl (fun w hm => (notes_v (l1 := l) (l2 := l) (r1.rv (Mem.rv hm)) (rk1.rv (Mem.rv hm)) hl1).mono fun e u hu => ⟨_, hu.1, by rw [decide_eq_true rfl], mem_of_rv hu.2⟩) ?_
  refine lwg_pure rfl (wg rfl rfl) (val_not rfl) rfl ?_
  refine lw_pure rfl (val_pick_false (v := .bool false) rfl rfl) rfl ?_
  refine lw_pure rfl (val_move (v := .bool false) rfl) rfl ?_
  refine lwg_pure rfl (wg rfl rfl) (val_move (v := .slice (some ⟨bf, of, none⟩) (q + 2) cf) rfl) rfl ?_
  refine lwg_pure rfl (wg rfl rfl) (val_move (v := .slice qa q cap) rfl) rfl ?_
  refine lwg_pure rfl (wg rfl rfl) (val_len (len := q) rfl Try.underlying23) rfl ?_
  refine lwg_pure rfl (wg rfl rfl) (val_indexAddr_slice (m := 1) q (of + q) rfl rfl Try.underlying23 Try.sizeOf3 rfl (by omega) (by omega)) rfl ?_
  refine lwg_held rfl (wg rfl rfl) (val_load rfl Try.isAgg3 (v := vI 71) (fun w h => cell_rv' h71 (Mem.rv h))) rfl ?_
  refine lwg_pure rfl (wg rfl rfl) (val_neq_int (a := 71) (b := 71) rfl rfl) rfl ?_ (hT := tame_int rfl rfl)
  rw [decide_eq_false (show ¬ (71 : Int) ≠ 71 from fun h => h rfl)]
  refine lw_pure rfl (val_pick_false (v := .bool false) rfl rfl) rfl ?_
  refine lw_pure rfl (val_move (v := .bool false) rfl) rfl ?_
  refine lwg_pure rfl (wg rfl rfl) (val_move (v := .slice (some ⟨bf, of, none⟩) (q + 2) cf) rfl) rfl ?_
  refine lwg_pure rfl (wg rfl rfl) (val_move (v := .slice qa q cap) rfl) rfl ?_
  refine lwg_pure rfl (wg rfl rfl) (val_len (len := q) rfl Try.underlying23) rfl ?_
  refine lwg_pure rfl (wg rfl rfl) (val_add_int (a := (q : Int)) (b := 1) ((q + 1 : Nat) : Int) rfl rfl rfl (by omega)) rfl ?_ (hT := tame_int rfl rfl)
  refine lwg_pure rfl (wg rfl rfl) (val_indexAddr_slice (m := 1) (q + 1) (of + (q + 1)) rfl rfl Try.underlying23 Try.sizeOf3 rfl (by omega) (by omega)) rfl ?_
  refine lwg_held rfl (wg rfl rfl) (val_load rfl Try.isAgg3 (v := vI 72) (fun w h => cell_rv' h72 (Mem.rv h))) rfl ?_
  refine lwg_pure rfl (wg rfl rfl) (val_neq_int (a := 72) (b := 72) rfl rfl) rfl ?_ (hT := tame_int rfl rfl)
  rw [decide_eq_false (show ¬ (72 : Int) ≠ 72 from fun h => h rfl)]
  refine lw_pure rfl (val_pick_false (v := .bool false) rfl rfl) rfl ?_
  exact lw_nil fun w hw => ⟨rfl, ⟨rfl, rfl, rfl, rfl, rfl, rfl, rfl, trivial⟩, Mem.rv hw⟩
end
end Go.Bt
end
section
namespace Go.Bt
variable [Gnd]
open Go.Conc Go.ConcN Go.RowKit Go.Proofs
open Go.Sx (Rly RV pz pzo pz_heap spec isWg Gud Co blk RowE Rd Mem CallV vInt CallI SW Sub Stb Pt run_two lin_equal_two lin_equal_int lin_equal_bool callV_of_callI callI_of_pt pt_seq pt_sw pt_true pt_false pt_cond pt_if pt_skip pt_region pt_regionEnd pt_val pt_call pt_act pt_do pt_draw pt_ret pt_block pt_inBlock pt_exit pt_loop_inv lz_val val_assign val_move val_load val_load_at val_load_all val_load_elem val_build' val_len val_not val_extract val_nilCheck val_fieldAddr val_indexAddr_slice val_slice_lo val_slice_hi val_neq_agg tame_two val_rem_int val_rem_to val_eql_int val_lss_int val_geq_int val_neq_int val_add_int val_sub_int val_gtr_int val_pick_true val_pick_false tame_nilCheck tame_int acts_box acts_alloc acts_buildSlice acts_append ow_append' does_store_all callsTo ev_eval res_two res_slot Fits sw_region sw_region_lex ow_val ow_nil ow_make ow_call_pure ow_guard_yes ow_guard_no ow_guard_none lw_pure lw_held lw_nil lw_call_pure lwg_pure lwg_held lwg_call_pure lwg_no mem_of_rv pick wg)
noncomputable def c4r : Nat → Code → Code
  | 0, c => c
  | n + 1, .seq _ d => c4r n d
  | _ + 1, c => c
noncomputable def r4_28 : Code := cL (c4r 12 c4)
noncomputable def r4_29 : Code := cL (cL (c4r 13 c4))
noncomputable def r4_31 : Code := cL (c4r 14 c4)
noncomputable def r4_32 : Code := cL (c4r 15 c4)
section
variable {v : World} {pv : Value} {ps : List (List Ins)} {qs : List Int} {calm : Bool} {Post : Value → World → Prop}
set_option maxRecDepth 100000 in
set_option maxHeartbeats 4000000 in
theorem sw_4_28 [C : Co Try.prog] {a : Option Addr} {n c : Nat} {xs : List Value} {e0 e1 e2 e3 e4 e5 e6 e7 e8 e9 e11 er : Go.Sx.Ent} {x8 x11 x13 : Value} (hr : RowE (.slice a n c) 43 2 n xs er) (hn : n ≤ 1000000) :
    SW Try.prog 174 r4_28 [(10, .slice a n c), (8, x8), (11, x11), (13, x13)] (Mem v [] [e0, e1, e2, e3, e4, e5, e6, e7, e8, e9, er, e11]) (fun ex F' w => ex = .normal ∧ ∃ a' c' er', RowE (.slice a' (n + 1) c') 43 2 (n + 1) (xs ++ [vI (-8), .bool false]) er' ∧ Sub [(10, .slice a' (n + 1) c'), (8, x8), (11, x11), (13, x13)] F' ∧ Mem v [] [e0, e1, e2, e3, e4, e5, e6, e7, e8, e9, er', e11] w) := by
  obtain ⟨ti, hi, hz, hsz, hby⟩ : ∃ i, Try.prog.info? 43 = some i ∧ i.zero = some (.agg #[vInt 0, .bool false]) ∧ i.size = 2 ∧ i.bytes = 16 := ⟨_, rfl, rfl, rfl, rfl⟩
  show SW Try.prog 174 (Code.region 28 _ false) _ _ _
  refine sw_region ?_
  refine ow_val (val_move (v := .slice a n c) rfl) rfl ?_
  refine ow_val (val_build' (parts := _) (vs := [(0, vI (-8))]) (cs := [vI (-8), .bool false]) rfl (by kernel_rfl)) rfl ?_
  refine ow_make (acts_buildSlice (vs := [(0, .agg #[vI (-8), .bool false])]) (cs := [vI (-8), .bool false]) Try.underlying28 Try.sizeOf43 Try.zeroValue43 rfl rfl (by kernel_rfl)) rfl (fun b2 hb2 => ?_)
  refine ow_append' (k := n + 1) (acts_append (size := 2) (bytes := 16) (ys := [vI (-8), .bool false]) 11 rfl rfl rfl hr rfl Try.underlying28 hi hz hsz hby rfl (by decide) (fun w hm => Rd.own hm (i := 0) rfl rfl) rfl (by intro u hu; simp only [List.mem_cons, List.not_mem_nil, or_false] at hu; rcases hu with rfl | rfl <;> rfl) (by omega) (by omega)) rfl (fun a6 c6 e6' hr6 => ?_)
  refine ow_val (val_assign (v := .slice a6 (n + 1) c6) rfl) rfl ?_
  exact ow_nil fun w hw => ⟨rfl, a6, c6, e6', hr6, ⟨rfl, rfl, rfl, rfl, trivial⟩, hw.forget⟩
set_option maxRecDepth 100000 in
set_option maxHeartbeats 4000000 in
theorem sw_4_31 [C : Co Try.prog] {a : Option Addr} {n c : Nat} {xs : List Value} {e0 e1 e2 e4 e5 e6 e7 e8 e9 e10 e11 er : Go.Sx.Ent} {x8 x10 x11 : Value} (hr : RowE (.slice a n c) 43 2 n xs er) (hn : n ≤ 1000000) :
    SW Try.prog 174 r4_31 [(13, .slice a n c), (8, x8), (10, x10), (11, x11)] (Mem v [] [e0, e1, e2, er, e4, e5, e6, e7, e8, e9, e10, e11]) (fun ex F' w => ex = .normal ∧ ∃ a' c' er', RowE (.slice a' (n + 1) c') 43 2 (n + 1) (xs ++ [vI (-9), .bool false]) er' ∧ Sub [(13, .slice a' (n + 1) c'), (8, x8), (10, x10), (11, x11)] F' ∧ Mem v [] [e0, e1, e2, er', e4, e5, e6, e7, e8, e9, e10, e11] w) := by
  obtain ⟨ti, hi, hz, hsz, hby⟩ : ∃ i, Try.prog.info? 43 = some i ∧ i.zero = some (.agg #[vInt 0, .bool false]) ∧ i.size = 2 ∧ i.bytes = 16 := ⟨_, rfl, rfl, rfl, rfl⟩
  show SW Try.prog 174 (Code.region 31 _ false) _ _ _
  refine sw_region ?_
  refine ow_val (val_move (v := .slice a n c) rfl) rfl ?_
  refine ow_val (val_build' (parts := _) (vs := [(0, vI (-9))]) (cs := [vI (-9), .bool false]) rfl (by kernel_rfl)) rfl ?_
  refine ow_make (acts_buildSlice (vs := [(0, .agg #[vI (-9), .bool false])]) (cs := [vI (-9), .bool false]) Try.underlying28 Try.sizeOf43 Try.zeroValue43 rfl rfl (by kernel_rfl)) rfl (fun b2 hb2 => ?_)
  refine ow_append' (k := n + 1) (acts_append (size := 2) (bytes := 16) (ys := [vI (-9), .bool false]) 4 rfl rfl rfl hr rfl Try.underlying28 hi hz hsz hby rfl (by decide) (fun w hm => Rd.own hm (i := 0) rfl rfl) rfl (by intro u hu; simp only [List.mem_cons, List.not_mem_nil, or_false] at hu; rcases hu with rfl | rfl <;> rfl) (by omega) (by omega)) rfl (fun a6 c6 e6' hr6 => ?_)
  refine ow_val (val_assign (v := .slice a6 (n + 1) c6) rfl) rfl ?_
  exact ow_nil fun w hw => ⟨rfl, a6, c6, e6', hr6, ⟨rfl, rfl, rfl, rfl, trivial⟩, hw.forget⟩
set_option maxRecDepth 100000 in
set_option maxHeartbeats 4000000 in
theorem sw_4_29 [C : Co Try.prog] {t M ck2 c5 : Nat} {ak2 a5 : Option Addr} {x8 x10 : Value} {mvs : List (Int × Bool)} (hM : M = mvs.length) (haw : ∀ w, Mem v [] [] w → CallV Try.prog 12 #[] w (fun r u => r = .returned (.bool true) ∧ RV w u)) (ht : v.cell? ⟨t, 5, none⟩ = some (.slice a5 M c5)) (rk2 : Rd v ak2 (flatM mvs)) (r5 : Rd v a5 (flatM mvs)) (hl2 : M ≤ 4611686018427387904) :
    SW Try.prog 174 r4_29 [(8, x8), (10, x10), (11, vPtr t), (13, .slice ak2 M ck2)] (Mem v [] []) (fun ex F' w => ex = .normal ∧ Sub [(151, .bool false), (8, x8), (10, x10), (11, vPtr t), (13, .slice ak2 M ck2)] F' ∧ RV v w) := by
  subst hM
  show SW Try.prog 174 (Code.region 29 _ false) _ _ _
  refine sw_region ?_
  refine ow_val (val_move (v := .slice ak2 mvs.length ck2) rfl) rfl ?_
  refine ow_val (val_fieldAddr (b := t) (o := 0) (e := 5) rfl Try.underlying35 rfl rfl Try.sizeOf33 rfl) rfl ?_
  refine ow_val (val_load rfl Try.isAgg33 (v := .slice a5 mvs.length c5) (fun w h => cell_rv' ht (Mem.rv h))) rfl ?_
  refine ow_call_pure (v := .bool true) (callsTo Try.func17 rfl (by kernel_rfl) rfl) rfl (fun w hm => (alike_v (l1 := mvs) (l2 := mvs) (rk2.rv (Mem.rv hm)) (r5.rv (Mem.rv hm)) hl2).mono fun e u hu => ⟨_, hu.1, by rw [decide_eq_true rfl], mem_of_rv hu.2⟩) ?_
  refine ow_val (val_not rfl) rfl ?_
  refine ow_val (val_move (v := .bool false) rfl) rfl ?_
  refine ow_guard_yes (t := 141) rfl rfl rfl (ow_call_pure (v := .bool true) (callsTo (xs := []) (vs := []) Try.func12 rfl (by decide) rfl) rfl (fun w hm => (haw w hm).mono fun e u hu => ⟨_, hu.1, rfl, mem_of_rv hu.2⟩) ?_)
  refine ow_guard_yes (t := 141) rfl rfl rfl (ow_val (val_not rfl) rfl ?_)
  refine ow_val (val_pick_false (v := .bool false) rfl rfl) rfl ?_
  refine ow_val (val_move (v := .bool false) rfl) rfl ?_
  refine ow_guard_yes (t := 145) rfl rfl rfl (ow_val (val_move (v := .slice ak2 mvs.length ck2) rfl) rfl ?_)
  refine ow_guard_yes (t := 145) rfl rfl rfl (ow_val (val_fieldAddr (b := t) (o := 0) (e := 5) rfl Try.underlying35 rfl rfl Try.sizeOf33 rfl) rfl ?_)
  refine ow_guard_yes (t := 145) rfl rfl rfl (ow_val (val_load rfl Try.isAgg33 (v := .slice a5 mvs.length c5) (fun w h => cell_rv' ht (Mem.rv h))) rfl ?_)
  refine ow_guard_yes (t := 145) rfl rfl rfl (ow_call_pure (v := .bool true) (callsTo Try.func17 rfl (by kernel_rfl) rfl) rfl (fun w hm => (alike_v (l1 := mvs) (l2 := mvs) (rk2.rv (Mem.rv hm)) (r5.rv (Mem.rv hm)) hl2).mono fun e u hu => ⟨_, hu.1, by rw [decide_eq_true rfl], mem_of_rv hu.2⟩) ?_)
  refine ow_guard_yes (t := 145) rfl rfl rfl (ow_val (val_not rfl) rfl ?_)
  refine ow_val (val_pick_false (v := .bool false) rfl rfl) rfl ?_
  exact ow_nil fun w hw => ⟨rfl, ⟨rfl, rfl, rfl, rfl, rfl, trivial⟩, Mem.rv hw⟩
set_option maxRecDepth 100000 in
set_option maxHeartbeats 4000000 in
theorem sw_4_32 [C : Co Try.prog] {M c ck b o bk ok : Nat} (hM : M ≤ 1000000) (h8 : v.cell? ⟨b, o + M * 2, none⟩ = some (vI (-8))) (h9 : v.cell? ⟨bk, ok + M * 2, none⟩ = some (vI (-9))) :
    SW Try.prog 174 r4_32 [(10, .slice (some ⟨b, o, none⟩) (M + 1) c), (13, .slice (some ⟨bk, ok, none⟩) (M + 1) ck)] (Mem v [] []) (fun ex F' w => ex = .normal ∧ Sub [(6, .bool true)] F' ∧ RV v w) := by
  show SW Try.prog 174 (Code.region 32 _ false) _ _ _
  refine sw_region ?_
  refine ow_val (val_move (v := .slice (some ⟨b, o, none⟩) (M + 1) c) rfl) rfl ?_
  refine ow_val (val_move (v := .slice (some ⟨b, o, none⟩) (M + 1) c) rfl) rfl ?_
  refine ow_val (val_len (len := M + 1) rfl Try.underlying28) rfl ?_
  refine ow_val (val_sub_int (a := ((M + 1 : Nat) : Int)) (b := 1) (M : Int) rfl rfl (by omega) (by omega)) rfl ?_ (tame_int rfl rfl)
  refine ow_val (val_indexAddr_slice (m := 2) M (o + M * 2) rfl rfl Try.underlying28 Try.sizeOf43 rfl (by omega) rfl) rfl ?_
  refine ow_val (val_fieldAddr (b := b) (o := o + M * 2) (e := o + M * 2) rfl Try.underlying43 rfl rfl Try.sizeOf3 rfl) rfl ?_
  refine ow_val (val_load rfl Try.isAgg3 (v := vI (-8)) (fun w h => cell_rv' h8 (Mem.rv h))) rfl ?_
  refine ow_val (val_eql_int (a := -8) (b := -8) rfl rfl) rfl ?_ (tame_int rfl rfl)
  rw [decide_eq_true (show (-8 : Int) = -8 from rfl)]
  refine ow_val (val_move (v := .bool true) rfl) rfl ?_
  refine ow_guard_yes (t := 164) rfl rfl rfl (ow_val (val_move (v := .slice (some ⟨bk, ok, none⟩) (M + 1) ck) rfl) rfl ?_)
  refine ow_guard_yes (t := 164) rfl rfl rfl (ow_val (val_move (v := .slice (some ⟨bk, ok, none⟩) (M + 1) ck) rfl) rfl ?_)
  refine ow_guard_yes (t := 164) rfl rfl rfl (ow_val (val_len (len := M + 1) rfl Try.underlying28) rfl ?_)
  refine ow_guard_yes (t := 164) rfl rfl rfl (ow_val (val_sub_int (a := ((M + 1 : Nat) : Int)) (b := 1) (M : Int) rfl rfl (by omega) (by omega)) rfl ?_ (tame_int rfl rfl))
  refine ow_guard_yes (t := 164) rfl rfl rfl (ow_val (val_indexAddr_slice (m := 2) M (ok + M * 2) rfl rfl Try.underlying28 Try.sizeOf43 rfl (by omega) rfl) rfl ?_)
  refine ow_guard_yes (t := 164) rfl rfl rfl (ow_val (val_fieldAddr (b := bk) (o := ok + M * 2) (e := ok + M * 2) rfl Try.underlying43 rfl rfl Try.sizeOf3 rfl) rfl ?_)
  refine ow_guard_yes (t := 164) rfl rfl rfl (ow_val (val_load rfl Try.isAgg3 (v := vI (-9)) (fun w h => cell_rv' h9 (Mem.rv h))) rfl ?_)
  refine ow_guard_yes (t := 164) rfl rfl rfl (ow_val (val_eql_int (a := -9) (b := -9) rfl rfl) rfl ?_ (tame_int rfl rfl))
  rw [decide_eq_true (show (-9 : Int) = -9 from rfl)]
  refine ow_val (val_pick_true (v := .bool true) rfl rfl) rfl ?_
  refine ow_val (val_assign (v := .bool true) rfl) rfl ?_
  exact ow_nil fun w hw => ⟨rfl, ⟨rfl, trivial⟩, Mem.rv hw⟩
end
end Go.Bt
end
section
namespace Go.Bt
variable [Gnd]
open Go.Conc Go.ConcN Go.RowKit Go.Proofs
open Go.Sx (Rly RV pz pzo pz_heap spec isWg Gud Co blk RowE Rd Mem CallV vInt CallI SW Sub Stb Pt run_two lin_equal_two lin_equal_int lin_equal_bool callV_of_callI callI_of_pt pt_seq pt_sw pt_true pt_false pt_cond pt_if pt_skip pt_region pt_regionEnd pt_val pt_call pt_act pt_do pt_draw pt_ret pt_block pt_inBlock pt_exit pt_loop_inv lz_val val_assign val_move val_load val_load_at val_load_all val_load_elem val_build' val_len val_not val_extract val_nilCheck val_fieldAddr val_indexAddr_slice val_slice_lo val_slice_hi val_neq_agg tame_two val_rem_int val_rem_to val_eql_int val_lss_int val_geq_int val_neq_int val_add_int val_gtr_int val_pick_true val_pick_false tame_nilCheck tame_int acts_box acts_alloc acts_buildSlice acts_append ow_append' does_store_all does_store_agg does_store_to callsTo ev_eval res_two res_slot Fits sw_region sw_region_lex ow_val ow_nil ow_make ow_call_pure ow_guard_yes ow_guard_no ow_guard_none lw_pure lw_held lw_nil lw_call_pure lwg_pure lwg_held lwg_call_pure lwg_no mem_of_rv pick wg)
section
variable {v : World} {pv : Value} {ps : List (List Ins)} {qs : List Int} {calm : Bool} {Post : Value → World → Prop}
set_option maxRecDepth 100000 in
set_option maxHeartbeats 8000000 in
theorem twice_p {S : List Frame} (hy : ∀ (F : Go.Sx.Fr) (t : List Item), Sub [(6, .bool true)] F → Pt (fun _ : Unit => coLaw Try.prog Post) 174 (Go.Sx.fr0 4) S () (.code .ret :: t) F (fun w => RV v w)) {qa : Option Addr} {cap : Nat} (hG : PrgV v pv ps) (hsum : (ps.map List.length).sum ≤ 4611686018427387904) (hlen : ps.length ≤ 4611686018427387904) (hQ : QV v qa qs) :
    Pt (fun _ : Unit => coLaw Try.prog Post) 174 (Go.Sx.fr0 4) S () [.code c4] (Go.Sx.slots 0 [pv, .slice qa qs.length cap, .bool calm]) (· = v) := by
  letI C : Co Try.prog := coLaw Try.prog Post
  obtain ⟨pa, pc, hpv, _⟩ := hG.ex
  have hone : pv.oneCell' = true := by rw [hpv]; rfl
  have hyes : ∀ (M : World → Prop) (hM : ∀ w, M w → RV v w) (F : Go.Sx.Fr) (t : List Item), Sub [(6, .bool true)] F → Pt (fun _ : Unit => C) 174 (Go.Sx.fr0 4) S () (.code .ret :: t) F M := fun M hM F t hF => Pt.imp hM (hy F t hF)
  refine Pt.imp (M' := fun w => RV v w) (fun w hw => hw ▸ RV.refl _) (pt_seq (pt_region ?_))
  refine pt_val (by decide) rfl (val_assign (v := .bool false) rfl) rfl ?_
  refine pt_regionEnd (pt_seq (pt_seq (pt_region ?_)))
  refine pt_call (T := fun w r _ u => r = .returned (.bool true) ∧ RV w u) (by decide) rfl (callsTo (xs := []) (vs := []) Try.func12 rfl (by decide) rfl) (by infer_instance) (fun w hw => callI_of_v (awake_v (Post := Post))) (fun t' ht => by cases ht; rfl) (fun w r x' hw => ?_) (fun w ch x' hw a w' hf hl => ?_)
  rotate_left
  · obtain ⟨z, ⟨hz, _⟩, _⟩ := hl; cases hz
  refine Pt.world fun z hz => ?_
  obtain ⟨hr, hz⟩ := hz
  obtain rfl : r = .bool true := by cases hr; rfl
  replace hz := RV.trans hw hz
  clear hr hw
  have hGz := hG.grow hz
  refine Pt.imp (M' := Mem z [] []) (fun u hu => hu ▸ Mem.refl z) ?_
  refine pt_val (by decide) rfl (val_not rfl) rfl (pt_regionEnd (pt_false rfl (pt_skip (pt_seq (pt_seq ?_)))))
  refine Pt.weaken (F' := [(0, pv), (1, .slice qa qs.length cap), (2, .bool calm)]) ⟨rfl, rfl, rfl, trivial⟩ (fun _ h => h) ?_
  refine pt_sw (by decide) (sw_4_3 (fun w hw => fit_v (hGz.grow (Mem.rv hw)) hsum hlen) (fun w hw => endless_v (hGz.grow (Mem.rv hw)) hlen)) (fun F' y hq => ?_) (fun ex F' y hne hq => hne hq.1)
  obtain ⟨-, hF, hy⟩ := hq
  refine Pt.weaken hF (M' := Mem z [] []) (fun w hw => hw ▸ hy) (pt_cond rfl (fun hs => ?_) (fun hs => pt_skip ?_))
  · refine pt_seq (pt_region (pt_val (by decide) rfl (val_assign (v := .bool true) rfl) rfl (pt_regionEnd ?_)))
    exact hyes _ (fun w hw => hz.trans (Mem.rv hw)) _ _ ⟨rfl, trivial⟩
  clear hF hy
  have hFit : Fit ps qs := fit_iff.1 (by simpa using (Bool.or_eq_false_iff.1 hs).1)
  obtain ⟨hl1, hl2⟩ := fin_small (calm := calm) hFit
  have hqs : qs.length ≤ 1048576 := by have := hFit.q; omega
  have rq : ∀ {w : World} {a : Option Addr} {l : List Int}, QV w a l → Rd w a (l.map vI) := fun h j x hx => by
    rw [List.getElem?_map] at hx
    obtain ⟨q, hq, rfl⟩ := Option.map_eq_some_iff.1 hx
    obtain ⟨b, o, e1, _, e3⟩ := h.cells j q hq
    exact ⟨b, o, e1, e3⟩
  have hQz := hQ.grow hz
  refine pt_seq ?_
  refine Pt.weaken (F' := [(0, pv), (1, .slice qa qs.length cap), (2, .bool calm)]) ⟨rfl, rfl, rfl, trivial⟩ (fun _ h => h) ?_
  refine pt_sw (by decide) (sw_4_5 (pv := pv) (calm := calm) (rq hQz) hqs) (fun F' y hq => ?_) (fun ex F' y hne hq => hne hq.1)
  obtain ⟨-, aa, ca, ea, hra, hF, hy2⟩ := hq
  have hQa : ∀ (L : List Go.Sx.Ent) (i : Nat) (w : World), Mem z [] L w → pick L i = ea → QV w aa qs := fun L i w hm hp => by
    have h := qv_row (l := qs ++ [71, 72]) hra hm hp
    exact ⟨fun k q hk => h.cells k q (by rw [List.getElem?_append_left (List.getElem?_eq_some_iff.1 hk).1]; exact hk)⟩
  have hcle := hra.le
  refine Pt.weaken hF (M' := Mem z [] [ea]) (fun w hw => hw ▸ hy2) ?_
  refine pt_seq (pt_region ?_)
  refine pt_val (by decide) rfl (val_move (v := .slice aa (qs.length + 2) ca) rfl) rfl ?_
  refine pt_val (by decide) rfl (val_move (v := .slice qa qs.length cap) rfl) rfl ?_
  refine pt_val (by decide) rfl (val_len (len := qs.length) rfl Try.underlying23) rfl ?_
  refine pt_val (by decide) rfl (val_slice_hi (m := 1) qs.length rfl rfl Try.underlying23 Try.sizeOf3 rfl (by omega)) rfl ?_
  refine pt_val (by decide) rfl (val_assign (v := .slice aa qs.length ca) rfl) rfl ?_
  refine pt_regionEnd ?_
  refine pt_seq (pt_region ?_)
  refine pt_val (by decide) rfl (val_move (v := pv) rfl) rfl ?_
  refine pt_val (by decide) rfl (val_move (v := .slice aa qs.length ca) rfl) rfl ?_
  refine pt_val (by decide) rfl (val_move (v := .bool calm) rfl) rfl ?_
  refine pt_call (T := fun w r _ u => ∃ sb mv, r = .returned (.tuple #[vPtr sb, mv]) ∧ PlayU pv w sb mv (finM ps qs calm) u) (by decide) rfl (callsTo (xs := [.tmp 41, .tmp 42, .tmp 43]) (vs := [pv, .slice aa qs.length ca, .bool calm]) Try.func15 rfl (by decide) rfl) (by infer_instance) (fun w hw => callI_of_v (plU_v (Post := Post) hFit (hGz.grow (Mem.rv hw)) (hQa _ 0 w hw rfl))) (fun t' ht => by cases ht; rfl) (fun w r x' hw => ?_) (fun w ch x' hw a w' hf hl => ?_)
  rotate_left
  · obtain ⟨z, ⟨_, _, hz, _⟩, _⟩ := hl; cases hz
  refine Pt.world fun zz hz2 => ?_
  obtain ⟨sb, mv, hr, hU⟩ := hz2
  obtain rfl : r = .tuple #[vPtr sb, mv] := by cases hr; rfl
  obtain ⟨bs, pk, eb, ep, er, hm, h1, h2, h3⟩ := hU.ex
  obtain ⟨a1, c1, rfl, _⟩ := h1.slice
  obtain ⟨a2, c2, rfl, _⟩ := h3.slice
  have hmm := hw.call hm
  refine Pt.imp (M' := Mem z [] [some (sb, blk [pv, .slice a1 (finM ps qs calm).bd.notes.length c1, pk] 40), eb, ep, er, ea]) (fun u hu => hu ▸ hmm) ?_
  clear hr hw hU hm hmm
  refine pt_val (by decide) rfl (val_move (v := .tuple #[vPtr sb, .slice a2 (finM ps qs calm).moves.length c2]) rfl) rfl ?_
  refine pt_val (by decide) rfl (val_extract (v := vPtr sb) rfl rfl) rfl ?_
  refine pt_val (by decide) rfl (val_extract (v := .slice a2 (finM ps qs calm).moves.length c2) rfl rfl) rfl ?_
  refine pt_val (by decide) rfl (val_assign (v := vPtr sb) rfl) rfl ?_
  refine pt_val (by decide) rfl (val_assign (v := .slice a2 (finM ps qs calm).moves.length c2) rfl) rfl ?_
  refine pt_regionEnd ?_
  refine pt_seq (pt_region ?_)
  refine pt_val (by decide) rfl (val_move (v := pv) rfl) rfl ?_
  refine pt_val (by decide) rfl (val_move (v := .slice qa qs.length cap) rfl) rfl ?_
  refine pt_val (by decide) rfl (val_move (v := .bool calm) rfl) rfl ?_
  refine pt_call (T := fun w r _ u => ∃ x, r = .returned x ∧ RefM w pv (finM ps qs calm) x u) (by decide) rfl (callsTo (xs := [.tmp 47, .tmp 48, .tmp 49]) (vs := [pv, .slice qa qs.length cap, .bool calm]) Try.func16 rfl (by decide) rfl) (by infer_instance) (fun w hw => callI_of_v (rplay_v hFit (hGz.grow (Mem.rv hw)) (hQz.grow (Mem.rv hw)))) (fun t' ht => by cases ht; rfl) (fun w r x' hw => ?_) (fun w ch x' hw a w' hf hl => ?_)
  rotate_left
  · obtain ⟨z, ⟨_, hz, _⟩, _⟩ := hl; cases hz
  refine Pt.world fun z3 hz3 => ?_
  obtain ⟨x, hr, hM⟩ := hz3
  obtain rfl : r = x := by cases hr; rfl
  obtain ⟨s1, s2, s3, bs, ms, emb, emm, rfl, ⟨hs1, hs2, hs3⟩, hb, hm, hMm⟩ := hM.ex
  obtain ⟨a4, c4', rfl, _⟩ := hb.slice
  obtain ⟨a5, c5', rfl, _⟩ := hm.slice
  have hM2 := hw.call hMm
  refine Pt.imp (M' := Mem z [] [emb, emm, some (sb, blk [pv, .slice a1 (finM ps qs calm).bd.notes.length c1, pk] 40), eb, ep, er, ea]) (fun u hu => hu ▸ hM2) ?_
  clear hr hw hM hMm hM2
  refine pt_new (by decide) rfl (acts_alloc Try.zeroValue35) rfl fun t11 ht11 => ?_
  refine pt_do (by decide) rfl (does_store_all 0 (cs := [pv, s1, s2, s3, .slice a4 (finM ps qs calm).bd.notes.length c4', .slice a5 (finM ps qs calm).moves.length c5']) rfl rfl rfl (by intro x hx; simp only [List.mem_cons, List.not_mem_nil, or_false] at hx; rcases hx with rfl | rfl | rfl | rfl | rfl | rfl <;> first | exact hone | rfl | exact hs1 | exact hs2 | exact hs3) Try.sizeOf35 rfl rfl) fun _ _ => ?_
  refine pt_regionEnd ?_
  refine Pt.imp (M' := Mem z [] [some (t11, blk [pv, s1, s2, s3, .slice a4 (finM ps qs calm).bd.notes.length c4', .slice a5 (finM ps qs calm).moves.length c5'] 35), emb, emm, some (sb, blk [pv, .slice a1 (finM ps qs calm).bd.notes.length c1, pk] 40), eb, ep, er, ea]) (fun _ h => h) ?_
  refine pt_seq (pt_region ?_)
  refine pt_val (by decide) rfl (val_move (v := pv) rfl) rfl ?_
  refine pt_val (by decide) rfl (val_move (v := .slice aa qs.length ca) rfl) rfl ?_
  refine pt_val (by decide) rfl (val_move (v := .bool calm) rfl) rfl ?_
  refine pt_call (T := fun w r _ u => ∃ sb mv, r = .returned (.tuple #[vPtr sb, mv]) ∧ PlayU pv w sb mv (finM ps qs calm) u) (by decide) rfl (callsTo (xs := [.tmp 52, .tmp 53, .tmp 54]) (vs := [pv, .slice aa qs.length ca, .bool calm]) Try.func15 rfl (by decide) rfl) (by infer_instance) (fun w hw => callI_of_v (plU_v (Post := Post) hFit (hGz.grow (Mem.rv hw)) (hQa _ 7 w hw rfl))) (fun t' ht => by cases ht; rfl) (fun w r x' hw => ?_) (fun w ch x' hw a w' hf hl => ?_)
  rotate_left
  · obtain ⟨z, ⟨_, _, hz, _⟩, _⟩ := hl; cases hz
  refine Pt.world fun zz hz2 => ?_
  obtain ⟨sb2, mv, hr, hU⟩ := hz2
  obtain rfl : r = .tuple #[vPtr sb2, mv] := by cases hr; rfl
  obtain ⟨bs, pk2, eb2, ep2, er2, hm, k1, k2, k3⟩ := hU.ex
  obtain ⟨ak1, ck1, rfl, _⟩ := k1.slice
  obtain ⟨ak2, ck2, rfl, _⟩ := k3.slice
  have hmm := hw.call hm
  refine Pt.imp (M' := Mem z [] [some (sb2, blk [pv, .slice ak1 (finM ps qs calm).bd.notes.length ck1, pk2] 40), eb2, ep2, er2, some (t11, blk [pv, s1, s2, s3, .slice a4 (finM ps qs calm).bd.notes.length c4', .slice a5 (finM ps qs calm).moves.length c5'] 35), emb, emm, some (sb, blk [pv, .slice a1 (finM ps qs calm).bd.notes.length c1, pk] 40), eb, ep, er, ea]) (fun u hu => hu ▸ hmm) ?_
  clear hr hw hU hm hmm
  refine pt_val (by decide) rfl (val_move (v := .tuple #[vPtr sb2, .slice ak2 (finM ps qs calm).moves.length ck2]) rfl) rfl ?_
  refine pt_val (by decide) rfl (val_extract (v := vPtr sb2) rfl rfl) rfl ?_
  refine pt_val (by decide) rfl (val_extract (v := .slice ak2 (finM ps qs calm).moves.length ck2) rfl rfl) rfl ?_
  refine pt_val (by decide) rfl (val_assign (v := vPtr sb2) rfl) rfl ?_
  refine pt_val (by decide) rfl (val_assign (v := .slice ak2 (finM ps qs calm).moves.length ck2) rfl) rfl ?_
  refine pt_regionEnd ?_
  have hMl : (finM ps qs calm).moves.length ≤ 200000 := by
    rcases Nat.eq_zero_or_pos ps.length with h0 | hn
    · obtain rfl : ps = [] := List.length_eq_zero_iff.1 h0
      unfold finM; rw [mac_nil]; exact Nat.zero_le _
    · rw [fin_len hn]
      have := calmJ_le ps qs calm
      have := hFit.q
      omega
  generalize finM ps qs calm = m at *
  refine pt_seq (pt_seq (Pt.world fun z9 hz9 => ?_))
  obtain ⟨bf, of, haf, h71, h72, hful⟩ : ∃ bf of, aa = some ⟨bf, of, none⟩ ∧ z9.cell? ⟨bf, of + qs.length, none⟩ = some (vI 71) ∧ z9.cell? ⟨bf, of + (qs.length + 1), none⟩ = some (vI 72) ∧ ∀ j q, qs[j]? = some q → z9.cell? ⟨bf, of + j, none⟩ = some (vI q) := by
    have h := qv_row (l := qs ++ [71, 72]) hra hz9 (i := 11) rfl
    obtain ⟨b, o, e1, _, e3⟩ := h.cells qs.length 71 (by rw [List.getElem?_append_right (Nat.le_refl _), Nat.sub_self]; rfl)
    obtain ⟨b', o', e1', _, e3'⟩ := h.cells (qs.length + 1) 72 (by rw [List.getElem?_append_right (by omega)]; simp)
    rw [e1] at e1'; cases e1'
    refine ⟨b, o, e1, e3, e3', fun j q hj => ?_⟩
    obtain ⟨b', o', e1', _, e3'⟩ := h.cells j q (by rw [List.getElem?_append_left (List.getElem?_eq_some_iff.1 hj).1]; exact hj)
    rw [e1] at e1'; cases e1'; exact e3'
  subst haf
  have hcs : z9.cell? ⟨sb, 1, none⟩ = some (.slice a1 m.bd.notes.length c1) := by
    rw [Go.Sx.cell_of_blk (hz9.at (i := 7) rfl)]; rfl
  have hcs2 : z9.cell? ⟨sb2, 1, none⟩ = some (.slice ak1 m.bd.notes.length ck1) := by
    rw [Go.Sx.cell_of_blk (hz9.at (i := 0) rfl)]; rfl
  have hct : z9.cell? ⟨t11, 5, none⟩ = some (.slice a5 m.moves.length c5') := by
    rw [Go.Sx.cell_of_blk (hz9.at (i := 4) rfl)]; rfl
  have r1 := h1.rdAt hz9 (i := 8) rfl
  have rk1 := k1.rdAt hz9 (i := 1) rfl
  have r2 := h3.rdAt hz9 (i := 10) rfl
  have rk2 := k3.rdAt hz9 (i := 3) rfl
  have r5 := hm.rdAt hz9 (i := 6) rfl
  have hQ9 := hQz.grow (Mem.rv hz9)
  refine Pt.weaken (F' := [(1, .slice qa qs.length cap), (7, .slice (some ⟨bf, of, none⟩) (qs.length + 2) ca), (8, .slice (some ⟨bf, of, none⟩) qs.length ca), (9, vPtr sb), (10, .slice a2 m.moves.length c2), (11, vPtr t11), (12, vPtr sb2), (13, .slice ak2 m.moves.length ck2)]) ⟨rfl, rfl, rfl, rfl, rfl, rfl, rfl, rfl, trivial⟩ (M' := Mem z9 [] []) (fun w hw => hw ▸ Mem.refl z9) ?_
  refine pt_sw (by decide) (sw_4_10 rfl hcs hcs2 hct h71 h72 r1 rk1 r2 rk2 r5 hl1 hl2 hqs) (fun F' y hq => ?_) (fun ex F' y hne hq => hne hq.1)
  obtain ⟨-, hF, hy9⟩ := hq
  refine Pt.weaken hF (M' := fun w => RV z9 w) (fun w hw => hw ▸ hy9) (pt_false rfl (pt_skip ?_))
  refine pt_seq (pt_seq (pt_region ?_))
  refine pt_val (by decide) rfl (val_move (v := .slice qa qs.length cap) rfl) rfl ?_
  refine pt_val (by decide) rfl (val_len (len := qs.length) rfl Try.underlying23) rfl ?_
  refine pt_val (by decide) rfl (val_move (v := vInt (0 : Nat)) rfl) rfl ?_
  refine pt_regionEnd (pt_block ?_)
  refine pt_loop_inv (fun j : Nat => j ≤ qs.length) (fun j => [(7, .slice (some ⟨bf, of, none⟩) (qs.length + 2) ca), (8, .slice (some ⟨bf, of, none⟩) qs.length ca), (10, .slice a2 m.moves.length c2), (11, vPtr t11), (13, .slice ak2 m.moves.length ck2), (99, .slice qa qs.length cap), (100, vInt qs.length), (101, vInt j)]) (fun _ => ()) (fun _ z => RV z9 z) (fun j => qs.length - j) 0 (Nat.zero_le _) ⟨rfl, rfl, rfl, rfl, rfl, rfl, rfl, rfl, trivial⟩ rfl (fun _ h => h) ?_
  rintro j hle hloop
  refine pt_seq (pt_region ?_)
  refine pt_val (by decide) rfl (val_lss_int (a := (j : Int)) (b := (qs.length : Int)) rfl rfl) rfl ?_ (tame_int rfl rfl)
  refine pt_regionEnd (pt_seq (pt_if rfl (fun hlt => ?_) (fun hge => ?_)))
  · have hj : j < qs.length := by omega
    have hgq : qs[j]? = some qs[j] := List.getElem?_eq_getElem hj
    generalize qs[j] = q at hgq
    obtain ⟨bq, oq, rfl, _, kq⟩ := hQ9.cells j q hgq
    have hfq := hful j q hgq
    refine pt_skip (pt_seq (pt_block (pt_seq (pt_region ?_))))
    refine pt_val (by decide) rfl (val_move (v := vInt j) rfl) rfl ?_
    refine pt_val (by decide) rfl (val_indexAddr_slice (m := 1) j (oq + j) rfl rfl Try.underlying23 Try.sizeOf3 rfl hj (by omega)) rfl ?_
    refine pt_val (by decide) rfl (val_load rfl Try.isAgg3 (v := vI q) (fun w h => cell_rv' kq h)) rfl ?_
    refine pt_val (by decide) rfl (val_assign (v := vInt j) rfl) rfl ?_
    refine pt_val (by decide) rfl (val_assign (v := vI q) rfl) rfl ?_
    refine pt_regionEnd (pt_seq (pt_region ?_))
    refine pt_val (by decide) rfl (val_move (v := .slice (some ⟨bf, of, none⟩) (qs.length + 2) ca) rfl) rfl ?_
    refine pt_val (by decide) rfl (val_move (v := vInt j) rfl) rfl ?_
    refine pt_val (by decide) rfl (val_indexAddr_slice (m := 1) j (of + j) rfl rfl Try.underlying23 Try.sizeOf3 rfl (by omega) (by omega)) rfl ?_
    refine pt_val (by decide) rfl (val_load rfl Try.isAgg3 (v := vI q) (fun w h => cell_rv' hfq h)) rfl ?_
    refine pt_val (by decide) rfl (val_move (v := vI q) rfl) rfl ?_
    refine pt_val (by decide) rfl (val_neq_int (a := q) (b := q) rfl rfl) rfl ?_ (tame_int rfl rfl)
    refine pt_regionEnd (pt_if rfl (fun h => absurd rfl h) (fun _ => pt_skip (pt_inBlock (pt_region ?_))))
    refine pt_val (by decide) rfl (val_add_int (a := (j : Int)) (b := 1) _ rfl rfl rfl (by omega)) rfl ?_ (tame_int rfl rfl)
    refine pt_val (by decide) rfl (val_move (v := vInt (j + 1 : Nat)) rfl) rfl ?_
    refine pt_regionEnd (Pt.weaken ?_ (fun _ h => h) (hloop (j + 1) hj (by omega)))
    exact ⟨rfl, rfl, rfl, rfl, rfl, rfl, rfl, rfl, trivial⟩
  clear hloop
  refine pt_exit rfl ?_
  refine Pt.imp (M' := Mem z [] [some (sb2, blk [pv, .slice ak1 m.bd.notes.length ck1, pk2] 40), eb2, ep2, er2, some (t11, blk [pv, s1, s2, s3, .slice a4 m.bd.notes.length c4', .slice a5 m.moves.length c5'] 35), emb, emm, some (sb, blk [pv, .slice a1 m.bd.notes.length c1, pk] 40), eb, ep, er, ea]) (fun u hu => hz9.grow hu) ?_
  clear r1 rk1 r2 rk2 r5 hcs hcs2 hct h71 h72 hful hQa
  refine pt_seq (pt_seq (pt_region ?_))
  refine pt_val (by decide) rfl (val_move (v := .slice a2 m.moves.length c2) rfl) rfl ?_
  refine pt_val (by decide) rfl (val_len (len := m.moves.length) rfl Try.underlying28) rfl ?_
  refine pt_val (by decide) rfl (val_move (v := vInt (0 : Nat)) rfl) rfl ?_
  refine pt_regionEnd (pt_block ?_)
  refine pt_loop_inv (fun i : Nat => i ≤ m.moves.length) (fun i => [(8, .slice (some ⟨bf, of, none⟩) qs.length ca), (10, .slice a2 m.moves.length c2), (11, vPtr t11), (13, .slice ak2 m.moves.length ck2), (114, vInt m.moves.length), (115, vInt i)]) (fun _ => ()) (fun _ w => ∃ xs er', RowE (.slice a2 m.moves.length c2) 43 2 m.moves.length xs er' ∧ Mem z [] [some (sb2, blk [pv, .slice ak1 m.bd.notes.length ck1, pk2] 40), eb2, ep2, er2, some (t11, blk [pv, s1, s2, s3, .slice a4 m.bd.notes.length c4', .slice a5 m.moves.length c5'] 35), emb, emm, some (sb, blk [pv, .slice a1 m.bd.notes.length c1, pk] 40), eb, ep, er', ea] w) (fun i => m.moves.length - i) 0 (Nat.zero_le _) ⟨rfl, rfl, rfl, rfl, rfl, rfl, trivial⟩ rfl (fun _ h => ⟨_, _, h3, h⟩) ?_
  rintro i hle2 hloop2
  refine Pt.world fun z5 hz5 => ?_
  obtain ⟨xs, er', hx, hm5⟩ := hz5
  refine Pt.imp (M' := Mem z [] [some (sb2, blk [pv, .slice ak1 m.bd.notes.length ck1, pk2] 40), eb2, ep2, er2, some (t11, blk [pv, s1, s2, s3, .slice a4 m.bd.notes.length c4', .slice a5 m.moves.length c5'] 35), emb, emm, some (sb, blk [pv, .slice a1 m.bd.notes.length c1, pk] 40), eb, ep, er', ea]) (fun u hu => hu ▸ hm5) (pt_seq (pt_region ?_))
  refine pt_val (by decide) rfl (val_lss_int (a := (i : Int)) (b := (m.moves.length : Int)) rfl rfl) rfl ?_ (tame_int rfl rfl)
  refine pt_regionEnd (pt_seq (pt_if rfl (fun hlt2 => ?_) (fun hge2 => ?_)))
  · have hi : i < m.moves.length := by omega
    obtain ⟨bl, cap2, rest2, e1, e2, hk2, hset⟩ := rowE_set2 hx hi
    cases e1; subst e2
    refine pt_skip (pt_seq (pt_block (pt_seq (pt_region ?_))))
    refine pt_val (by decide) rfl (val_move (v := vInt i) rfl) rfl ?_
    refine pt_val (by decide) rfl (val_assign (v := vInt i) rfl) rfl ?_
    refine pt_regionEnd (pt_region ?_)
    refine pt_val (by decide) rfl (val_move (v := .slice (some ⟨bl, 0, none⟩) m.moves.length c2) rfl) rfl ?_
    refine pt_val (by decide) rfl (val_move (v := vInt i) rfl) rfl ?_
    refine pt_val (by decide) rfl (val_build' (parts := _) (vs := [(0, vI (-7))]) (cs := [vI (-7), .bool false]) rfl (by kernel_rfl)) rfl ?_
    refine pt_val (by decide) rfl (val_indexAddr_slice (m := 2) i (0 + i * 2) rfl rfl Try.underlying28 Try.sizeOf43 rfl hi rfl) rfl ?_
    refine pt_do (by decide) rfl (does_store_agg (cs := [vI (-7), .bool false]) 10 rfl rfl rfl (by intro x hx; simp only [List.mem_cons, List.not_mem_nil, or_false] at hx; rcases hx with rfl | rfl <;> rfl) Try.sizeOf43 rfl hk2) fun _ _ => ?_
    refine pt_regionEnd (pt_inBlock (pt_region ?_))
    refine pt_val (by decide) rfl (val_add_int (a := (i : Int)) (b := 1) _ rfl rfl rfl (by omega)) rfl ?_ (tame_int rfl rfl)
    refine pt_val (by decide) rfl (val_move (v := vInt (i + 1 : Nat)) rfl) rfl ?_
    refine pt_regionEnd (Pt.weaken ?_ (fun u hu => ?_) (hloop2 (i + 1) hi (by omega)))
    · exact ⟨rfl, rfl, rfl, rfl, rfl, rfl, trivial⟩
    · obtain ⟨xs', h'⟩ := hset (vI (-7)) (.bool false)
      exact ⟨xs', _, h', hu⟩
  clear hloop2
  refine pt_exit rfl (pt_seq (pt_seq (pt_region ?_)))
  refine pt_val (by decide) rfl (val_move (v := .slice (some ⟨bf, of, none⟩) qs.length ca) rfl) rfl ?_
  refine pt_val (by decide) rfl (val_len (len := qs.length) rfl Try.underlying23) rfl ?_
  refine pt_val (by decide) rfl (val_move (v := vInt (0 : Nat)) rfl) rfl ?_
  refine pt_regionEnd (pt_block ?_)
  refine pt_loop_inv (fun i : Nat => i ≤ qs.length) (fun i => [(8, .slice (some ⟨bf, of, none⟩) qs.length ca), (10, .slice a2 m.moves.length c2), (11, vPtr t11), (13, .slice ak2 m.moves.length ck2), (124, vInt qs.length), (125, vInt i)]) (fun _ => ()) (fun _ w => ∃ ys ea', RowE (.slice (some ⟨bf, of, none⟩) (qs.length + 2) ca) 3 1 (qs.length + 2) ys ea' ∧ Mem z [] [some (sb2, blk [pv, .slice ak1 m.bd.notes.length ck1, pk2] 40), eb2, ep2, er2, some (t11, blk [pv, s1, s2, s3, .slice a4 m.bd.notes.length c4', .slice a5 m.moves.length c5'] 35), emb, emm, some (sb, blk [pv, .slice a1 m.bd.notes.length c1, pk] 40), eb, ep, er', ea'] w) (fun i => qs.length - i) 0 (Nat.zero_le _) ⟨rfl, rfl, rfl, rfl, rfl, rfl, trivial⟩ rfl (fun _ h => ⟨_, _, hra, h⟩) ?_
  rintro i hle3 hloop3
  refine Pt.world fun z6 hz6 => ?_
  obtain ⟨ys, ea', hye, hm6⟩ := hz6
  refine Pt.imp (M' := Mem z [] [some (sb2, blk [pv, .slice ak1 m.bd.notes.length ck1, pk2] 40), eb2, ep2, er2, some (t11, blk [pv, s1, s2, s3, .slice a4 m.bd.notes.length c4', .slice a5 m.moves.length c5'] 35), emb, emm, some (sb, blk [pv, .slice a1 m.bd.notes.length c1, pk] 40), eb, ep, er', ea']) (fun u hu => hu ▸ hm6) (pt_seq (pt_region ?_))
  refine pt_val (by decide) rfl (val_lss_int (a := (i : Int)) (b := (qs.length : Int)) rfl rfl) rfl ?_ (tame_int rfl rfl)
  refine pt_regionEnd (pt_seq (pt_if rfl (fun hlt3 => ?_) (fun hge3 => ?_)))
  · have hi : i < qs.length := by omega
    obtain ⟨bl, cap2, rest2, e1, e2, hk2, hset⟩ := Go.Sx.rowE_set hye (show i < qs.length + 2 by omega)
    cases e1; subst e2
    refine pt_skip (pt_seq (pt_block (pt_seq (pt_region ?_))))
    refine pt_val (by decide) rfl (val_move (v := vInt i) rfl) rfl ?_
    refine pt_val (by decide) rfl (val_assign (v := vInt i) rfl) rfl ?_
    refine pt_regionEnd (pt_region ?_)
    refine pt_val (by decide) rfl (val_move (v := .slice (some ⟨bf, 0, none⟩) qs.length ca) rfl) rfl ?_
    refine pt_val (by decide) rfl (val_move (v := vInt i) rfl) rfl ?_
    refine pt_val (by decide) rfl (val_indexAddr_slice (m := 1) i i rfl rfl Try.underlying23 Try.sizeOf3 rfl hi (by omega)) rfl ?_
    refine pt_do (by decide) rfl (does_store_to (v := vInt 0) ((ys ++ rest2).set i (vInt 0)) 11 rfl rfl rfl rfl Try.sizeOf3 hk2 rfl) fun _ _ => ?_
    refine pt_regionEnd (pt_inBlock (pt_region ?_))
    refine pt_val (by decide) rfl (val_add_int (a := (i : Int)) (b := 1) _ rfl rfl rfl (by omega)) rfl ?_ (tame_int rfl rfl)
    refine pt_val (by decide) rfl (val_move (v := vInt (i + 1 : Nat)) rfl) rfl ?_
    refine pt_regionEnd (Pt.weaken ?_ (fun u hu => ?_) (hloop3 (i + 1) hi (by omega)))
    · exact ⟨rfl, rfl, rfl, rfl, rfl, rfl, trivial⟩
    · exact ⟨_, _, hset (vInt 0), hu⟩
  clear hloop3
  refine pt_exit rfl (pt_seq ?_)
  refine Pt.weaken (F' := [(10, .slice a2 m.moves.length c2), (8, .slice (some ⟨bf, of, none⟩) qs.length ca), (11, vPtr t11), (13, .slice ak2 m.moves.length ck2)]) ⟨rfl, rfl, rfl, rfl, trivial⟩ (M' := Mem z [] [some (sb2, blk [pv, .slice ak1 m.bd.notes.length ck1, pk2] 40), eb2, ep2, er2, some (t11, blk [pv, s1, s2, s3, .slice a4 m.bd.notes.length c4', .slice a5 m.moves.length c5'] 35), emb, emm, some (sb, blk [pv, .slice a1 m.bd.notes.length c1, pk] 40), eb, ep, er', ea']) (fun _ h => h) ?_
  refine pt_sw (by decide) (sw_4_28 hx (by omega)) (fun F' y1 hq => ?_) (fun ex F' y hne hq => hne hq.1)
  obtain ⟨-, al, cl, el, hrl, hF1, hy1⟩ := hq
  refine pt_seq (pt_seq ?_)
  refine Pt.weaken (F' := [(8, .slice (some ⟨bf, of, none⟩) qs.length ca), (10, .slice al (m.moves.length + 1) cl), (11, vPtr t11), (13, .slice ak2 m.moves.length ck2)]) ⟨hF1.2.1, hF1.1, hF1.2.2.1, hF1.2.2.2.1, trivial⟩ (M' := Mem y1 [] []) (fun w hw => hw ▸ Mem.refl y1) ?_
  refine pt_sw (by decide) (sw_4_29 (mvs := m.moves) rfl (fun w _ => awake_v (Post := Post)) (by rw [Go.Sx.cell_of_blk (hy1.at (i := 4) rfl)]; rfl) (k3.rdAt hy1 (i := 3) rfl) (hm.rdAt hy1 (i := 6) rfl) hl2) (fun F' y2 hq => ?_) (fun ex F' y hne hq => hne hq.1)
  obtain ⟨-, hF2, hy2'⟩ := hq
  have hm7 := hy1.grow hy2'
  refine Pt.weaken hF2 (M' := Mem z [] [some (sb2, blk [pv, .slice ak1 m.bd.notes.length ck1, pk2] 40), eb2, ep2, er2, some (t11, blk [pv, s1, s2, s3, .slice a4 m.bd.notes.length c4', .slice a5 m.moves.length c5'] 35), emb, emm, some (sb, blk [pv, .slice a1 m.bd.notes.length c1, pk] 40), eb, ep, el, ea']) (fun w hw => hw ▸ hm7) (pt_false rfl (pt_skip (pt_seq ?_)))
  refine Pt.weaken (F' := [(13, .slice ak2 m.moves.length ck2), (8, .slice (some ⟨bf, of, none⟩) qs.length ca), (10, .slice al (m.moves.length + 1) cl), (11, vPtr t11)]) ⟨rfl, rfl, rfl, rfl, trivial⟩ (fun _ h => h) ?_
  refine pt_sw (by decide) (sw_4_31 k3 (by omega)) (fun F' y3 hq => ?_) (fun ex F' y hne hq => hne hq.1)
  obtain ⟨-, ak, ck, ek, hrk, hF3, hy3⟩ := hq
  obtain ⟨b8, o8, rfl, q8⟩ := (hrl.rdAt hy3 (i := 10) rfl) (m.moves.length * 2) (vI (-8)) (by rw [List.getElem?_append_right (Nat.le_of_eq hx.1), hx.1, Nat.sub_self]; rfl)
  obtain ⟨b9, o9, rfl, q9⟩ := (hrk.rdAt hy3 (i := 3) rfl) (m.moves.length * 2) (vI (-9)) (by rw [List.getElem?_append_right (Nat.le_of_eq k3.1), k3.1, Nat.sub_self]; rfl)
  refine pt_seq ?_
  refine Pt.weaken (F' := [(10, .slice (some ⟨b8, o8, none⟩) (m.moves.length + 1) cl), (13, .slice (some ⟨b9, o9, none⟩) (m.moves.length + 1) ck)]) ⟨hF3.2.2.1, hF3.1, trivial⟩ (M' := Mem y3 [] []) (fun w hw => hw ▸ Mem.refl y3) ?_
  refine pt_sw (by decide) (sw_4_32 (by omega) q8 q9) (fun F' y4 hq => ?_) (fun ex F' y hne hq => hne hq.1)
  obtain ⟨-, hF4, hy4⟩ := hq
  exact hyes (fun w => w = y4) (fun w hw => hw ▸ hz.trans ((Mem.rv hy3).trans hy4)) _ _ hF4
end
end Go.Bt
end
