/- A PLAY OF THE BATON: what the row rests on. -/
import Derived.Test.YtjiajflhfnmkmaaOEnds
set_option linter.unusedVariables false
set_option linter.unusedSimpArgs false
set_option linter.unusedSectionVars false
section
namespace Go.Bt
variable [Gnd]
open Go.Conc Go.ConcN Go.RowKit Go.Proofs
open Go.Sx (Rly RV pz pzo pz_heap spec isWg Gud Co blk RowE Rd Mem CallV vInt CallI SW Sub Stb Pt callV_of_callI callI_of_pt pt_seq pt_sw pt_true pt_false pt_cond pt_if pt_skip pt_region pt_regionEnd pt_val pt_call pt_act pt_do pt_ret pt_block pt_inBlock pt_exit pt_loop_inv val_assign val_move val_load val_load_at val_load_all val_load_elem val_build' val_len val_not val_extract val_nilCheck val_fieldAddr val_indexAddr_slice val_slice_lo val_rem_int val_rem_to val_eql_int val_lss_int val_geq_int val_neq_int val_add_int val_gtr_int val_pick_true val_pick_false tame_nilCheck tame_int acts_box acts_alloc acts_buildSlice does_store_all callsTo ev_eval res_two res_slot Fits sw_region sw_region_lex ow_val ow_nil ow_make ow_call_pure ow_guard_yes ow_guard_no ow_guard_none lw_pure lw_held lw_nil lw_call_pure lwg_pure lwg_held lwg_call_pure lwg_no mem_of_rv pick wg)
theorem flatM_drop : ∀ (l : List (Int × Bool)) (k : Nat), (flatM l).drop (k * 2) = flatM (l.drop k)
  | l, 0 => by simp
  | [], k + 1 => by simp [flatM]
  | a :: l, k + 1 => by
    rw [show (k + 1) * 2 = k * 2 + 1 + 1 by omega]
    show ((flatM l)).drop (k * 2) = _
    rw [flatM_drop l k]; rfl
theorem flatM_len (l : List (Int × Bool)) : (flatM l).length = l.length * 2 := by
  induction l with
  | nil => rfl
  | cons a l ih =>
    show ((flatM l)).length + 1 + 1 = _
    rw [ih, List.length_cons]; omega
section
variable {v : World} {pv : Value}
theorem PlayU.facts2 {sb : Nat} {mv : Value} {m : Mac} {u : World} (h : PlayU pv v sb mv m u) : ∃ a1 c1 a2 c2 a3 c3, u.heap[sb]? = some (blk [pv, .slice a1 m.bd.notes.length c1, .slice a3 m.bd.pks.length c3] 40) ∧ Rd u a1 (flatB m.bd.notes) ∧ Rd u a3 (m.bd.pks.map vI) ∧ mv = .slice a2 m.moves.length c2 ∧ Rd u a2 (flatM m.moves) ∧ RV v u ∧ m.bd.notes.length ≤ c1 ∧ m.moves.length ≤ c2 := by
  obtain ⟨bs, pk, eb, ep, er, hm, h1, h2, h3⟩ := h.ex
  obtain ⟨a1, c1, rfl, _, r1⟩ := h1.rd (i := 1) hm rfl
  obtain ⟨a3, c3, rfl, _, r3⟩ := h2.rd (i := 2) hm rfl
  obtain ⟨a2, c2, rfl, _, r2⟩ := h3.rd (i := 3) hm rfl
  exact ⟨a1, c1, a2, c2, a3, c3, hm.at (i := 0) rfl, r1, r3, rfl, r2, Mem.rv hm, h1.le, h3.le⟩
theorem fin_move {ps : List (List Ins)} {qs : List Int} {calm : Bool} (hn : 0 < ps.length) {j : Nat} (hj : j < qs.length + calmJ ps qs calm) : (finM ps qs calm).moves[j]? = some ((whoOf ps.length qs j : Int), movedN ps qs j) := by
  unfold finM
  rw [movs_mac hn, List.getElem?_map, List.getElem?_range hj]; rfl
theorem fin_len {ps : List (List Ins)} {qs : List Int} {calm : Bool} (hn : 0 < ps.length) : (finM ps qs calm).moves.length = qs.length + calmJ ps qs calm := (mac_len hn _).2
theorem calmJ_no {ps : List (List Ins)} {qs : List Int} : calmJ ps qs false = 0 := by unfold calmJ; rw [if_neg (by decide)]
theorem who_at {n : Nat} (hn : 0 < n) {qs : List Int} {j : Nat} {q : Int} (h : qs[j]? = some q) : ((whoOf n qs j : Nat) : Int) = q % (n : Int) := by
  unfold whoOf; rw [h]
  exact Int.toNat_of_nonneg (Int.emod_nonneg q (by omega))
theorem who_calm {n : Nat} {qs : List Int} {j : Nat} : whoOf n qs (qs.length + j) = j % n := by
  unfold whoOf
  rw [List.getElem?_eq_none (by omega)]
  simp
end
noncomputable def c6 : Code := Try.f6.body.getD .skip
noncomputable def r6a : Code := match c6 with
  | .seq _ (.seq _ (.seq _ (.seq _ (.seq _ (.seq (.seq c _) _))))) => c
  | _ => .skip
noncomputable def r6b : Code := match c6 with
  | .seq _ (.seq _ (.seq _ (.seq _ (.seq _ (.seq _ (.seq (.seq _ (.block _ (.loop (.seq _ (.seq _ (.seq (.block _ (.seq _ (.seq c _))) _)))))) _)))))) => c
  | _ => .skip
noncomputable def r6c : Code := match c6 with
  | .seq _ (.seq _ (.seq _ (.seq _ (.seq _ (.seq _ (.seq _ (.seq _ (.seq _ (.seq _ (.seq _ (.seq (.seq _ (.block _ (.loop (.seq _ (.seq _ (.seq (.block _ (.seq _ (.seq (.seq c _) _))) _)))))) _))))))))))) => c
  | _ => .skip
section
variable {v : World} {pv : Value} {ps : List (List Ins)} {qs : List Int} {calm : Bool} {Post : Value → World → Prop}
set_option maxRecDepth 100000 in
set_option maxHeartbeats 4000000 in
theorem sw_6_4 [C : Co Try.prog] {qa : Option Addr} {cap : Nat} (hfit : ∀ w, Mem v [] [] w → CallV Try.prog 13 #[pv, .slice qa qs.length cap] w (fun r u => r = .returned (.bool (isFit ps qs)) ∧ RV w u)) (hend : ∀ w, Mem v [] [] w → CallV Try.prog 14 #[pv] w (fun r u => r = .returned (.bool (isEndless ps)) ∧ RV w u)) :
    SW Try.prog 115 (cL (cL (cR (cR (cR c6))))) [(0, pv), (1, .slice qa qs.length cap), (2, .bool calm), (7, vInt ps.length)] (Mem v [] []) (fun ex F' w => ex = .normal ∧ Sub ((34, .bool ((!isFit ps qs || (calm && isEndless ps)) || decide ((ps.length : Int) = 0))) :: [(0, pv), (1, .slice qa qs.length cap), (2, .bool calm), (7, vInt ps.length)]) F' ∧ Mem v [] [] w) := by
  show SW Try.prog 115 (Code.region 4 _ false) _ _ _
  refine sw_region ?_
  refine ow_val (val_move (v := pv) rfl) rfl ?_
  refine ow_val (val_move (v := .slice qa qs.length cap) rfl) rfl ?_
  refine ow_call_pure (v := .bool (isFit ps qs)) (callsTo Try.func13 rfl (by kernel_rfl) rfl) rfl (fun w hm => (hfit w hm).mono fun e u hu => ⟨_, hu.1, rfl, mem_of_rv hu.2⟩) ?_
  refine ow_val (val_not rfl) rfl ?_
  refine ow_val (val_move (v := .bool (!isFit ps qs)) rfl) rfl ?_
  generalize isFit ps qs = b1
  cases b1 with
  | false =>
    refine ow_guard_no (t := 24) rfl rfl rfl rfl rfl ?_
    refine ow_guard_no (t := 24) rfl rfl rfl rfl rfl ?_
    refine ow_guard_none (t := 26) rfl rfl rfl rfl rfl ?_
    refine ow_guard_none (t := 26) rfl rfl rfl rfl rfl ?_
    refine ow_guard_no (t := 24) rfl rfl rfl rfl rfl ?_
    refine ow_val (val_pick_true (v := .bool true) rfl rfl) rfl ?_
    refine ow_val (val_move (v := .bool true) rfl) rfl ?_
    refine ow_guard_no (t := 31) rfl rfl rfl rfl rfl ?_
    refine ow_guard_no (t := 31) rfl rfl rfl rfl rfl ?_
    refine ow_val (val_pick_true (v := .bool true) rfl rfl) rfl ?_
    exact ow_nil fun w hw => ⟨rfl, ⟨rfl, rfl, rfl, rfl, rfl, trivial⟩, hw⟩
  | true =>
    refine ow_guard_yes (t := 24) rfl rfl rfl (ow_val (val_move (v := .bool calm) rfl) rfl ?_)
    refine ow_guard_yes (t := 24) rfl rfl rfl (ow_val (val_move (v := .bool calm) rfl) rfl ?_)
    cases calm with
    | false =>
      refine ow_guard_no (t := 26) rfl rfl rfl rfl rfl ?_
      refine ow_guard_no (t := 26) rfl rfl rfl rfl rfl ?_
      refine ow_guard_yes (t := 24) rfl rfl rfl (ow_val (val_pick_false (v := .bool false) rfl rfl) rfl ?_)
      refine ow_val (val_pick_false (v := .bool false) rfl rfl) rfl ?_
      refine ow_val (val_move (v := .bool false) rfl) rfl ?_
      refine ow_guard_yes (t := 31) rfl rfl rfl (ow_val (val_move (v := vInt ps.length) rfl) rfl ?_)
      refine ow_guard_yes (t := 31) rfl rfl rfl (ow_val (val_eql_int (a := (ps.length : Int)) (b := 0) rfl rfl) rfl ?_ (tame_int rfl rfl))
      refine ow_val (val_pick_false (v := .bool (decide ((ps.length : Int) = 0))) rfl rfl) rfl ?_
      exact ow_nil fun w hw => ⟨rfl, ⟨rfl, rfl, rfl, rfl, rfl, trivial⟩, hw⟩
    | true =>
      refine ow_guard_yes (t := 26) rfl rfl rfl (ow_val (val_move (v := pv) rfl) rfl ?_)
      refine ow_guard_yes (t := 26) rfl rfl rfl (ow_call_pure (v := .bool (isEndless ps)) (callsTo Try.func14 rfl (by kernel_rfl) rfl) rfl (fun w hm => (hend w hm).mono fun e u hu => ⟨_, hu.1, rfl, mem_of_rv hu.2⟩) ?_)
      refine ow_guard_yes (t := 24) rfl rfl rfl (ow_val (val_pick_true (v := .bool (isEndless ps)) rfl rfl) rfl ?_)
      refine ow_val (val_pick_false (v := .bool (isEndless ps)) rfl rfl) rfl ?_
      generalize isEndless ps = b2
      cases b2 with
      | true =>
        refine ow_val (val_move (v := .bool true) rfl) rfl ?_
        refine ow_guard_no (t := 31) rfl rfl rfl rfl rfl ?_
        refine ow_guard_no (t := 31) rfl rfl rfl rfl rfl ?_
        refine ow_val (val_pick_true (v := .bool true) rfl rfl) rfl ?_
        exact ow_nil fun w hw => ⟨rfl, ⟨rfl, rfl, rfl, rfl, rfl, trivial⟩, hw⟩
      | false =>
        refine ow_val (val_move (v := .bool false) rfl) rfl ?_
        refine ow_guard_yes (t := 31) rfl rfl rfl (ow_val (val_move (v := vInt ps.length) rfl) rfl ?_)
        refine ow_guard_yes (t := 31) rfl rfl rfl (ow_val (val_eql_int (a := (ps.length : Int)) (b := 0) rfl rfl) rfl ?_ (tame_int rfl rfl))
        refine ow_val (val_pick_false (v := .bool (decide ((ps.length : Int) = 0))) rfl rfl) rfl ?_
        exact ow_nil fun w hw => ⟨rfl, ⟨rfl, rfl, rfl, rfl, rfl, trivial⟩, hw⟩
set_option maxRecDepth 100000 in
set_option maxHeartbeats 4000000 in
theorem sw_6_7 [C : Co Try.prog] {M c2 n q cap : Nat} {a2 qa : Option Addr} (h1 : q ≤ M) (h2 : calm = false → M = q) :
    SW Try.prog 115 r6a [(1, .slice qa q cap), (2, .bool calm), (7, vInt n), (9, .slice a2 M c2)] (Mem v [] []) (fun ex F' w => ex = .normal ∧ Sub [(57, .bool false), (1, .slice qa q cap), (2, .bool calm), (7, vInt n), (9, .slice a2 M c2)] F' ∧ RV v w) := by
  show SW Try.prog 115 (Code.region 7 _ false) _ _ _
  refine sw_region ?_
  refine ow_val (val_move (v := .slice a2 M c2) rfl) rfl ?_
  refine ow_val (val_len (len := M) rfl Try.underlying28) rfl ?_
  refine ow_val (val_move (v := .slice qa q cap) rfl) rfl ?_
  refine ow_val (val_len (len := q) rfl Try.underlying23) rfl ?_
  refine ow_val (val_lss_int (a := (M : Int)) (b := (q : Int)) rfl rfl) rfl ?_ (tame_int rfl rfl)
  rw [decide_eq_false (show ¬ (M : Int) < (q : Int) by omega)]
  refine ow_val (val_move (v := .bool false) rfl) rfl ?_
  refine ow_guard_yes (t := 47) rfl rfl rfl (ow_val (val_move (v := .bool calm) rfl) rfl ?_)
  refine ow_guard_yes (t := 47) rfl rfl rfl (ow_val (val_not rfl) rfl ?_)
  refine ow_guard_yes (t := 47) rfl rfl rfl (ow_val (val_move (v := .bool (!calm)) rfl) rfl ?_)
  cases calm with
  | true =>
    refine ow_guard_no (t := 50) rfl rfl rfl rfl rfl ?_
    refine ow_guard_no (t := 50) rfl rfl rfl rfl rfl ?_
    refine ow_guard_no (t := 50) rfl rfl rfl rfl rfl ?_
    refine ow_guard_no (t := 50) rfl rfl rfl rfl rfl ?_
    refine ow_guard_no (t := 50) rfl rfl rfl rfl rfl ?_
    refine ow_guard_yes (t := 47) rfl rfl rfl (ow_val (val_pick_false (v := .bool false) rfl rfl) rfl ?_)
    refine ow_val (val_pick_false (v := .bool false) rfl rfl) rfl ?_
    exact ow_nil fun w hw => ⟨rfl, ⟨rfl, rfl, rfl, rfl, rfl, trivial⟩, Mem.rv hw⟩
  | false =>
    obtain rfl := h2 rfl
    refine ow_guard_yes (t := 50) rfl rfl rfl (ow_val (val_move (v := .slice a2 M c2) rfl) rfl ?_)
    refine ow_guard_yes (t := 50) rfl rfl rfl (ow_val (val_len (len := M) rfl Try.underlying28) rfl ?_)
    refine ow_guard_yes (t := 50) rfl rfl rfl (ow_val (val_move (v := .slice qa M cap) rfl) rfl ?_)
    refine ow_guard_yes (t := 50) rfl rfl rfl (ow_val (val_len (len := M) rfl Try.underlying23) rfl ?_)
    refine ow_guard_yes (t := 50) rfl rfl rfl (ow_val (val_neq_int (a := (M : Int)) (b := (M : Int)) rfl rfl) rfl ?_ (tame_int rfl rfl))
    rw [decide_eq_false (show ¬ (M : Int) ≠ (M : Int) from fun h => h rfl)]
    refine ow_guard_yes (t := 47) rfl rfl rfl (ow_val (val_pick_true (v := .bool false) rfl rfl) rfl ?_)
    refine ow_val (val_pick_false (v := .bool false) rfl rfl) rfl ?_
    exact ow_nil fun w hw => ⟨rfl, ⟨rfl, rfl, rfl, rfl, rfl, trivial⟩, Mem.rv hw⟩
set_option maxRecDepth 100000 in
set_option maxHeartbeats 4000000 in
theorem sw_6_12 [C : Co Try.prog] {M c2 n b2 o2 j : Nat} {q : Int} {x1 x2 x58 x59 x60 : Value} (hn : 0 < n) (hn4 : n ≤ 40) (hj : j < M) (k2 : v.cell? ⟨b2, o2 + j * 2, none⟩ = some (vInt (q % (n : Int)))) :
    SW Try.prog 115 r6b [(1, x1), (2, x2), (7, vInt n), (9, .slice (some ⟨b2, o2, none⟩) M c2), (10, vInt j), (11, vInt q), (58, x58), (59, x59), (60, x60)] (Mem v [] []) (fun ex F' w => ex = .normal ∧ Sub [(77, .bool false), (1, x1), (2, x2), (7, vInt n), (9, .slice (some ⟨b2, o2, none⟩) M c2), (58, x58), (59, x59), (60, x60)] F' ∧ RV v w) := by
  have hb := Int.tmod_lt_of_pos q (show (0 : Int) < n by omega)
  have hb2 : -(n : Int) < Int.tmod q n := by
    have := Int.lt_tmod_of_pos q (show (0 : Int) < n by omega)
    omega
  show SW Try.prog 115 (Code.region 12 _ true) _ _ _
  refine sw_region_lex (Mem v [] []) [] [(0, 0), (1, 0), (2, 0), (3, 0), (4, 1), (5, 0), (6, 0), (7, 0), (8, 0), (9, 0), (10, 0), (11, 0), (12, 0)] (by kernel_rfl) (by kernel_rfl) (fun c F w h => by cases h.1) (fun _ h => h) (fun w h => h.drawn _) ?_
  refine lw_pure rfl (val_move (v := .slice (some ⟨b2, o2, none⟩) M c2) rfl) rfl ?_
  refine lw_pure rfl (val_move (v := vInt j) rfl) rfl ?_
  refine lw_pure rfl (val_indexAddr_slice (m := 2) j (o2 + j * 2) rfl rfl Try.underlying28 Try.sizeOf43 rfl hj rfl) rfl ?_
  refine lw_pure rfl (val_fieldAddr (b := b2) (o := o2 + j * 2) (e := o2 + j * 2) rfl Try.underlying43 rfl rfl Try.sizeOf3 rfl) rfl ?_
  refine lw_held rfl (val_load rfl Try.isAgg3 (v := vInt (q % (n : Int))) (fun w h => cell_rv' k2 (Mem.rv h))) rfl ?_
  refine lw_pure rfl (val_move (v := vInt q) rfl) rfl ?_
  refine lw_pure rfl (val_move (v := vInt n) rfl) rfl ?_
  refine lw_pure rfl (val_rem_int (a := q) (b := (n : Int)) rfl rfl (by omega)) rfl ?_ (hT := tame_int rfl rfl)
  refine lw_pure rfl (val_move (v := vInt n) rfl) rfl ?_
  refine lw_pure rfl (val_add_int (a := Int.tmod q n) (b := (n : Int)) (Int.tmod q n + n) rfl rfl rfl (by omega)) rfl ?_ (hT := tame_int rfl rfl)
  refine lw_pure rfl (val_move (v := vInt n) rfl) rfl ?_
  refine lw_pure rfl (val_rem_to (a := Int.tmod q n + n) (b := (n : Int)) (r := q % (n : Int)) rfl rfl (by omega) (tmod_pick q hn)) rfl ?_ (hT := tame_int rfl rfl)
  refine lw_pure rfl (val_neq_int (a := q % (n : Int)) (b := q % (n : Int)) rfl rfl) rfl ?_ (hT := tame_int rfl rfl)
  rw [decide_eq_false (show ¬ q % (n : Int) ≠ q % (n : Int) from fun h => h rfl)]
  exact lw_nil fun w hw => ⟨rfl, ⟨rfl, rfl, rfl, rfl, rfl, rfl, rfl, rfl, trivial⟩, Mem.rv hw⟩
set_option maxRecDepth 100000 in
set_option maxHeartbeats 4000000 in
theorem sw_6_24 [C : Co Try.prog] {n i t15 st : Nat} {mv : Bool} {x89 x90 x91 : Value} (hn : 0 < n) (hst : st < n) :
    SW Try.prog 115 r6c [(7, vInt n), (13, vInt st), (14, vInt i), (15, vPtr t15), (89, x89), (90, x90), (91, x91)] (Mem v [] [some (t15, blk [vI (i % n : Nat), .bool mv] 43)]) (fun ex F' w => ex = .normal ∧ Sub [(106, .bool false), (7, vInt n), (13, vInt st), (15, vPtr t15), (89, x89), (90, x90), (91, x91)] F' ∧ Mem v [] [some (t15, blk [vI (i % n : Nat), .bool mv] 43)] w) := by
  show SW Try.prog 115 (Code.region 24 _ true) _ _ _
  refine sw_region_lex (Mem v [] [some (t15, blk [vI (i % n : Nat), .bool mv] 43)]) [] [(0, 0), (1, 1), (2, 0), (3, 0), (4, 0), (5, 0), (6, 0), (7, 0), (8, 0), (9, 0), (10, 0)] (by kernel_rfl) (by kernel_rfl) (fun c F w h => by cases h.1) (fun _ h => h) (fun w h => h.drawn _) ?_
  refine lw_pure rfl (val_fieldAddr (b := t15) (o := 0) (e := 0) rfl Try.underlying43 rfl rfl Try.sizeOf3 rfl) rfl ?_
  refine lw_held rfl (val_load_at (v := vI (i % n : Nat)) 0 rfl rfl Try.isAgg3 rfl) rfl ?_
  refine lw_pure rfl (val_move (v := vInt i) rfl) rfl ?_
  refine lw_pure rfl (val_move (v := vInt n) rfl) rfl ?_
  refine lw_pure rfl (val_rem_to (a := (i : Int)) (b := (n : Int)) (r := ((i % n : Nat) : Int)) rfl rfl (by omega) (by rw [Int.tmod_eq_emod_of_nonneg (by omega)]; omega)) rfl ?_ (hT := tame_int rfl rfl)
  refine lw_pure rfl (val_neq_int (a := ((i % n : Nat) : Int)) (b := ((i % n : Nat) : Int)) rfl rfl) rfl ?_ (hT := tame_int rfl rfl)
  rw [decide_eq_false (show ¬ ((i % n : Nat) : Int) ≠ ((i % n : Nat) : Int) from fun h => h rfl)]
  refine lw_pure rfl (val_move (v := .bool false) rfl) rfl ?_
  refine lwg_pure rfl (wg rfl rfl) (val_move (v := vInt st) rfl) rfl ?_
  refine lwg_pure rfl (wg rfl rfl) (val_move (v := vInt n) rfl) rfl ?_
  refine lwg_pure rfl (wg rfl rfl) (val_geq_int (a := (st : Int)) (b := (n : Int)) rfl rfl) rfl ?_ (hT := tame_int rfl rfl)
  rw [decide_eq_false (show ¬ (st : Int) ≥ (n : Int) by omega)]
  refine lw_pure rfl (val_pick_false (v := .bool false) rfl rfl) rfl ?_
  exact lw_nil fun w hw => ⟨rfl, ⟨rfl, rfl, rfl, rfl, rfl, rfl, rfl, trivial⟩, hw⟩
set_option maxRecDepth 100000 in
set_option maxHeartbeats 8000000 in
theorem shape_p {S : List Frame} (hy : ∀ (F : Go.Sx.Fr) (t : List Item), Sub [(6, .bool true)] F → Pt (fun _ : Unit => coLaw Try.prog Post) 115 (Go.Sx.fr0 6) S () (.code .ret :: t) F (fun w => RV v w)) {qa : Option Addr} {cap : Nat} (hG : PrgV v pv ps) (hsum : (ps.map List.length).sum ≤ 4611686018427387904) (hlen : ps.length ≤ 4611686018427387904) (hQ : QV v qa qs) :
    Pt (fun _ : Unit => coLaw Try.prog Post) 115 (Go.Sx.fr0 6) S () [.code c6] (Go.Sx.slots 0 [pv, .slice qa qs.length cap, .bool calm]) (· = v) := by
  letI C : Co Try.prog := coLaw Try.prog Post
  obtain ⟨pa, pc, hpv, _⟩ := hG.ex
  have hone : pv.oneCell' = true := by rw [hpv]; rfl
  have hyes : ∀ (M : World → Prop) (hM : ∀ w, M w → RV v w) (F : Go.Sx.Fr) (t : List Item), Sub [(6, .bool true)] F → Pt (fun _ : Unit => C) 115 (Go.Sx.fr0 6) S () (.code .ret :: t) F M := fun M hM F t hF => Pt.imp hM (hy F t hF)
  refine Pt.imp (M' := fun w => RV v w) (fun w hw => hw ▸ RV.refl _) (pt_seq (pt_region ?_))
  refine pt_val (by decide) rfl (val_assign (v := .bool false) rfl) rfl ?_
  refine pt_regionEnd (pt_seq (pt_seq (pt_region ?_)))
  refine pt_call (T := fun w r _ u => r = .returned (.bool true) ∧ RV w u) (by decide) rfl (callsTo (xs := []) (vs := []) Try.func12 rfl (by decide) rfl) (by infer_instance) (fun w hw => callI_of_v (awake_v (Post := Post))) (fun t' ht => by cases ht; rfl) (fun w r x' hw => ?_) (fun w ch x' hw a w' hf hl => ?_)
  rotate_left
  · obtain ⟨z, ⟨hz, _⟩, _⟩ := hl; cases hz
  refine Pt.world fun z hz => ?_
  obtain ⟨hr, hz⟩ := hz
  obtain rfl : r = .bool true := by cases hr; rfl
  replace hz := RV.trans hw hz
  clear hr hw
  have hGz := hG.grow hz
  refine Pt.imp (M' := Mem z [] []) (fun u hu => hu ▸ Mem.refl z) ?_
  refine pt_val (by decide) rfl (val_not rfl) rfl (pt_regionEnd (pt_false rfl (pt_skip (pt_seq (pt_region ?_)))))
  refine pt_val (by decide) rfl (val_move (v := pv) rfl) rfl ?_
  refine pt_val (by decide) rfl (val_len (len := ps.length) (by rw [hpv]; rfl) Try.underlying22) rfl ?_
  refine pt_val (by decide) rfl (val_assign (v := vInt ps.length) rfl) rfl ?_
  refine pt_regionEnd (pt_seq (pt_seq ?_))
  refine Pt.weaken (F' := [(0, pv), (1, .slice qa qs.length cap), (2, .bool calm), (7, vInt ps.length)]) ⟨rfl, rfl, rfl, rfl, trivial⟩ (fun _ h => h) ?_
  refine pt_sw (by decide) (sw_6_4 (fun w hw => fit_v (hGz.grow (Mem.rv hw)) hsum hlen) (fun w hw => endless_v (hGz.grow (Mem.rv hw)) hlen)) (fun F' y hq => ?_) (fun ex F' y hne hq => hne hq.1)
  obtain ⟨-, hF, hy⟩ := hq
  refine Pt.weaken hF (M' := Mem z [] []) (fun w hw => hw ▸ hy) (pt_cond rfl (fun hs => ?_) (fun hs => pt_skip ?_))
  · refine pt_seq (pt_region (pt_val (by decide) rfl (val_assign (v := .bool true) rfl) rfl (pt_regionEnd ?_)))
    exact hyes _ (fun w hw => hz.trans (Mem.rv hw)) _ _ ⟨rfl, trivial⟩
  clear hF hy
  have hFit : Fit ps qs := fit_iff.1 (by simpa using (Bool.or_eq_false_iff.1 (Bool.or_eq_false_iff.1 hs).1).1)
  obtain ⟨hl1, hl2⟩ := fin_small (calm := calm) hFit
  refine pt_seq (pt_region ?_)
  refine pt_val (by decide) rfl (val_move (v := pv) rfl) rfl ?_
  refine pt_val (by decide) rfl (val_move (v := .slice qa qs.length cap) rfl) rfl ?_
  refine pt_val (by decide) rfl (val_move (v := .bool calm) rfl) rfl ?_
  refine pt_call (T := fun w r _ u => ∃ sb mv, r = .returned (.tuple #[vPtr sb, mv]) ∧ PlayU pv w sb mv (finM ps qs calm) u) (by decide) rfl (callsTo (xs := [.tmp 36, .tmp 37, .tmp 38]) (vs := [pv, .slice qa qs.length cap, .bool calm]) Try.func15 rfl (by decide) rfl) (by infer_instance) (fun w hw => callI_of_v (plU_v (Post := Post) hFit (hGz.grow (Mem.rv hw)) (hQ.grow (hz.trans (Mem.rv hw))))) (fun t' ht => by cases ht; rfl) (fun w r x' hw => ?_) (fun w ch x' hw a w' hf hl => ?_)
  rotate_left
  · obtain ⟨z, ⟨_, _, hz, _⟩, _⟩ := hl; cases hz
  refine Pt.world fun z2 hz2 => ?_
  obtain ⟨sb, mv, hr, hU⟩ := hz2
  obtain rfl : r = .tuple #[vPtr sb, mv] := by cases hr; rfl
  obtain ⟨a1, c1, a2, c2, a3, c3', hst, r1, r3, rfl, r2, hv2, -, hk2⟩ := hU.facts2
  replace hv2 := hz.trans ((Mem.rv hw).trans hv2)
  clear hr hw hU
  refine Pt.imp (M' := fun w => RV z2 w) (fun u hu => hu ▸ RV.refl z2) ?_
  refine pt_val (by decide) rfl (val_move (v := .tuple #[vPtr sb, .slice a2 (finM ps qs calm).moves.length c2]) rfl) rfl ?_
  refine pt_val (by decide) rfl (val_extract (v := vPtr sb) rfl rfl) rfl ?_
  refine pt_val (by decide) rfl (val_extract (v := .slice a2 (finM ps qs calm).moves.length c2) rfl rfl) rfl ?_
  refine pt_val (by decide) rfl (val_assign (v := vPtr sb) rfl) rfl ?_
  refine pt_val (by decide) rfl (val_assign (v := .slice a2 (finM ps qs calm).moves.length c2) rfl) rfl ?_
  refine pt_regionEnd ?_
  have hn : 0 < ps.length := by
    have := (Bool.or_eq_false_iff.1 hs).2
    have := of_decide_eq_false this
    omega
  have hn4 := hFit.n
  have hq4 := hFit.q
  have hML := fin_len (ps := ps) (qs := qs) (calm := calm) hn
  have hmv := fun {j : Nat} (h : j < qs.length + calmJ ps qs calm) => fin_move (ps := ps) (qs := qs) (calm := calm) hn h
  have hJ0 : calm = false → calmJ ps qs calm = 0 := fun h => by rw [h]; exact calmJ_no
  have hend := calm_end (qs := qs) hFit hn
  have hQ2 := hQ.grow hv2
  have hJle := calmJ_le ps qs calm
  refine pt_seq (pt_seq (Pt.world fun z4 hz4 => ?_))
  refine Pt.weaken (F' := [(1, .slice qa qs.length cap), (2, .bool calm), (7, vInt ps.length), (9, .slice a2 (finM ps qs calm).moves.length c2)]) ⟨rfl, rfl, rfl, rfl, trivial⟩ (M' := Mem z4 [] []) (fun w hw => hw ▸ Mem.refl z4) ?_
  refine pt_sw (by decide) (sw_6_7 (by omega) (fun h => by rw [hML, hJ0 h]; rfl)) (fun F' y hq => ?_) (fun ex F' y hne hq => hne hq.1)
  obtain ⟨-, hF, hy⟩ := hq
  refine Pt.weaken hF (M' := fun w => RV z2 w) (fun w hw => hw ▸ hz4.trans hy) (pt_false rfl (pt_skip ?_))
  generalize (finM ps qs calm).moves = mvs at *
  refine pt_seq (pt_seq (pt_region ?_))
  refine pt_val (by decide) rfl (val_move (v := .slice qa qs.length cap) rfl) rfl ?_
  refine pt_val (by decide) rfl (val_len (len := qs.length) rfl Try.underlying23) rfl ?_
  refine pt_val (by decide) rfl (val_move (v := vInt (0 : Nat)) rfl) rfl ?_
  refine pt_regionEnd (pt_block ?_)
  refine pt_loop_inv (fun j : Nat => j ≤ qs.length) (fun j => [(1, .slice qa qs.length cap), (2, .bool calm), (7, vInt ps.length), (9, .slice a2 mvs.length c2), (58, .slice qa qs.length cap), (59, vInt qs.length), (60, vInt j)]) (fun _ => ()) (fun _ z => RV z2 z) (fun j => qs.length - j) 0 (Nat.zero_le _) ⟨rfl, rfl, rfl, rfl, rfl, rfl, rfl, trivial⟩ rfl (fun _ h => h) ?_
  rintro j hle hloop
  refine pt_seq (pt_region ?_)
  refine pt_val (by decide) rfl (val_lss_int (a := (j : Int)) (b := (qs.length : Int)) rfl rfl) rfl ?_ (tame_int rfl rfl)
  refine pt_regionEnd (pt_seq (pt_if rfl (fun hlt => ?_) (fun hge => ?_)))
  · have hj : j < qs.length := by omega
    have hgq : qs[j]? = some qs[j] := List.getElem?_eq_getElem hj
    generalize qs[j] = q at hgq
    obtain ⟨bq, oq, rfl, _, kq⟩ := hQ2.cells j q hgq
    have hgm := hmv (j := j) (by omega)
    obtain ⟨b2, o2, rfl, k2⟩ := r2 (j * 2) _ (flatM_get hgm).1
    rw [who_at hn hgq] at k2
    refine pt_skip (pt_seq (pt_block (pt_seq (pt_region ?_))))
    refine pt_val (by decide) rfl (val_move (v := vInt j) rfl) rfl ?_
    refine pt_val (by decide) rfl (val_indexAddr_slice (m := 1) j (oq + j) rfl rfl Try.underlying23 Try.sizeOf3 rfl hj (by omega)) rfl ?_
    refine pt_val (by decide) rfl (val_load rfl Try.isAgg3 (v := vI q) (fun w h => cell_rv' kq h)) rfl ?_
    refine pt_val (by decide) rfl (val_assign (v := vInt j) rfl) rfl ?_
    refine pt_val (by decide) rfl (val_assign (v := vI q) rfl) rfl ?_
    refine pt_regionEnd (pt_seq (Pt.world fun z5 hz5 => ?_))
    refine Pt.weaken (F' := [(1, .slice (some ⟨bq, oq, none⟩) qs.length cap), (2, .bool calm), (7, vInt ps.length), (9, .slice (some ⟨b2, o2, none⟩) mvs.length c2), (10, vInt j), (11, vInt q), (58, .slice (some ⟨bq, oq, none⟩) qs.length cap), (59, vInt qs.length), (60, vInt j)]) ⟨rfl, rfl, rfl, rfl, rfl, rfl, rfl, rfl, rfl, trivial⟩ (M' := Mem z5 [] []) (fun w hw => hw ▸ Mem.refl z5) ?_
    refine pt_sw (by decide) (sw_6_12 hn hn4 (by omega) (cell_rv' k2 hz5)) (fun F' y hq => ?_) (fun ex F' y hne hq => hne hq.1)
    obtain ⟨-, hF, hy⟩ := hq
    refine Pt.weaken hF (M' := fun w => RV z2 w) (fun w hw => hw ▸ hz5.trans hy) ?_
    refine pt_false rfl (pt_skip (pt_inBlock (pt_region ?_)))
    refine pt_val (by decide) rfl (val_add_int (a := (j : Int)) (b := 1) _ rfl rfl rfl (by omega)) rfl ?_ (tame_int rfl rfl)
    refine pt_val (by decide) rfl (val_move (v := vInt (j + 1 : Nat)) rfl) rfl ?_
    refine pt_regionEnd (Pt.weaken ?_ (fun _ h => h) (hloop (j + 1) hj (by omega)))
    exact ⟨rfl, rfl, rfl, rfl, rfl, rfl, rfl, trivial⟩
  refine pt_exit rfl (pt_seq (pt_seq (pt_region ?_)))
  refine pt_val (by decide) rfl (val_move (v := .bool calm) rfl) rfl ?_
  refine pt_val (by decide) rfl (val_not rfl) rfl (pt_regionEnd ?_)
  refine pt_cond rfl (fun hnc => ?_) (fun hcm => pt_skip ?_)
  · refine pt_seq (pt_region (pt_val (by decide) rfl (val_assign (v := .bool true) rfl) rfl (pt_regionEnd ?_)))
    exact hyes (fun w => RV z2 w) (fun w hw => hv2.trans hw) _ _ ⟨rfl, trivial⟩
  obtain rfl : calm = true := by simpa using hcm
  obtain ⟨hend1, hend2, hend3⟩ := hend
  have hgm0 := hmv (j := 0) (by omega)
  obtain ⟨b2, o2, rfl, -⟩ := r2 (0 * 2) _ (flatM_get hgm0).1
  have hrd : Rd z2 (some ⟨b2, o2 + qs.length * 2, none⟩) (flatM (mvs.drop qs.length)) := by
    have h := Rd.drop r2 (k := qs.length) (m := 2) (c := c2) (len := mvs.length) (flatM_len mvs) (by omega) hk2
    rw [if_neg (by omega), flatM_drop] at h
    exact h
  generalize calmJ ps qs true = J at *
  generalize hmd : (fun j => movedN ps qs (qs.length + j)) = mv at *
  refine pt_seq (pt_region ?_)
  refine pt_val (by decide) rfl (val_move (v := .slice (some ⟨b2, o2, none⟩) mvs.length c2) rfl) rfl ?_
  refine pt_val (by decide) rfl (val_move (v := .slice qa qs.length cap) rfl) rfl ?_
  refine pt_val (by decide) rfl (val_len (len := qs.length) rfl Try.underlying23) rfl ?_
  refine pt_val (by decide) rfl (val_slice_lo (m := 2) qs.length rfl rfl Try.underlying28 Try.sizeOf43 rfl (by omega) hk2) rfl ?_
  rw [if_neg (show ¬ c2 = qs.length by omega), show mvs.length - qs.length = J by omega]
  refine pt_val (by decide) rfl (val_assign (v := .slice (some ⟨b2, o2 + qs.length * 2, none⟩) J (c2 - qs.length)) rfl) rfl ?_
  refine pt_regionEnd (pt_seq (pt_seq (pt_region ?_)))
  refine pt_val (by decide) rfl (val_move (v := .slice (some ⟨b2, o2 + qs.length * 2, none⟩) J (c2 - qs.length)) rfl) rfl ?_
  refine pt_val (by decide) rfl (val_len (len := J) rfl Try.underlying28) rfl ?_
  refine pt_val (by decide) rfl (val_move (v := vInt ps.length) rfl) rfl ?_
  refine pt_val (by decide) rfl (val_lss_int (a := (J : Int)) (b := (ps.length : Int)) rfl rfl) rfl ?_ (tame_int rfl rfl)
  refine pt_regionEnd (pt_if rfl (fun h => absurd h (by omega)) (fun _ => pt_skip ?_))
  refine pt_seq (pt_region (pt_val (by decide) rfl (val_assign (v := vInt (0 : Nat)) rfl) rfl (pt_regionEnd ?_)))
  refine pt_seq (pt_seq (pt_region ?_))
  refine pt_val (by decide) rfl (val_move (v := .slice (some ⟨b2, o2 + qs.length * 2, none⟩) J (c2 - qs.length)) rfl) rfl ?_
  refine pt_val (by decide) rfl (val_len (len := J) rfl Try.underlying28) rfl ?_
  refine pt_val (by decide) rfl (val_move (v := vInt (0 : Nat)) rfl) rfl ?_
  refine pt_regionEnd (pt_block ?_)
  refine pt_loop_inv (fun i : Nat => i ≤ J) (fun i => [(7, vInt ps.length), (13, vInt (stillN mv i : Nat)), (89, .slice (some ⟨b2, o2 + qs.length * 2, none⟩) J (c2 - qs.length)), (90, vInt J), (91, vInt i)]) (fun _ => ()) (fun _ z => RV z2 z) (fun i => J - i) 0 (Nat.zero_le _) ⟨rfl, rfl, rfl, rfl, rfl, trivial⟩ rfl (fun _ h => h) ?_
  rintro i hle2 hloop2
  refine pt_seq (pt_region ?_)
  refine pt_val (by decide) rfl (val_lss_int (a := (i : Int)) (b := (J : Int)) rfl rfl) rfl ?_ (tame_int rfl rfl)
  refine pt_regionEnd (pt_seq (pt_if rfl (fun hlt2 => ?_) (fun hge2 => ?_)))
  · have hi : i < J := by omega
    have hil : i < (mvs.drop qs.length).length := by rw [List.length_drop]; omega
    have hgi : (mvs.drop qs.length)[i]? = some (((i % ps.length : Nat) : Int), mv i) := by
      rw [List.getElem?_drop, hmv (by omega), who_calm, ← hmd]
    have hge : (mvs.drop qs.length).getD i default = (((i % ps.length : Nat) : Int), mv i) := by rw [List.getD_eq_getElem?_getD, hgi]; rfl
    have hsi := hend1 i hi
    have hsu : stillN mv (i + 1) = if mv i then 0 else stillN mv i + 1 := rfl
    refine pt_skip (pt_seq (pt_block (pt_seq (Pt.world fun z5 hz5 => ?_))))
    refine Pt.imp (M' := Mem z5 [] []) (fun w hw => hw ▸ Mem.refl z5) (pt_region ?_)
    refine pt_val (by decide) rfl (val_move (v := vInt i) rfl) rfl ?_
    refine pt_val (by decide) rfl (val_indexAddr_slice (m := 2) i (o2 + qs.length * 2 + i * 2) rfl rfl Try.underlying28 Try.sizeOf43 rfl hi rfl) rfl ?_
    refine pt_val (by decide) rfl (val_load_elem (cells := fun y : Int × Bool => [vI y.1, .bool y.2]) (l := mvs.drop qs.length) (o := o2 + qs.length * 2) (i := i) rfl Try.isAgg43 Try.sizeOf43 (fun _ _ => rfl) hil rfl (fun w hw => hrd.rv (hz5.trans (Mem.rv hw)))) rfl ?_
    rw [hge]
    generalize mv i = mi at hsu
    refine pt_new (by decide) rfl (acts_alloc Try.zeroValue43) rfl fun t15 ht15 => ?_
    refine pt_val (by decide) rfl (val_assign (v := vInt i) rfl) rfl ?_
    refine pt_do (by decide) rfl (does_store_all 0 (cs := [vI (i % ps.length : Nat), .bool mi]) rfl rfl rfl (by intro x hx; simp only [List.mem_cons, List.not_mem_nil, or_false] at hx; rcases hx with rfl | rfl <;> rfl) Try.sizeOf43 rfl rfl) fun _ _ => ?_
    refine pt_regionEnd (pt_seq (pt_seq ?_))
    refine Pt.weaken (F' := [(7, vInt ps.length), (13, vInt (stillN mv i : Nat)), (14, vInt i), (15, vPtr t15), (89, .slice (some ⟨b2, o2 + qs.length * 2, none⟩) J (c2 - qs.length)), (90, vInt J), (91, vInt i)]) ⟨rfl, rfl, rfl, rfl, rfl, rfl, rfl, trivial⟩ (M' := Mem z5 [] [some (t15, blk [vI (i % ps.length : Nat), .bool mi] 43)]) (fun _ h => h) ?_
    refine pt_sw (by decide) (sw_6_24 hn hsi) (fun F' y hq => ?_) (fun ex F' y hne hq => hne hq.1)
    obtain ⟨-, hF, hy⟩ := hq
    refine Pt.weaken hF (M' := Mem z5 [] [some (t15, blk [vI (i % ps.length : Nat), .bool mi] 43)]) (fun w hw => hw ▸ hy) ?_
    refine pt_false rfl (pt_skip (pt_seq (pt_region ?_)))
    refine pt_val (by decide) rfl (val_move (v := vInt (stillN mv i : Nat)) rfl) rfl ?_
    refine pt_val (by decide) rfl (val_add_int (a := (stillN mv i : Nat)) (b := 1) _ rfl rfl rfl (by omega)) rfl ?_ (tame_int rfl rfl)
    refine pt_val (by decide) rfl (val_assign (v := vInt (stillN mv i + 1 : Nat)) rfl) rfl ?_
    refine pt_regionEnd (pt_seq (pt_region ?_))
    refine pt_val (by decide) rfl (val_fieldAddr (b := t15) (o := 0) (e := 1) rfl Try.underlying43 rfl rfl Try.sizeOf4 rfl) rfl ?_
    refine pt_val (by decide) rfl (val_load_at (v := .bool mi) 0 rfl rfl Try.isAgg4 rfl) rfl ?_
    refine Pt.imp (M' := fun w => RV z2 w) (fun w hw => hz5.trans (Mem.rv hw)) (pt_regionEnd ?_)
    refine pt_cond rfl (fun hm => ?_) (fun hm => pt_skip ?_)
    · rw [if_pos hm] at hsu
      refine pt_region (pt_val (by decide) rfl (val_assign (v := vInt (0 : Nat)) rfl) rfl (pt_regionEnd (pt_inBlock (pt_region ?_))))
      refine pt_val (by decide) rfl (val_add_int (a := (i : Int)) (b := 1) _ rfl rfl rfl (by omega)) rfl ?_ (tame_int rfl rfl)
      refine pt_val (by decide) rfl (val_move (v := vInt (i + 1 : Nat)) rfl) rfl ?_
      refine pt_regionEnd (Pt.weaken ?_ (fun _ h => h) (hloop2 (i + 1) hi (by omega)))
      exact ⟨rfl, by rw [hsu]; rfl, rfl, rfl, rfl, trivial⟩
    · rw [if_neg (by rw [hm]; decide)] at hsu
      refine pt_inBlock (pt_region ?_)
      refine pt_val (by decide) rfl (val_add_int (a := (i : Int)) (b := 1) _ rfl rfl rfl (by omega)) rfl ?_ (tame_int rfl rfl)
      refine pt_val (by decide) rfl (val_move (v := vInt (i + 1 : Nat)) rfl) rfl ?_
      refine pt_regionEnd (Pt.weaken ?_ (fun _ h => h) (hloop2 (i + 1) hi (by omega)))
      exact ⟨rfl, by rw [hsu]; rfl, rfl, rfl, rfl, trivial⟩
  have hiJ : i = J := by omega
  subst hiJ
  rw [hend2]
  refine pt_exit rfl (pt_seq (pt_region ?_))
  refine pt_val (by decide) rfl (val_move (v := vInt (ps.length : Nat)) rfl) rfl ?_
  refine pt_val (by decide) rfl (val_move (v := vInt ps.length) rfl) rfl ?_
  refine pt_val (by decide) rfl (val_eql_int (a := (ps.length : Int)) (b := (ps.length : Int)) rfl rfl) rfl ?_ (tame_int rfl rfl)
  refine pt_val (by decide) rfl (val_assign (v := .bool true) (by rw [show decide ((ps.length : Int) = (ps.length : Int)) = true from decide_eq_true rfl]; rfl)) rfl ?_
  refine pt_regionEnd ?_
  exact hyes (fun w => RV z2 w) (fun w hw => hv2.trans hw) _ _ ⟨rfl, trivial⟩
end
end Go.Bt
end
