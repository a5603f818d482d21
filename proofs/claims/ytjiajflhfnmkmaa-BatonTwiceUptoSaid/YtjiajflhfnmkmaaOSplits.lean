/- A PLAY OF THE BATON: what the row rests on. -/
import Derived.Test.YtjiajflhfnmkmaaOShape
set_option linter.unusedVariables false
set_option linter.unusedSimpArgs false
set_option linter.unusedSectionVars false
section
namespace Go.Bt
variable [Gnd]
open Go.Conc Go.ConcN Go.RowKit Go.Proofs
theorem pre_note (B : Bd) (a x k : Int) : B.notes <+: (B.note a x k).notes := List.prefix_append _ _
theorem pre_rdy (a k : Int) (o : Ins) (B : Bd) : B.notes <+: (rdyB a k o B).notes := by
  unfold rdyB; split
  · exact pre_note _ _ _ _
  · exact List.prefix_refl _
theorem pre_runL (a k : Int) : ∀ (l : List Ins) (j : Nat) (B : Bd), B.notes <+: (runL a k l j B).2.notes
  | [], j, B => List.prefix_refl _
  | o :: r, j, B => by
    unfold runL
    split
    · exact (pre_note _ _ _ _).trans (pre_runL a k _ _ _)
    split
    · exact (pre_note _ _ _ _).trans (pre_runL a k _ _ _)
    split
    · exact List.prefix_refl _
    split
    · split
      · exact pre_rdy a k o B
      · exact pre_rdy a k o B
      · exact (pre_rdy a k o B).trans (pre_runL a k _ _ _)
    split
    · exact List.prefix_refl _
    · exact pre_runL a k _ _ _
theorem pre_pick (a k : Int) (p : List Ins) (c : Ac) (B : Bd) : B.notes <+: (acPick a k p c B).2.1.notes := by
  unfold acPick
  split
  · exact List.prefix_refl _
  split
  · exact pre_runL a k _ _ _
  split
  · split
    · exact List.prefix_refl _
    · split
      · exact pre_rdy a k _ B
      · exact pre_rdy a k _ B
      · exact (pre_rdy a k _ B).trans (pre_runL a k _ _ _)
  · exact pre_runL a k _ _ _
section
variable {ps : List (List Ins)} {qs more : List Int}
theorem pre_mac (hn : 0 < ps.length) (k : Nat) : ∀ d, (macN ps qs k).bd.notes <+: (macN ps qs (k + d)).bd.notes ∧ (macN ps qs k).moves <+: (macN ps qs (k + d)).moves
  | 0 => ⟨List.prefix_refl _, List.prefix_refl _⟩
  | d + 1 => by
    obtain ⟨h1, h2⟩ := pre_mac hn k d
    rw [show k + (d + 1) = k + d + 1 from rfl]
    refine ⟨h1.trans ?_, h2.trans ?_⟩
    · rw [bd_step hn]; exact pre_pick _ _ _ _ _
    · rw [mac_step hn]; exact List.prefix_append _ _
theorem who_app {n : Nat} {k : Nat} (h : k < qs.length) : whoOf n (qs ++ more) k = whoOf n qs k := by
  unfold whoOf; rw [List.getElem?_append_left h, List.getElem?_eq_getElem h]
theorem mac_app : ∀ k, k ≤ qs.length → macN ps (qs ++ more) k = macN ps qs k
  | 0, _ => rfl
  | k + 1, h => by rw [macN, macN, mac_app k (by omega), who_app (by omega)]
theorem fin_no : finM ps qs false = macN ps qs qs.length := by
  unfold finM; rw [calmJ_no]; rfl
theorem splits_pre : (finM ps qs false).bd.notes <+: (finM ps (qs ++ more) false).bd.notes ∧ (finM ps qs false).moves <+: (finM ps (qs ++ more) false).moves := by
  rw [fin_no, fin_no]
  rcases Nat.eq_zero_or_pos ps.length with h0 | hn
  · obtain rfl : ps = [] := List.length_eq_zero_iff.1 h0
    rw [mac_nil, mac_nil]; exact ⟨List.prefix_refl _, List.prefix_refl _⟩
  · rw [← mac_app (more := more) qs.length (Nat.le_refl _), List.length_append]
    exact pre_mac hn _ _
theorem fit_app (h : Fit ps (qs ++ more)) : Fit ps qs := ⟨h.n, h.s, by have := h.q; rw [List.length_append] at this; omega⟩
/-- A stranger. -/
theorem mac_str {st : List Ins} (hn : 0 < ps.length) (hq : ∀ q ∈ qs, 0 ≤ q ∧ q < ps.length) : ∀ k, k ≤ qs.length → macN (ps ++ [st]) qs k = ⟨(macN ps qs k).acs ++ [⟨-1, false, false⟩], (macN ps qs k).bd, (macN ps qs k).moves⟩
  | 0, _ => by
    simp only [macN, mac0, List.length_append, List.length_singleton, List.replicate_succ']
  | k + 1, h => by
    have hk : k < qs.length := by omega
    have hg : qs[k]? = some qs[k] := List.getElem?_eq_getElem hk
    obtain ⟨q0, q1⟩ := hq _ (List.getElem_mem hk)
    generalize qs[k] = q at hg q0 q1
    have hw : whoOf (ps ++ [st]).length qs k = whoOf ps.length qs k := by
      unfold whoOf; rw [hg]
      simp only [List.length_append, List.length_singleton]
      rw [Int.emod_eq_of_lt q0 (by omega), Int.emod_eq_of_lt q0 q1]
    have hlt := whoOf_lt hn qs k
    obtain ⟨h1, h2⟩ := mac_len (qs := qs) hn k
    rw [macN, macN, mac_str hn hq k (by omega), hw]
    generalize whoOf ps.length qs k = a at hlt
    have hla : a < (macN ps qs k).acs.length := by rw [h1]; exact hlt
    unfold Mac.pick
    rw [List.getElem?_append_left hla, List.getElem?_eq_getElem hla]
    have hgd : (ps ++ [st]).getD a [] = ps.getD a [] := by
      rw [List.getD_eq_getElem?_getD, List.getD_eq_getElem?_getD, List.getElem?_append_left hlt]
    simp only [hgd]
    rw [List.set_append_left _ _ hla]
theorem stranger_same {st : List Ins} (hq : ∀ q ∈ qs, 0 ≤ q ∧ q < (ps.length : Int)) : (finM (ps ++ [st]) qs false).bd = (finM ps qs false).bd ∧ (finM (ps ++ [st]) qs false).moves = (finM ps qs false).moves := by
  rw [fin_no, fin_no]
  rcases Nat.eq_zero_or_pos ps.length with h0 | hn
  · obtain rfl : ps = [] := List.length_eq_zero_iff.1 h0
    cases qs with
    | nil => exact ⟨rfl, rfl⟩
    | cons a l => have := hq a (List.mem_cons_self ..); simp at this; omega
  · rw [mac_str hn hq _ (Nat.le_refl _)]; exact ⟨rfl, rfl⟩
end
end Go.Bt
end
section
namespace Go.Bt
variable [Gnd]
open Go.Conc Go.ConcN Go.RowKit Go.Proofs
open Go.Sx (Rly RV pz pzo pz_heap spec isWg Gud Co blk RowE Rd Mem CallV vInt CallI SW Sub Stb Pt run_two lin_equal_two lin_equal_int lin_equal_bool callV_of_callI callI_of_pt pt_seq pt_sw pt_true pt_false pt_cond pt_if pt_skip pt_region pt_regionEnd pt_val pt_call pt_act pt_do pt_draw pt_ret pt_block pt_inBlock pt_exit pt_loop_inv lz_val val_assign val_move val_load val_load_at val_load_all val_load_elem val_build' val_len val_not val_extract val_nilCheck val_fieldAddr val_indexAddr_slice val_slice_lo val_slice_hi val_neq_agg tame_two val_rem_int val_rem_to val_eql_int val_lss_int val_geq_int val_neq_int val_add_int val_gtr_int val_pick_true val_pick_false tame_nilCheck tame_int acts_box acts_alloc acts_buildSlice acts_append ow_append' does_store_all callsTo ev_eval res_two res_slot Fits sw_region sw_region_lex ow_val ow_nil ow_make ow_call_pure ow_guard_yes ow_guard_no ow_guard_none lw_pure lw_held lw_nil lw_call_pure lwg_pure lwg_held lwg_call_pure lwg_no mem_of_rv pick wg)
theorem eq43 (a c : Int) (b d : Bool) (w : World) : (Op.equalIn (9999 + 1) 43 (.agg #[vInt a, .bool b]) (.agg #[vInt c, .bool d])).run Try.prog w = .ok (a == c && b == d) w :=
  run_two (f0 := { name := "Actor", type := 3, offset := 0, embedded := false, tag := "", pkgPath := "", byteOffset := 0 }) (f1 := { name := "Moved", type := 4, offset := 1, embedded := false, tag := "", pkgPath := "", byteOffset := 8 }) (by kernel_rfl) (by kernel_rfl) (by kernel_rfl) (by decide) (by decide) rfl rfl Try.isAgg3 Try.isAgg4 (fun w => run_equalIn_int w _ _ _ _ a c Try.underlying3) (fun w => run_equalIn_bool w _ _ b d Try.underlying4) w
set_option maxRecDepth 100000 in
theorem lin43' (dd : Nat) (a c : Int) (b d : Bool) : (Op.equalIn (dd + 2) 43 (.agg #[vInt a, .bool b]) (.agg #[vInt c, .bool d])).Lin Try.prog :=
  lin_equal_two (P := Try.prog) (d := dd) (T := 43) (f0 := { name := "Actor", type := 3, offset := 0, embedded := false, tag := "", pkgPath := "", byteOffset := 0 }) (f1 := { name := "Moved", type := 4, offset := 1, embedded := false, tag := "", pkgPath := "", byteOffset := 8 }) (x0 := vInt a) (x1 := .bool b) (y0 := vInt c) (y1 := .bool d) Try.underlying43 rfl rfl Try.isAgg3 Try.isAgg4 (lin_equal_int (d := dd)) (lin_equal_bool (d := dd))
set_option maxRecDepth 100000 in
theorem lin43 (a c : Int) (b d : Bool) : (Op.equal 43 (.agg #[vInt a, .bool b]) (.agg #[vInt c, .bool d])).Lin Try.prog := lin_equal_of fun dd => lin43' dd a c b d
theorem qv_row {v w : World} {L : List Go.Sx.Ent} {i k : Nat} {a : Option Addr} {c : Nat} {l : List Int} {e : Go.Sx.Ent} (h : RowE (.slice a k c) 3 1 k (l.map vI) e) (hm : Mem v [] L w) (hp : pick L i = e) : QV w a l := by
  refine ⟨fun j q hj => ?_⟩
  obtain ⟨a', c', e1, _, r⟩ := h.rd hm hp
  cases e1
  obtain ⟨b, o, ha, hc⟩ := r j (vI q) (by rw [List.getElem?_map, hj]; rfl)
  exact ⟨b, o, ha, World.block_lt_of_cell? _ _ hc, hc⟩
theorem rd_pre {w : World} {a : Option Addr} {l r : List (Int × Int)} (h : Rd w a (flatB r)) (hp : l <+: r) : Rd w a (flatB l) := by
  obtain ⟨t, rfl⟩ := hp
  intro j x hj
  refine h j x ?_
  have hlt := (List.getElem?_eq_some_iff.1 hj).1
  unfold flatB at hj hlt ⊢
  rw [List.flatMap_append, List.getElem?_append_left hlt]; exact hj
noncomputable def c8 : Code := Try.f8.body.getD .skip
noncomputable def r8a : Code := match c8 with
  | .seq _ (.seq _ (.seq _ (.seq _ (.seq _ (.seq _ (.seq (.seq c _) _)))))) => c
  | _ => .skip
noncomputable def r8b : Code := match c8 with
  | .seq _ (.seq _ (.seq _ (.seq _ (.seq _ (.seq _ (.seq _ (.seq _ (.seq c _)))))))) => c
  | _ => .skip
section
variable {v : World} {pv : Value} {ps : List (List Ins)} {qs more : List Int} {Post : Value → World → Prop}
set_option maxRecDepth 100000 in
set_option maxHeartbeats 4000000 in
theorem sw_8_3 [C : Co Try.prog] {qa ma : Option Addr} {cap cm : Nat} (hq : Rd v qa (qs.map vI)) (hm : Rd v ma (more.map vI)) (l1 : qs.length ≤ 1048576) (l2 : more.length ≤ 1048576) :
    SW Try.prog 84 (cL (cR (cR c8))) [(0, pv), (1, .slice qa qs.length cap), (2, .slice ma more.length cm)] (Mem v [] []) (fun ex F' w => ex = .normal ∧ ∃ a c e, RowE (.slice a (qs.length + more.length) c) 3 1 (qs.length + more.length) ((qs ++ more).map vI) e ∧ Sub [(7, .slice a (qs.length + more.length) c), (0, pv), (1, .slice qa qs.length cap)] F' ∧ Mem v [] [e] w) := by
  obtain ⟨ti, hi, hz, hsz, hby⟩ : ∃ i, Try.prog.info? 3 = some i ∧ i.zero = some (vInt 0) ∧ i.size = 1 ∧ i.bytes = 8 := ⟨_, rfl, rfl, rfl, rfl⟩
  show SW Try.prog 84 (Code.region 3 _ false) _ _ _
  refine sw_region ?_
  refine ow_make (acts_buildSlice (parts := []) (vs := []) (cs := []) Try.underlying23 Try.sizeOf3 Try.zeroValue3 rfl rfl (by kernel_rfl)) rfl (fun bb hbb => ?_)
  refine ow_val (val_move (v := .slice qa qs.length cap) rfl) rfl ?_
  refine ow_append' (k := 0 + qs.length) (acts_append (size := 1) (bytes := 8) (ys := qs.map vI) 0 rfl rfl rfl (RowE.full (b := bb) (n := 0) (T := 3) (size := 1) (xs := []) rfl (by decide)) rfl Try.underlying23 hi hz hsz hby rfl (by decide) (fun w hw => hq.rv (Mem.rv hw)) (by rw [List.length_map, Nat.mul_one]) (by intro u hu; obtain ⟨q, _, rfl⟩ := List.mem_map.1 hu; rfl) (by omega) (by omega)) rfl (fun a5 c5 e5 hr5 => ?_)
  rw [Nat.zero_add, List.nil_append] at hr5
  rw [Nat.zero_add]
  refine ow_val (val_move (v := .slice ma more.length cm) rfl) rfl ?_
  refine ow_append' (k := qs.length + more.length) (acts_append (size := 1) (bytes := 8) (ys := more.map vI) 0 rfl rfl rfl hr5 rfl Try.underlying23 hi hz hsz hby rfl (by decide) (fun w hw => hm.rv (Mem.rv hw)) (by rw [List.length_map, Nat.mul_one]) (by intro u hu; obtain ⟨q, _, rfl⟩ := List.mem_map.1 hu; rfl) (by omega) (by omega)) rfl (fun a6 c6 e6 hr6 => ?_)
  rw [← List.map_append] at hr6
  refine ow_val (val_assign (v := .slice a6 (qs.length + more.length) c6) rfl) rfl ?_
  exact ow_nil fun w hw => ⟨rfl, a6, c6, e6, hr6, ⟨rfl, rfl, rfl, trivial⟩, hw⟩
set_option maxRecDepth 100000 in
set_option maxHeartbeats 4000000 in
theorem sw_8_8 [C : Co Try.prog] {sb sb2 M1 M2 N1 N2 c1 c2 cm1 cm2 : Nat} {a1 a2 m1 m2 : Option Addr} (h1 : v.cell? ⟨sb, 1, none⟩ = some (.slice a1 N1 c1)) (h2 : v.cell? ⟨sb2, 1, none⟩ = some (.slice a2 N2 c2)) (hM : M1 ≤ M2) (hN : N1 ≤ N2) :
    SW Try.prog 84 r8a [(8, vPtr sb), (9, .slice m1 M1 cm1), (10, vPtr sb2), (11, .slice m2 M2 cm2)] (Mem v [] []) (fun ex F' w => ex = .normal ∧ Sub [(53, .bool false), (8, vPtr sb), (9, .slice m1 M1 cm1), (10, vPtr sb2), (11, .slice m2 M2 cm2)] F' ∧ RV v w) := by
  show SW Try.prog 84 (Code.region 8 _ true) _ _ _
  refine sw_region_lex (Mem v [] []) [] [(0, 0), (1, 0), (2, 0), (3, 0), (4, 0), (5, 0), (6, 0), (7, 0), (8, 0), (9, 1), (10, 0), (11, 0), (12, 0), (13, 0), (14, 1), (15, 0), (16, 0), (17, 0)] (by kernel_rfl) (by kernel_rfl) (fun c F w h => by cases h.1) (fun _ h => h) (fun w h => h.drawn _) ?_
  refine lw_pure rfl (val_move (v := .slice m1 M1 cm1) rfl) rfl ?_
  refine lw_pure rfl (val_len (len := M1) rfl Try.underlying28) rfl ?_
  refine lw_pure rfl (val_move (v := .slice m2 M2 cm2) rfl) rfl ?_
  refine lw_pure rfl (val_len (len := M2) rfl Try.underlying28) rfl ?_
  refine lw_pure rfl (val_gtr_int (a := (M1 : Int)) (b := (M2 : Int)) rfl rfl) rfl ?_ (hT := tame_int rfl rfl)
  rw [decide_eq_false (show ¬ (M1 : Int) > (M2 : Int) by omega)]
  refine lw_pure rfl (val_move (v := .bool false) rfl) rfl ?_
  refine lwg_pure rfl (wg rfl rfl) (val_move (v := vPtr sb) rfl) rfl ?_
  refine lwg_pure rfl (wg rfl rfl) (val_nilCheck (a := ⟨sb, 0, none⟩) rfl) rfl ?_ (hT := tame_nilCheck rfl)
  refine lwg_pure rfl (wg rfl rfl) (val_fieldAddr (b := sb) (o := 0) (e := 1) rfl Try.underlying40 rfl rfl Try.sizeOf32 rfl) rfl ?_
  refine lwg_held rfl (wg rfl rfl) (val_load rfl Try.isAgg32 (v := .slice a1 N1 c1) (fun w h => cell_rv' h1 (Mem.rv h))) rfl ?_
  refine lwg_pure rfl (wg rfl rfl) (val_len (len := N1) rfl Try.underlying32) rfl ?_
  refine lwg_pure rfl (wg rfl rfl) (val_move (v := vPtr sb2) rfl) rfl ?_
  refine lwg_pure rfl (wg rfl rfl) (val_nilCheck (a := ⟨sb2, 0, none⟩) rfl) rfl ?_ (hT := tame_nilCheck rfl)
  refine lwg_pure rfl (wg rfl rfl) (val_fieldAddr (b := sb2) (o := 0) (e := 1) rfl Try.underlying40 rfl rfl Try.sizeOf32 rfl) rfl ?_
  refine lwg_held rfl (wg rfl rfl) (val_load rfl Try.isAgg32 (v := .slice a2 N2 c2) (fun w h => cell_rv' h2 (Mem.rv h))) rfl ?_
  refine lwg_pure rfl (wg rfl rfl) (val_len (len := N2) rfl Try.underlying32) rfl ?_
  refine lwg_pure rfl (wg rfl rfl) (val_gtr_int (a := (N1 : Int)) (b := (N2 : Int)) rfl rfl) rfl ?_ (hT := tame_int rfl rfl)
  rw [decide_eq_false (show ¬ (N1 : Int) > (N2 : Int) by omega)]
  refine lw_pure rfl (val_pick_false (v := .bool false) rfl rfl) rfl ?_
  exact lw_nil fun w hw => ⟨rfl, ⟨rfl, rfl, rfl, rfl, rfl, trivial⟩, Mem.rv hw⟩
set_option maxRecDepth 100000 in
set_option maxHeartbeats 4000000 in
theorem sw_8_16 [C : Co Try.prog] {sb sb2 N2 c1 c2 : Nat} {a1 a2 : Option Addr} {l : List (Int × Int)} (h1 : v.cell? ⟨sb, 1, none⟩ = some (.slice a1 l.length c1)) (h2 : v.cell? ⟨sb2, 1, none⟩ = some (.slice a2 N2 c2)) (hN : l.length ≤ c2) (hl : l.length ≤ 4611686018427387904) (r1 : Rd v a1 (flatB l)) (r2 : Rd v a2 (flatB l)) :
    SW Try.prog 84 r8b [(8, vPtr sb), (10, vPtr sb2)] (Mem v [] []) (fun ex F' w => ex = .normal ∧ Sub [(6, .bool true)] F' ∧ RV v w) := by
  show SW Try.prog 84 (Code.region 16 _ true) _ _ _
  refine sw_region_lex (Mem v [] []) [] [(0, 0), (1, 0), (2, 0), (3, 1), (4, 0), (5, 0), (6, 0), (7, 1), (8, 0), (9, 0), (10, 0), (11, 1), (12, 0), (13, 0), (14, 2), (15, 0)] (by kernel_rfl) (by kernel_rfl) (fun c F w h => by cases h.1) (fun _ h => h) (fun w h => h.drawn _) ?_
  refine lw_pure rfl (val_move (v := vPtr sb) rfl) rfl ?_
  refine lw_pure rfl (val_nilCheck (a := ⟨sb, 0, none⟩) rfl) rfl ?_ (hT := tame_nilCheck rfl)
  refine lw_pure rfl (val_fieldAddr (b := sb) (o := 0) (e := 1) rfl Try.underlying40 rfl rfl Try.sizeOf32 rfl) rfl ?_
  refine lw_held rfl (val_load rfl Try.isAgg32 (v := .slice a1 l.length c1) (fun w h => cell_rv' h1 (Mem.rv h))) rfl ?_
  refine lw_pure rfl (val_move (v := vPtr sb2) rfl) rfl ?_
  refine lw_pure rfl (val_nilCheck (a := ⟨sb2, 0, none⟩) rfl) rfl ?_ (hT := tame_nilCheck rfl)
  refine lw_pure rfl (val_fieldAddr (b := sb2) (o := 0) (e := 1) rfl Try.underlying40 rfl rfl Try.sizeOf32 rfl) rfl ?_
  refine lw_held rfl (val_load rfl Try.isAgg32 (v := .slice a2 N2 c2) (fun w h => cell_rv' h2 (Mem.rv h))) rfl ?_
  refine lw_pure rfl (val_move (v := vPtr sb) rfl) rfl ?_
  refine lw_pure rfl (val_nilCheck (a := ⟨sb, 0, none⟩) rfl) rfl ?_ (hT := tame_nilCheck rfl)
  refine lw_pure rfl (val_fieldAddr (b := sb) (o := 0) (e := 1) rfl Try.underlying40 rfl rfl Try.sizeOf32 rfl) rfl ?_
  refine lw_held rfl (val_load rfl Try.isAgg32 (v := .slice a1 l.length c1) (fun w h => cell_rv' h1 (Mem.rv h))) rfl ?_
  refine lw_pure rfl (val_len (len := l.length) rfl Try.underlying32) rfl ?_
  refine lw_pure rfl (val_slice_hi (m := 2) l.length rfl rfl Try.underlying32 Try.sizeOf56 rfl hN) rfl ?_
  refine lw_call_pure (v := .bool true) rfl (callsTo Try.func18 rfl (by kernel_rfl) rfl) rfl (fun w hm => (notes_v (l1 := l) (l2 := l) (r1.rv (Mem.rv hm)) (r2.rv (Mem.rv hm)) hl).mono fun e u hu => ⟨_, hu.1, by rw [decide_eq_true rfl], mem_of_rv hu.2⟩) ?_
  refine lw_pure rfl (val_assign (v := .bool true) rfl) rfl ?_
  exact lw_nil fun w hw => ⟨rfl, ⟨rfl, trivial⟩, Mem.rv hw⟩
set_option maxRecDepth 100000 in
set_option maxHeartbeats 8000000 in
theorem splits_p {S : List Frame} (hy : ∀ (F : Go.Sx.Fr) (t : List Item), Sub [(6, .bool true)] F → Pt (fun _ : Unit => coLaw Try.prog Post) 84 (Go.Sx.fr0 8) S () (.code .ret :: t) F (fun w => RV v w)) {qa ma : Option Addr} {cap cm : Nat} (hG : PrgV v pv ps) (hsum : (ps.map List.length).sum ≤ 4611686018427387904) (hlen : ps.length ≤ 4611686018427387904) (hQ : QV v qa qs) (hM : QV v ma more) (l1 : qs.length ≤ 1048576) (l2 : more.length ≤ 1048576) :
    Pt (fun _ : Unit => coLaw Try.prog Post) 84 (Go.Sx.fr0 8) S () [.code c8] (Go.Sx.slots 0 [pv, .slice qa qs.length cap, .slice ma more.length cm]) (· = v) := by
  letI C : Co Try.prog := coLaw Try.prog Post
  have hyes : ∀ (M : World → Prop) (hM : ∀ w, M w → RV v w) (F : Go.Sx.Fr) (t : List Item), Sub [(6, .bool true)] F → Pt (fun _ : Unit => C) 84 (Go.Sx.fr0 8) S () (.code .ret :: t) F M := fun M hM F t hF => Pt.imp hM (hy F t hF)
  have rq : ∀ {w : World} {a : Option Addr} {l : List Int}, QV w a l → Rd w a (l.map vI) := fun h j x hx => by
    rw [List.getElem?_map] at hx
    obtain ⟨q, hq, rfl⟩ := Option.map_eq_some_iff.1 hx
    obtain ⟨b, o, e1, _, e3⟩ := h.cells j q hq
    exact ⟨b, o, e1, e3⟩
  refine Pt.imp (M' := fun w => RV v w) (fun w hw => hw ▸ RV.refl _) (pt_seq (pt_region ?_))
  refine pt_val (by decide) rfl (val_assign (v := .bool false) rfl) rfl ?_
  refine pt_regionEnd (pt_seq (pt_seq (pt_region ?_)))
  refine pt_call (T := fun w r _ u => r = .returned (.bool true) ∧ RV w u) (by decide) rfl (callsTo (xs := []) (vs := []) Try.func12 rfl (by decide) rfl) (by infer_instance) (fun w hw => callI_of_v (awake_v (Post := Post))) (fun t' ht => by cases ht; rfl) (fun w r x' hw => ?_) (fun w ch x' hw a w' hf hl => ?_)
  rotate_left
  · obtain ⟨z, ⟨hz, _⟩, _⟩ := hl; cases hz
  refine Pt.world fun z hz => ?_
  obtain ⟨hr, hz⟩ := hz
  obtain rfl : r = .bool true := by cases hr; rfl
  replace hz := RV.trans hw hz
  clear hr hw
  have hGz := hG.grow hz
  refine Pt.imp (M' := Mem z [] []) (fun u hu => hu ▸ Mem.refl z) ?_
  refine pt_val (by decide) rfl (val_not rfl) rfl (pt_regionEnd (pt_false rfl (pt_skip ?_)))
  refine pt_seq ?_
  refine Pt.weaken (F' := [(0, pv), (1, .slice qa qs.length cap), (2, .slice ma more.length cm)]) ⟨rfl, rfl, rfl, trivial⟩ (fun _ h => h) ?_
  refine pt_sw (by decide) (sw_8_3 (rq (hQ.grow hz)) (rq (hM.grow hz)) l1 l2) (fun F' y hq => ?_) (fun ex F' y hne hq => hne hq.1)
  obtain ⟨-, aa, ca, ea, hra, hF, hy2⟩ := hq
  have hQa : QV y aa (qs ++ more) := by
    rw [← List.length_append] at hra
    exact qv_row hra hy2 (i := 0) rfl
  rw [← List.length_append] at hF
  replace hz := hz.trans (Mem.rv hy2)
  have hGz := hG.grow hz
  refine Pt.weaken hF (M' := fun w => RV y w) (fun w hw => hw ▸ RV.refl y) ?_
  refine pt_seq (pt_seq (pt_region ?_))
  refine pt_val (by decide) rfl (val_move (v := pv) rfl) rfl ?_
  refine pt_val (by decide) rfl (val_move (v := .slice aa (qs ++ more).length ca) rfl) rfl ?_
  refine pt_call (T := fun w r _ u => r = .returned (.bool (isFit ps (qs ++ more))) ∧ RV w u) (by decide) rfl (callsTo (xs := [.tmp 20, .tmp 21]) (vs := [pv, .slice aa (qs ++ more).length ca]) Try.func13 rfl (by decide) rfl) (by infer_instance) (fun w hw => callI_of_v (fit_v (hGz.grow hw) hsum hlen)) (fun t' ht => by cases ht; rfl) (fun w r x' hw => ?_) (fun w ch x' hw a w' hf hl => ?_)
  rotate_left
  · obtain ⟨z, ⟨hz, _⟩, _⟩ := hl; cases hz
  refine Pt.world fun z1 hz1 => ?_
  obtain ⟨hr, hz1⟩ := hz1
  obtain rfl : r = .bool (isFit ps (qs ++ more)) := by cases hr; rfl
  have hv1 : RV y z1 := RV.trans hw hz1
  clear hr hw hz1
  refine Pt.imp (M' := fun w => RV z1 w) (fun u hu => hu ▸ RV.refl z1) ?_
  refine pt_val (by decide) rfl (val_not rfl) rfl (pt_regionEnd (pt_cond rfl (fun hs => ?_) (fun hs => pt_skip ?_)))
  · refine pt_seq (pt_region (pt_val (by decide) rfl (val_assign (v := .bool true) rfl) rfl (pt_regionEnd ?_)))
    exact hyes _ (fun w hw => hz.trans (hv1.trans hw)) _ _ ⟨rfl, trivial⟩
  have hFit : Fit ps (qs ++ more) := fit_iff.1 (by simpa using hs)
  have hFq := fit_app hFit
  obtain ⟨hl1, hl2⟩ := fin_small (calm := false) hFq
  have hzz := hz.trans hv1
  refine pt_seq (pt_region ?_)
  refine pt_val (by decide) rfl (val_move (v := pv) rfl) rfl ?_
  refine pt_val (by decide) rfl (val_move (v := .slice qa qs.length cap) rfl) rfl ?_
  refine pt_call (T := fun w r _ u => ∃ sb mv, r = .returned (.tuple #[vPtr sb, mv]) ∧ PlayU pv w sb mv (finM ps qs false) u) (by decide) rfl (callsTo (xs := [.tmp 25, .tmp 26, .const (.bool false)]) (vs := [pv, .slice qa qs.length cap, .bool false]) Try.func15 rfl (by decide) rfl) (by infer_instance) (fun w hw => callI_of_v (plU_v (Post := Post) hFq ((fun hw => hG.grow (hzz.trans hw)) hw) ((fun hw => hQ.grow (hzz.trans hw)) hw))) (fun t' ht => by cases ht; rfl) (fun w r x' hw => ?_) (fun w ch x' hw a w' hf hl => ?_)
  rotate_left
  · obtain ⟨z, ⟨_, _, hz, _⟩, _⟩ := hl; cases hz
  refine Pt.world fun z2 hz2 => ?_
  obtain ⟨sb, mv, hr, hU⟩ := hz2
  obtain rfl : r = .tuple #[vPtr sb, mv] := by cases hr; rfl
  obtain ⟨a1, c1, a2, c2, a3, c3', hst, r1, r3, rfl, r2, hv2, -, hk2⟩ := hU.facts2
  replace hv2 := hw.trans hv2
  clear hr hw hU
  refine Pt.imp (M' := fun w => RV z2 w) (fun u hu => hu ▸ RV.refl z2) ?_
  refine pt_val (by decide) rfl (val_move (v := .tuple #[vPtr sb, .slice a2 (finM ps qs false).moves.length c2]) rfl) rfl ?_
  refine pt_val (by decide) rfl (val_extract (v := vPtr sb) rfl rfl) rfl ?_
  refine pt_val (by decide) rfl (val_extract (v := .slice a2 (finM ps qs false).moves.length c2) rfl rfl) rfl ?_
  refine pt_val (by decide) rfl (val_assign (v := vPtr sb) rfl) rfl ?_
  refine pt_val (by decide) rfl (val_assign (v := .slice a2 (finM ps qs false).moves.length c2) rfl) rfl ?_
  refine pt_regionEnd ?_
  refine pt_seq (pt_region ?_)
  refine pt_val (by decide) rfl (val_move (v := pv) rfl) rfl ?_
  refine pt_val (by decide) rfl (val_move (v := .slice aa (qs ++ more).length ca) rfl) rfl ?_
  refine pt_call (T := fun w r _ u => ∃ sb mv, r = .returned (.tuple #[vPtr sb, mv]) ∧ PlayU pv w sb mv (finM ps (qs ++ more) false) u) (by decide) rfl (callsTo (xs := [.tmp 31, .tmp 32, .const (.bool false)]) (vs := [pv, .slice aa (qs ++ more).length ca, .bool false]) Try.func15 rfl (by decide) rfl) (by infer_instance) (fun w hw => callI_of_v (plU_v (Post := Post) hFit ((fun hw => hG.grow (hzz.trans (hv2.trans hw))) hw) ((fun hw => hQa.grow (hv1.trans (hv2.trans hw))) hw))) (fun t' ht => by cases ht; rfl) (fun w r x' hw => ?_) (fun w ch x' hw a w' hf hl => ?_)
  rotate_left
  · obtain ⟨z, ⟨_, _, hz, _⟩, _⟩ := hl; cases hz
  refine Pt.world fun z3 hz2 => ?_
  obtain ⟨sb2, mv, hr, hU⟩ := hz2
  obtain rfl : r = .tuple #[vPtr sb2, mv] := by cases hr; rfl
  obtain ⟨ak1, ck1, ak2, ck2, ak3, ck3, hst2, rk1, rk3, rfl, rk2, hv3, hk1', hk2'⟩ := hU.facts2
  replace hv3 := hw.trans hv3
  clear hr hw hU
  refine Pt.imp (M' := fun w => RV z3 w) (fun u hu => hu ▸ RV.refl z3) ?_
  refine pt_val (by decide) rfl (val_move (v := .tuple #[vPtr sb2, .slice ak2 (finM ps (qs ++ more) false).moves.length ck2]) rfl) rfl ?_
  refine pt_val (by decide) rfl (val_extract (v := vPtr sb2) rfl rfl) rfl ?_
  refine pt_val (by decide) rfl (val_extract (v := .slice ak2 (finM ps (qs ++ more) false).moves.length ck2) rfl rfl) rfl ?_
  refine pt_val (by decide) rfl (val_assign (v := vPtr sb2) rfl) rfl ?_
  refine pt_val (by decide) rfl (val_assign (v := .slice ak2 (finM ps (qs ++ more) false).moves.length ck2) rfl) rfl ?_
  refine pt_regionEnd ?_
  obtain ⟨hpn, hpm⟩ := splits_pre (ps := ps) (qs := qs) (more := more)
  have h1 : z3.cell? ⟨sb, 1, none⟩ = some (.slice a1 (finM ps qs false).bd.notes.length c1) := cell_rv' (by rw [Go.Sx.cell_of_blk hst]; rfl) hv3
  have h2 : z3.cell? ⟨sb2, 1, none⟩ = some (.slice ak1 (finM ps (qs ++ more) false).bd.notes.length ck1) := by rw [Go.Sx.cell_of_blk hst2]; rfl
  have hall : RV v z3 := hzz.trans (hv2.trans hv3)
  clear hst hst2
  generalize finM ps qs false = mA at *
  generalize finM ps (qs ++ more) false = mB at *
  have hlm := hpm.length_le
  have hln := hpn.length_le
  have hsame : ∀ j, j < mA.moves.length → mB.moves.getD j default = mA.moves.getD j default := fun j hj => by
    obtain ⟨t, ht⟩ := hpm
    rw [← ht, List.getD_eq_getElem?_getD, List.getD_eq_getElem?_getD, List.getElem?_append_left hj]
  have hlmB : mA.moves.length ≤ 4611686018427387904 := by assumption
  refine pt_seq (pt_seq (Pt.world fun z4 hz4 => ?_))
  refine Pt.weaken (F' := [(8, vPtr sb), (9, .slice a2 mA.moves.length c2), (10, vPtr sb2), (11, .slice ak2 mB.moves.length ck2)]) ⟨rfl, rfl, rfl, rfl, trivial⟩ (M' := Mem z4 [] []) (fun w hw => hw ▸ Mem.refl z4) ?_
  refine pt_sw (by decide) (sw_8_8 (cell_rv' h1 hz4) (cell_rv' h2 hz4) hlm hln) (fun F' y hq => ?_) (fun ex F' y hne hq => hne hq.1)
  obtain ⟨-, hF, hy4⟩ := hq
  refine Pt.weaken hF (M' := fun w => RV z3 w) (fun w hw => hw ▸ hz4.trans hy4) (pt_false rfl (pt_skip ?_))
  refine pt_seq (pt_seq (pt_region ?_))
  refine pt_val (by decide) rfl (val_move (v := .slice a2 mA.moves.length c2) rfl) rfl ?_
  refine pt_val (by decide) rfl (val_len (len := mA.moves.length) rfl Try.underlying28) rfl ?_
  refine pt_val (by decide) rfl (val_move (v := vInt (0 : Nat)) rfl) rfl ?_
  refine pt_regionEnd (pt_block ?_)
  refine pt_loop_inv (fun j : Nat => j ≤ mA.moves.length) (fun j => [(8, vPtr sb), (9, .slice a2 mA.moves.length c2), (10, vPtr sb2), (11, .slice ak2 mB.moves.length ck2), (55, vInt mA.moves.length), (56, vInt j)]) (fun _ => ()) (fun _ z => RV z3 z) (fun j => mA.moves.length - j) 0 (Nat.zero_le _) ⟨rfl, rfl, rfl, rfl, rfl, rfl, trivial⟩ rfl (fun _ h => h) ?_
  rintro j hle hloop
  refine pt_seq (pt_region ?_)
  refine pt_val (by decide) rfl (val_lss_int (a := (j : Int)) (b := (mA.moves.length : Int)) rfl rfl) rfl ?_ (tame_int rfl rfl)
  refine pt_regionEnd (pt_seq (pt_if rfl (fun hlt => ?_) (fun hge => ?_)))
  · have hj : j < mA.moves.length := by omega
    have hj2 : j < mB.moves.length := by omega
    have hsm : mB.moves.getD j default = mA.moves.getD j default := hsame j hj
    obtain ⟨bm, om, rfl, _⟩ := r2 (j * 2) _ (flatM_get (l := mA.moves) (y := mA.moves[j]) (List.getElem?_eq_getElem hj)).1
    obtain ⟨bk, ok, rfl, _⟩ := rk2 (j * 2) _ (flatM_get (l := mB.moves) (y := mB.moves[j]) (List.getElem?_eq_getElem hj2)).1
    refine pt_skip (pt_seq (pt_block (pt_seq (pt_region ?_))))
    refine pt_val (by decide) rfl (val_move (v := vInt j) rfl) rfl ?_
    refine pt_val (by decide) rfl (val_assign (v := vInt j) rfl) rfl ?_
    refine pt_regionEnd (pt_seq ?_)
    refine pt_draw (S := fun u => RV z3 u) 8 [0, 1, 2, 3, 4, 5, 6, 7] [] (by kernel_rfl) (by decide) (by kernel_rfl) (by kernel_rfl) (by kernel_rfl) (fun t => (Go.Sx.go_forced (L := 8) (by kernel_rfl)).trans (congrArg (8 :: ·) Go.Sx.go_end)) (by kernel_rfl) (fun _ h => h) ?_
    refine lz_val rfl (val_move (v := .slice (some ⟨bm, om, none⟩) mA.moves.length c2) rfl) rfl ?_
    refine lz_val rfl (val_move (v := vInt j) rfl) rfl ?_
    refine lz_val rfl (val_indexAddr_slice (m := 2) j (om + j * 2) rfl rfl Try.underlying28 Try.sizeOf43 rfl hj rfl) rfl ?_
    refine lz_val rfl (val_load_elem (cells := fun y : Int × Bool => [vI y.1, .bool y.2]) (l := mA.moves) (o := om) (i := j) rfl Try.isAgg43 Try.sizeOf43 (fun _ _ => rfl) hj rfl (fun w hw => r2.rv (hv3.trans hw))) rfl ?_
    refine lz_val rfl (val_move (v := .slice (some ⟨bk, ok, none⟩) mB.moves.length ck2) rfl) rfl ?_
    refine lz_val rfl (val_move (v := vInt j) rfl) rfl ?_
    refine lz_val rfl (val_indexAddr_slice (m := 2) j (ok + j * 2) rfl rfl Try.underlying28 Try.sizeOf43 rfl hj2 rfl) rfl ?_
    refine lz_val rfl (val_load_elem (cells := fun y : Int × Bool => [vI y.1, .bool y.2]) (l := mB.moves) (o := ok) (i := j) rfl Try.isAgg43 Try.sizeOf43 (fun _ _ => rfl) hj2 rfl (fun w hw => rk2.rv hw)) rfl ?_
    show Pt _ _ _ _ _ _ _ _
    rw [hsm]
    generalize mA.moves.getD j default = x
    refine pt_val (by decide) rfl (val_neq_agg (xs := #[vInt x.1, .bool x.2]) (ys := #[vInt x.1, .bool x.2]) rfl rfl (by kernel_rfl) (fun w => eq43 x.1 x.1 x.2 x.2 w)) rfl ?_ (tame_two (xs := #[vInt x.1, .bool x.2]) (ys := #[vInt x.1, .bool x.2]) rfl rfl (by kernel_rfl) (lin43 x.1 x.1 x.2 x.2) (.inr rfl))
    refine pt_regionEnd (pt_cond rfl (fun hb => ?_) (fun hb => pt_skip (pt_inBlock (pt_region ?_))))
    · simp at hb
    refine pt_val (by decide) rfl (val_add_int (a := (j : Int)) (b := 1) _ rfl rfl rfl (by omega)) rfl ?_ (tame_int rfl rfl)
    refine pt_val (by decide) rfl (val_move (v := vInt (j + 1 : Nat)) rfl) rfl ?_
    refine pt_regionEnd (Pt.weaken ?_ (fun _ h => h) (hloop (j + 1) hj (by omega)))
    exact ⟨rfl, rfl, rfl, rfl, rfl, rfl, trivial⟩
  · refine pt_exit rfl (pt_seq (Pt.world fun z5 hz5 => ?_))
    refine Pt.weaken (F' := [(8, vPtr sb), (10, vPtr sb2)]) ⟨rfl, rfl, trivial⟩ (M' := Mem z5 [] []) (fun w hw => hw ▸ Mem.refl z5) ?_
    refine pt_sw (by decide) (sw_8_16 (l := mA.bd.notes) (cell_rv' h1 hz5) (cell_rv' h2 hz5) (Nat.le_trans hln hk1') hl1 (r1.rv (hv3.trans hz5)) ((rd_pre rk1 hpn).rv hz5)) (fun F' q hq => ?_) (fun ex F' q hne hq => hne hq.1)
    obtain ⟨-, hF', hq⟩ := hq
    exact hyes (fun w => w = q) (fun w hw => hw ▸ hall.trans (hz5.trans hq)) _ _ hF'
end
end Go.Bt
end
