/- A PLAY OF THE BATON: what the row rests on. -/
import Derived.Test.YtjiajflhfnmkmaaPs
set_option linter.unusedVariables false
set_option linter.unusedSimpArgs false
set_option linter.unusedSectionVars false
section
namespace Go.Bt
variable [Gnd]
open Go.Conc Go.ConcN Go.RowKit Go.Proofs
structure AlN (n : Nat) (qs : List Int) (K : Int) (B : Bd) : Prop where
  len : B.pks.length = B.notes.length
  ord : B.pks.Pairwise (· ≤ ·)
  each : ∀ z ∈ B.notes.zip B.pks, 0 ≤ z.2 ∧ z.2 ≤ K ∧ z.1.1 = (whoOf n qs z.2.toNat : Int)
theorem AlN.note {n : Nat} {qs : List Int} {K : Int} {B : Bd} (h : AlN n qs K B) (h0 : 0 ≤ K) {a : Int} (ha : a = (whoOf n qs K.toNat : Int)) (x : Int) : AlN n qs K (B.note a x K) := by
  refine ⟨by simp [Bd.note, h.len], ?_, ?_⟩
  · show (B.pks ++ [K]).Pairwise _
    rw [List.pairwise_append]
    refine ⟨h.ord, List.pairwise_singleton _ _, ?_⟩
    intro u hu y hy
    obtain rfl := List.mem_singleton.1 hy
    obtain ⟨i, hi, rfl⟩ := List.mem_iff_getElem.1 hu
    have hz : (B.notes[i]'(by rw [← h.len]; exact hi), B.pks[i]) ∈ B.notes.zip B.pks := by
      rw [List.mem_iff_getElem]
      exact ⟨i, by rw [List.length_zip]; have := h.len; omega, by rw [List.getElem_zip]⟩
    exact (h.each _ hz).2.1
  · intro z hz
    have e : (B.notes ++ [(a, x)]).zip (B.pks ++ [K]) = B.notes.zip B.pks ++ [(a, x)].zip [K] := List.zip_append h.len.symm
    have hz' : z ∈ (B.notes ++ [(a, x)]).zip (B.pks ++ [K]) := hz
    rw [e] at hz'
    rcases List.mem_append.1 hz' with hz' | hz'
    · exact h.each z hz'
    · simp only [List.zip_cons_cons, List.zip_nil_right, List.mem_singleton] at hz'
      subst hz'
      exact ⟨h0, Int.le_refl _, ha⟩
theorem AlN.rdy {n : Nat} {qs : List Int} {K : Int} {B : Bd} (h : AlN n qs K B) (h0 : 0 ≤ K) {a : Int} (ha : a = (whoOf n qs K.toNat : Int)) (o : Ins) : AlN n qs K (rdyB a K o B) := by
  unfold rdyB; split
  · exact h.note h0 ha _
  · exact h
theorem AlN.runL {n : Nat} {qs : List Int} {K : Int} (h0 : 0 ≤ K) {a : Int} (ha : a = (whoOf n qs K.toNat : Int)) : ∀ (l : List Ins) (j : Nat) {B : Bd}, AlN n qs K B → AlN n qs K (Go.Bt.runL a K l j B).2
  | [], _, _, h => h
  | o :: r, j, B, h => by
    unfold Go.Bt.runL
    split
    · exact AlN.runL h0 ha r _ (h.note h0 ha _)
    split
    · exact AlN.runL h0 ha r _ (h.note h0 ha _)
    split
    · exact h
    split
    · split
      · exact h.rdy h0 ha _
      · exact h.rdy h0 ha _
      · exact AlN.runL h0 ha r _ (h.rdy h0 ha _)
    split
    · exact h
    · exact AlN.runL h0 ha r _ h
theorem AlN.pick {n : Nat} {qs : List Int} {K : Int} (h0 : 0 ≤ K) {a : Int} (ha : a = (whoOf n qs K.toNat : Int)) {p : List Ins} {c : Ac} {B : Bd} (h : AlN n qs K B) : AlN n qs K (acPick a K p c B).2.1 := by
  unfold acPick
  split
  · exact h
  split
  · exact AlN.runL h0 ha _ _ h
  split
  · split
    · exact h
    · split
      · exact h.rdy h0 ha _
      · exact h.rdy h0 ha _
      · exact AlN.runL h0 ha _ _ (h.rdy h0 ha _)
  · exact AlN.runL h0 ha _ _ h
section
variable {ps : List (List Ins)} {qs : List Int}
theorem mac_al (hn : 0 < ps.length) : ∀ k : Nat, AlN ps.length qs ((k : Int) - 1) (macN ps qs k).bd
  | 0 => ⟨rfl, List.Pairwise.nil, fun z hz => by simp [macN, mac0] at hz⟩
  | k + 1 => by
    have ih := mac_al hn k
    rw [bd_step hn k]
    have e : (((k + 1 : Nat) : Int) - 1) = (k : Int) := by omega
    rw [e]
    exact AlN.pick (by omega) (by simp) ⟨ih.len, ih.ord, fun z hz => ⟨(ih.each z hz).1, by have := (ih.each z hz).2.1; omega, (ih.each z hz).2.2⟩⟩
def lastOf (l : List Int) : Nat → Int
  | 0 => 0
  | j + 1 => l.getD j 0
/-- What BatonAlone asks of each note. -/
theorem alone_at {calm : Bool} {j : Nat} (hj : j < (finM ps qs calm).bd.notes.length) : ∃ (k : Nat) (x : Int) (b : Bool), (finM ps qs calm).bd.pks[j]? = some (k : Int) ∧ lastOf (finM ps qs calm).bd.pks (j + 1) = (k : Int) ∧ lastOf (finM ps qs calm).bd.pks j ≤ (k : Int) ∧ k < (finM ps qs calm).moves.length ∧ (finM ps qs calm).bd.notes[j]? = some (x, ((finM ps qs calm).bd.notes.getD j default).2) ∧ (finM ps qs calm).moves[k]? = some (x, b) := by
  rcases Nat.eq_zero_or_pos ps.length with h0 | hn
  · obtain rfl : ps = [] := List.length_eq_zero_iff.1 h0
    unfold finM at hj; rw [mac_nil] at hj; exact absurd hj (Nat.not_lt_zero _)
  · unfold finM at hj ⊢
    generalize qs.length + calmJ ps qs calm = K at hj ⊢
    have h := mac_al (qs := qs) hn K
    have hml := (mac_len (qs := qs) hn K).2
    have hmv := movs_mac (qs := qs) hn K
    generalize macN ps qs K = m at *
    have hj' : j < m.bd.pks.length := by rw [h.len]; exact hj
    have hz : (m.bd.notes[j], m.bd.pks[j]) ∈ m.bd.notes.zip m.bd.pks := by
      rw [List.mem_iff_getElem]
      exact ⟨j, by rw [List.length_zip]; omega, by rw [List.getElem_zip]⟩
    obtain ⟨e1, e2, e3⟩ := h.each _ hz
    have hk : ((m.bd.pks[j]).toNat : Int) = m.bd.pks[j] := Int.toNat_of_nonneg e1
    have hlt : (m.bd.pks[j]).toNat < m.moves.length := by rw [hml]; omega
    refine ⟨(m.bd.pks[j]).toNat, m.bd.notes[j].1, movedN ps qs (m.bd.pks[j]).toNat, ?_, ?_, ?_, hlt, ?_, ?_⟩
    · rw [hk, List.getElem?_eq_getElem hj']
    · rw [hk]; show m.bd.pks.getD j 0 = _; rw [List.getD_eq_getElem?_getD, List.getElem?_eq_getElem hj']; rfl
    · rw [hk]
      cases j with
      | zero => exact e1
      | succ i =>
        show m.bd.pks.getD i 0 ≤ _
        rw [List.getD_eq_getElem?_getD, List.getElem?_eq_getElem (by omega : i < m.bd.pks.length)]
        exact List.pairwise_iff_getElem.1 h.ord i (i + 1) (by omega) hj' (by omega)
    · rw [List.getElem?_eq_getElem hj, List.getD_eq_getElem?_getD, List.getElem?_eq_getElem hj]; rfl
    · rw [hmv, List.getElem?_map, List.getElem?_range (by rw [← hml]; exact hlt)]
      show some (_, _) = _
      rw [e3]
theorem fin_pks {calm : Bool} : (finM ps qs calm).bd.pks.length = (finM ps qs calm).bd.notes.length := by
  rcases Nat.eq_zero_or_pos ps.length with h0 | hn
  · obtain rfl : ps = [] := List.length_eq_zero_iff.1 h0
    unfold finM; rw [mac_nil]; rfl
  · exact mac_pks hn _
end
end Go.Bt
end
section
namespace Go.Bt
variable [Gnd]
open Go.Conc Go.ConcN Go.RowKit Go.Proofs
open Go.Sx (Rly RV pz pzo pz_heap spec isWg Gud Co blk RowE Rd Mem CallV vInt CallI SW Sub Stb Pt callV_of_callI callI_of_pt pt_seq pt_sw pt_true pt_false pt_cond pt_if pt_skip pt_region pt_regionEnd pt_val pt_call pt_act pt_do pt_ret pt_block pt_inBlock pt_exit pt_loop_inv val_assign val_move val_load val_load_at val_load_all val_build' val_len val_not val_extract val_nilCheck val_fieldAddr val_indexAddr_slice val_lss_int val_geq_int val_neq_int val_add_int val_gtr_int val_pick_true val_pick_false tame_nilCheck tame_int acts_box acts_alloc acts_buildSlice does_store_all callsTo ev_eval res_two res_slot Fits sw_region sw_region_lex ow_val ow_nil ow_make ow_call_pure ow_guard_yes ow_guard_no ow_guard_none lw_pure lw_held lw_nil lw_call_pure lwg_pure lwg_held lwg_call_pure lwg_no mem_of_rv pick wg)
noncomputable def c7 : Code := Try.f7.body.getD .skip
noncomputable def r7a : Code := match c7 with
  | .seq _ (.seq _ (.seq _ (.seq _ (.seq (.seq c _) _)))) => c
  | _ => .skip
noncomputable def r7b : Code := match c7 with
  | .seq _ (.seq _ (.seq _ (.seq _ (.seq _ (.seq _ (.seq (.seq _ (.block _ (.loop (.seq _ (.seq _ (.seq (.block _ (.seq _ (.seq (.seq c _) _))) _)))))) _)))))) => c
  | _ => .skip
section
variable {v : World} {pv : Value} {ps : List (List Ins)} {qs : List Int} {calm : Bool} {Post : Value → World → Prop}
set_option maxRecDepth 100000 in
set_option maxHeartbeats 4000000 in
theorem sw_7_3 [C : Co Try.prog] {qa : Option Addr} {cap : Nat} (hfit : ∀ w, Mem v [] [] w → CallV Try.prog 13 #[pv, .slice qa qs.length cap] w (fun r u => r = .returned (.bool (isFit ps qs)) ∧ RV w u)) (hend : ∀ w, Mem v [] [] w → CallV Try.prog 14 #[pv] w (fun r u => r = .returned (.bool (isEndless ps)) ∧ RV w u)) :
    SW Try.prog 80 (cL (cL (cR (cR c7)))) [(0, pv), (1, .slice qa qs.length cap), (2, .bool calm)] (Mem v [] []) (fun ex F' w => ex = .normal ∧ Sub ((24, .bool (!isFit ps qs || (calm && isEndless ps))) :: [(0, pv), (1, .slice qa qs.length cap), (2, .bool calm)]) F' ∧ Mem v [] [] w) := by
  show SW Try.prog 80 (Code.region 3 _ false) _ _ _
  refine sw_region ?_
  refine ow_val (val_move (v := pv) rfl) rfl ?_
  refine ow_val (val_move (v := .slice qa qs.length cap) rfl) rfl ?_
  refine ow_call_pure (v := .bool (isFit ps qs)) (callsTo Try.func13 rfl (by kernel_rfl) rfl) rfl (fun w hm => (hfit w hm).mono fun e u hu => ⟨_, hu.1, rfl, mem_of_rv hu.2⟩) ?_
  refine ow_val (val_not rfl) rfl ?_
  refine ow_val (val_move (v := .bool (!isFit ps qs)) rfl) rfl ?_
  generalize isFit ps qs = b1
  cases b1 with
  | false =>
    refine ow_guard_no (t := 18) rfl rfl rfl rfl rfl ?_
    refine ow_guard_no (t := 18) rfl rfl rfl rfl rfl ?_
    refine ow_guard_none (t := 20) rfl rfl rfl rfl rfl ?_
    refine ow_guard_none (t := 20) rfl rfl rfl rfl rfl ?_
    refine ow_guard_no (t := 18) rfl rfl rfl rfl rfl ?_
    refine ow_val (val_pick_true (v := .bool true) rfl rfl) rfl ?_
    exact ow_nil fun w hw => ⟨rfl, ⟨rfl, rfl, rfl, rfl, trivial⟩, hw⟩
  | true =>
    refine ow_guard_yes (t := 18) rfl rfl rfl (ow_val (val_move (v := .bool calm) rfl) rfl ?_)
    refine ow_guard_yes (t := 18) rfl rfl rfl (ow_val (val_move (v := .bool calm) rfl) rfl ?_)
    cases calm with
    | false =>
      refine ow_guard_no (t := 20) rfl rfl rfl rfl rfl ?_
      refine ow_guard_no (t := 20) rfl rfl rfl rfl rfl ?_
      refine ow_guard_yes (t := 18) rfl rfl rfl (ow_val (val_pick_false (v := .bool false) rfl rfl) rfl ?_)
      refine ow_val (val_pick_false (v := .bool false) rfl rfl) rfl ?_
      exact ow_nil fun w hw => ⟨rfl, ⟨rfl, rfl, rfl, rfl, trivial⟩, hw⟩
    | true =>
      refine ow_guard_yes (t := 20) rfl rfl rfl (ow_val (val_move (v := pv) rfl) rfl ?_)
      refine ow_guard_yes (t := 20) rfl rfl rfl (ow_call_pure (v := .bool (isEndless ps)) (callsTo Try.func14 rfl (by kernel_rfl) rfl) rfl (fun w hm => (hend w hm).mono fun e u hu => ⟨_, hu.1, rfl, mem_of_rv hu.2⟩) ?_)
      refine ow_guard_yes (t := 18) rfl rfl rfl (ow_val (val_pick_true (v := .bool (isEndless ps)) rfl rfl) rfl ?_)
      refine ow_val (val_pick_false (v := .bool (isEndless ps)) rfl rfl) rfl ?_
      exact ow_nil fun w hw => ⟨rfl, ⟨rfl, rfl, rfl, rfl, trivial⟩, hw⟩
set_option maxRecDepth 100000 in
set_option maxHeartbeats 4000000 in
theorem sw_7_6 [C : Co Try.prog] {sb N c1 c3 : Nat} {a1 a3 : Option Addr} {F : Go.Sx.Fr} (h7 : Go.Sx.look F 7 = some (vPtr sb)) (hst : v.heap[sb]? = some (blk [pv, .slice a1 N c1, .slice a3 N c3] 40)) :
    SW Try.prog 80 r7a F (fun w => RV v w) (fun ex F' w => ex = .normal ∧ Go.Sx.look F' 42 = some (.bool false) ∧ (∀ t u, Nat.blt t 32 = true → Go.Sx.look F t = some u → Go.Sx.look F' t = some u) ∧ RV v w) := by
  have hc1 : ∀ w, RV v w → w.cell? ⟨sb, 1, none⟩ = some (.slice a1 N c1) := fun w hw => cell_rv' (by rw [Go.Sx.cell_of_blk hst]; rfl) hw
  have hc2 : ∀ w, RV v w → w.cell? ⟨sb, 2, none⟩ = some (.slice a3 N c3) := fun w hw => cell_rv' (by rw [Go.Sx.cell_of_blk hst]; rfl) hw
  show SW Try.prog 80 (Code.region 6 _ true) _ _ _
  refine sw_region_lex (fun w => RV v w) [] [(0, 0), (1, 0), (2, 0), (3, 1), (4, 0), (5, 0), (6, 0), (7, 0), (8, 1), (9, 0), (10, 0)] (by kernel_rfl) (by kernel_rfl) (fun c F w h => by cases h.1) (fun _ h => h) (fun w h => ⟨h.tape, h.os, h.output, h.heap⟩) ?_
  refine lw_pure rfl (val_move (v := vPtr sb) (by exact h7)) rfl ?_
  refine lw_pure rfl (val_nilCheck (a := ⟨sb, 0, none⟩) rfl) rfl ?_ (hT := tame_nilCheck rfl)
  refine lw_pure rfl (val_fieldAddr (b := sb) (o := 0) (e := 2) rfl Try.underlying40 rfl rfl Try.sizeOf23 rfl) rfl ?_
  refine lw_held rfl (val_load rfl Try.isAgg23 (v := .slice a3 N c3) (fun w h => hc2 w h)) rfl ?_
  refine lw_pure rfl (val_len (len := N) rfl Try.underlying23) rfl ?_
  refine lw_pure rfl (val_move (v := vPtr sb) (by exact h7)) rfl ?_
  refine lw_pure rfl (val_nilCheck (a := ⟨sb, 0, none⟩) rfl) rfl ?_ (hT := tame_nilCheck rfl)
  refine lw_pure rfl (val_fieldAddr (b := sb) (o := 0) (e := 1) rfl Try.underlying40 rfl rfl Try.sizeOf32 rfl) rfl ?_
  refine lw_held rfl (val_load rfl Try.isAgg32 (v := .slice a1 N c1) (fun w h => hc1 w h)) rfl ?_
  refine lw_pure rfl (val_len (len := N) rfl Try.underlying32) rfl ?_
  refine lw_pure rfl (val_neq_int (a := (N : Int)) (b := (N : Int)) rfl rfl) rfl ?_ (hT := tame_int rfl rfl)
  rw [decide_eq_false (show ¬ (N : Int) ≠ (N : Int) from fun h => h rfl)]
  refine lw_nil fun w hw => ⟨rfl, rfl, fun t u ht hl => ?_, hw⟩
  have hlt : t < 32 := by simpa using ht
  have hb : ∀ m, 32 ≤ m → Nat.beq m t = false := fun m hm => by
    cases e : Nat.beq m t with
    | false => rfl
    | true => have := Nat.eq_of_beq_eq_true e; omega
  simp only [Go.Sx.look, hb 32 (by decide), hb 33 (by decide), hb 34 (by decide), hb 35 (by decide), hb 36 (by decide), hb 37 (by decide), hb 38 (by decide), hb 39 (by decide), hb 40 (by decide), hb 41 (by decide), hb 42 (by decide), cond_false]
  exact hl
set_option maxRecDepth 100000 in
set_option maxHeartbeats 4000000 in
theorem sw_7_12 [C : Co Try.prog] {sb N M c1 c2 b1 o1 b2 o2 j k : Nat} {last x : Int} {F : Go.Sx.Fr} (h7 : Go.Sx.look F 7 = some (vPtr sb)) (h8 : Go.Sx.look F 8 = some (.slice (some ⟨b2, o2, none⟩) M c2)) (h9 : Go.Sx.look F 9 = some (vInt last)) (h10 : Go.Sx.look F 10 = some (vInt j)) (h11 : Go.Sx.look F 11 = some (vInt k)) (hst : v.cell? ⟨sb, 1, none⟩ = some (.slice (some ⟨b1, o1, none⟩) N c1))
    (hj : j < N) (hk : k < M) (hlast : last ≤ (k : Int)) (k1 : v.cell? ⟨b1, o1 + j * 2, none⟩ = some (vInt x)) (k2 : v.cell? ⟨b2, o2 + k * 2, none⟩ = some (vInt x)) :
    SW Try.prog 80 r7b F (fun w => RV v w) (fun ex F' w => ex = .normal ∧ Go.Sx.look F' 77 = some (.bool false) ∧ (∀ t u, Nat.blt t 53 = true → Go.Sx.look F t = some u → Go.Sx.look F' t = some u) ∧ RV v w) := by
  have hc1 : ∀ w, RV v w → w.cell? ⟨sb, 1, none⟩ = some (.slice (some ⟨b1, o1, none⟩) N c1) := fun w hw => cell_rv' hst hw
  show SW Try.prog 80 (Code.region 12 _ true) _ _ _
  refine sw_region_lex (fun w => RV v w) [] [(0, 0), (1, 0), (2, 0), (3, 0), (4, 0), (5, 0), (6, 0), (7, 0), (8, 0), (9, 0), (10, 0), (11, 0), (12, 0), (13, 0), (14, 1), (15, 0), (16, 0), (17, 0), (18, 1), (19, 0), (20, 0), (21, 0), (22, 1), (23, 0), (24, 0)] (by kernel_rfl) (by kernel_rfl) (fun c F w h => by cases h.1) (fun _ h => h) (fun w h => ⟨h.tape, h.os, h.output, h.heap⟩) ?_
  refine lw_pure rfl (val_move (v := vInt k) (by exact h11)) rfl ?_
  refine lw_pure rfl (val_move (v := vInt last) (by exact h9)) rfl ?_
  refine lw_pure rfl (val_lss_int (a := (k : Int)) (b := last) rfl rfl) rfl ?_ (hT := tame_int rfl rfl)
  rw [decide_eq_false (show ¬ (k : Int) < last by omega)]
  refine lw_pure rfl (val_move (v := .bool false) rfl) rfl ?_
  refine lwg_pure rfl (wg rfl rfl) (val_move (v := vInt k) (by exact h11)) rfl ?_
  refine lwg_pure rfl (wg rfl rfl) (val_move (v := .slice (some ⟨b2, o2, none⟩) M c2) (by exact h8)) rfl ?_
  refine lwg_pure rfl (wg rfl rfl) (val_len (len := M) rfl Try.underlying28) rfl ?_
  refine lwg_pure rfl (wg rfl rfl) (val_geq_int (a := (k : Int)) (b := (M : Int)) rfl rfl) rfl ?_ (hT := tame_int rfl rfl)
  rw [decide_eq_false (show ¬ (k : Int) ≥ (M : Int) by omega)]
  refine lw_pure rfl (val_pick_false (v := .bool false) rfl rfl) rfl ?_
  refine lw_pure rfl (val_move (v := .bool false) rfl) rfl ?_
  refine lwg_pure rfl (wg rfl rfl) (val_move (v := .slice (some ⟨b2, o2, none⟩) M c2) (by exact h8)) rfl ?_
  refine lwg_pure rfl (wg rfl rfl) (val_move (v := vInt k) (by exact h11)) rfl ?_
  refine lwg_pure rfl (wg rfl rfl) (val_indexAddr_slice (m := 2) k (o2 + k * 2) rfl rfl Try.underlying28 Try.sizeOf43 rfl hk rfl) rfl ?_
  refine lwg_pure rfl (wg rfl rfl) (val_fieldAddr (b := b2) (o := o2 + k * 2) (e := o2 + k * 2) rfl Try.underlying43 rfl rfl Try.sizeOf3 rfl) rfl ?_
  refine lwg_held rfl (wg rfl rfl) (val_load rfl Try.isAgg3 (v := vInt x) (fun w h => cell_rv' k2 h)) rfl ?_
  refine lwg_pure rfl (wg rfl rfl) (val_move (v := vPtr sb) (by exact h7)) rfl ?_
  refine lwg_pure rfl (wg rfl rfl) (val_nilCheck (a := ⟨sb, 0, none⟩) rfl) rfl ?_ (hT := tame_nilCheck rfl)
  refine lwg_pure rfl (wg rfl rfl) (val_fieldAddr (b := sb) (o := 0) (e := 1) rfl Try.underlying40 rfl rfl Try.sizeOf32 rfl) rfl ?_
  refine lwg_held rfl (wg rfl rfl) (val_load rfl Try.isAgg32 (v := .slice (some ⟨b1, o1, none⟩) N c1) (fun w h => hc1 w h)) rfl ?_
  refine lwg_pure rfl (wg rfl rfl) (val_move (v := vInt j) (by exact h10)) rfl ?_
  refine lwg_pure rfl (wg rfl rfl) (val_indexAddr_slice (m := 2) j (o1 + j * 2) rfl rfl Try.underlying32 Try.sizeOf56 rfl hj rfl) rfl ?_
  refine lwg_pure rfl (wg rfl rfl) (val_fieldAddr (b := b1) (o := o1 + j * 2) (e := o1 + j * 2) rfl Try.underlying56 rfl rfl Try.sizeOf3 rfl) rfl ?_
  refine lwg_held rfl (wg rfl rfl) (val_load rfl Try.isAgg3 (v := vInt x) (fun w h => cell_rv' k1 h)) rfl ?_
  refine lwg_pure rfl (wg rfl rfl) (val_neq_int (a := x) (b := x) rfl rfl) rfl ?_ (hT := tame_int rfl rfl)
  rw [decide_eq_false (show ¬ x ≠ x from fun h => h rfl)]
  refine lw_pure rfl (val_pick_false (v := .bool false) rfl rfl) rfl ?_
  refine lw_nil fun w hw => ⟨rfl, rfl, fun t u ht hl => ?_, hw⟩
  have hlt : t < 53 := by simpa using ht
  have hb : ∀ m, 53 ≤ m → Nat.beq m t = false := fun m hm => by
    cases e : Nat.beq m t with
    | false => rfl
    | true => have := Nat.eq_of_beq_eq_true e; omega
  simp only [Go.Sx.look, hb 53 (by decide), hb 54 (by decide), hb 55 (by decide), hb 56 (by decide), hb 57 (by decide), hb 58 (by decide), hb 59 (by decide), hb 60 (by decide), hb 61 (by decide), hb 62 (by decide), hb 63 (by decide), hb 64 (by decide), hb 65 (by decide), hb 66 (by decide), hb 67 (by decide), hb 68 (by decide), hb 69 (by decide), hb 70 (by decide), hb 71 (by decide), hb 72 (by decide), hb 73 (by decide), hb 74 (by decide), hb 75 (by decide), hb 76 (by decide), hb 77 (by decide), cond_false]
  exact hl
set_option maxRecDepth 100000 in
set_option maxHeartbeats 8000000 in
theorem alone_p {S : List Frame} (hy : ∀ (F : Go.Sx.Fr) (t : List Item), Sub [(6, .bool true)] F → Pt (fun _ : Unit => coLaw Try.prog Post) 80 (Go.Sx.fr0 7) S () (.code .ret :: t) F (fun w => RV v w)) {qa : Option Addr} {cap : Nat} (hG : PrgV v pv ps) (hsum : (ps.map List.length).sum ≤ 4611686018427387904) (hlen : ps.length ≤ 4611686018427387904) (hQ : QV v qa qs) :
    Pt (fun _ : Unit => coLaw Try.prog Post) 80 (Go.Sx.fr0 7) S () [.code c7] (Go.Sx.slots 0 [pv, .slice qa qs.length cap, .bool calm]) (· = v) := by
  letI C : Co Try.prog := coLaw Try.prog Post
  obtain ⟨pa, pc, hpv, _⟩ := hG.ex
  have hone : pv.oneCell' = true := by rw [hpv]; rfl
  have hyes : ∀ (M : World → Prop) (hM : ∀ w, M w → RV v w) (F : Go.Sx.Fr) (t : List Item), Sub [(6, .bool true)] F → Pt (fun _ : Unit => C) 80 (Go.Sx.fr0 7) S () (.code .ret :: t) F M := fun M hM F t hF => Pt.imp hM (hy F t hF)
  refine Pt.imp (M' := fun w => RV v w) (fun w hw => hw ▸ RV.refl _) (pt_seq (pt_region ?_))
  refine pt_val (by decide) rfl (val_assign (v := .bool false) rfl) rfl ?_
  refine pt_regionEnd (pt_seq (pt_seq (pt_region ?_)))
  refine pt_call (T := fun w r _ u => r = .returned (.bool true) ∧ RV w u) (by decide) rfl (callsTo (xs := []) (vs := []) Try.func12 rfl (by decide) rfl) (by infer_instance) (fun w hw => callI_of_v (awake_v (Post := Post))) (fun t' ht => by cases ht; rfl) (fun w r x' hw => ?_) (fun w ch x' hw a w' hf hl => ?_)
  rotate_left
  · obtain ⟨z, ⟨hz, _⟩, _⟩ := hl; cases hz
  refine Pt.world fun z hz => ?_
  obtain ⟨hr, hz⟩ := hz
  obtain rfl : r = .bool true := by cases hr; rfl
  replace hz := RV.trans hw hz
  clear hr hw
  have hGz := hG.grow hz
  refine Pt.imp (M' := Mem z [] []) (fun u hu => hu ▸ Mem.refl z) ?_
  refine pt_val (by decide) rfl (val_not rfl) rfl (pt_regionEnd (pt_false rfl (pt_skip (pt_seq (pt_seq ?_)))))
  refine Pt.weaken (F' := [(0, pv), (1, .slice qa qs.length cap), (2, .bool calm)]) ⟨rfl, rfl, rfl, trivial⟩ (fun _ h => h) ?_
  refine pt_sw (by decide) (sw_7_3 (fun w hw => fit_v (hGz.grow (Mem.rv hw)) hsum hlen) (fun w hw => endless_v (hGz.grow (Mem.rv hw)) hlen)) (fun F' y hq => ?_) (fun ex F' y hne hq => hne hq.1)
  obtain ⟨-, hF, hy⟩ := hq
  refine Pt.weaken hF (M' := Mem z [] []) (fun w hw => hw ▸ hy) (pt_cond rfl (fun hs => ?_) (fun hs => pt_skip ?_))
  · refine pt_seq (pt_region (pt_val (by decide) rfl (val_assign (v := .bool true) rfl) rfl (pt_regionEnd ?_)))
    exact hyes _ (fun w hw => hz.trans (Mem.rv hw)) _ _ ⟨rfl, trivial⟩
  clear hF hy
  have hFit : Fit ps qs := fit_iff.1 (by simpa using (Bool.or_eq_false_iff.1 hs).1)
  obtain ⟨hl1, hl2⟩ := fin_small (calm := calm) hFit
  refine pt_seq (pt_region ?_)
  refine pt_val (by decide) rfl (val_move (v := pv) rfl) rfl ?_
  refine pt_val (by decide) rfl (val_move (v := .slice qa qs.length cap) rfl) rfl ?_
  refine pt_val (by decide) rfl (val_move (v := .bool calm) rfl) rfl ?_
  refine pt_call (T := fun w r _ u => ∃ sb mv, r = .returned (.tuple #[vPtr sb, mv]) ∧ PlayU pv w sb mv (finM ps qs calm) u) (by decide) rfl (callsTo (xs := [.tmp 26, .tmp 27, .tmp 28]) (vs := [pv, .slice qa qs.length cap, .bool calm]) Try.func15 rfl (by decide) rfl) (by infer_instance) (fun w hw => callI_of_v (plU_v (Post := Post) hFit (hGz.grow (Mem.rv hw)) (hQ.grow (hz.trans (Mem.rv hw))))) (fun t' ht => by cases ht; rfl) (fun w r x' hw => ?_) (fun w ch x' hw a w' hf hl => ?_)
  rotate_left
  · obtain ⟨z, ⟨_, _, hz, _⟩, _⟩ := hl; cases hz
  refine Pt.world fun z2 hz2 => ?_
  obtain ⟨sb, mv, hr, hU⟩ := hz2
  obtain rfl : r = .tuple #[vPtr sb, mv] := by cases hr; rfl
  obtain ⟨a1, c1, a2, c2, a3, c3', hst, r1, r3, rfl, r2, hv2⟩ := hU.facts
  replace hv2 := hz.trans ((Mem.rv hw).trans hv2)
  clear hr hw hU
  refine Pt.imp (M' := fun w => RV z2 w) (fun u hu => hu ▸ RV.refl z2) ?_
  refine pt_val (by decide) rfl (val_move (v := .tuple #[vPtr sb, .slice a2 (finM ps qs calm).moves.length c2]) rfl) rfl ?_
  refine pt_val (by decide) rfl (val_extract (v := vPtr sb) rfl rfl) rfl ?_
  refine pt_val (by decide) rfl (val_extract (v := .slice a2 (finM ps qs calm).moves.length c2) rfl rfl) rfl ?_
  refine pt_val (by decide) rfl (val_assign (v := vPtr sb) rfl) rfl ?_
  refine pt_val (by decide) rfl (val_assign (v := .slice a2 (finM ps qs calm).moves.length c2) rfl) rfl ?_
  refine pt_regionEnd ?_
  rw [show (finM ps qs calm).bd.pks.length = (finM ps qs calm).bd.notes.length from fin_pks] at hst
  have hat := fun {j : Nat} => alone_at (ps := ps) (qs := qs) (calm := calm) (j := j)
  refine pt_seq (pt_seq ?_)
  refine pt_sw (by decide) (sw_7_6 (pv := pv) rfl hst) (fun F' y hq => ?_) (fun ex F' y hne hq => hne hq.1)
  obtain ⟨-, h42, hk6, hy⟩ := hq
  refine Pt.weaken (F' := [(42, .bool false), (7, vPtr sb), (8, .slice a2 (finM ps qs calm).moves.length c2)]) ⟨h42, hk6 7 _ rfl rfl, hk6 8 _ rfl rfl, trivial⟩ (M' := fun w => RV z2 w) (fun w hw => hw ▸ hy) ?_
  refine pt_false rfl (pt_skip (pt_seq (pt_region ?_)))
  refine pt_val (by decide) rfl (val_assign (v := vInt 0) rfl) rfl ?_
  refine pt_regionEnd (pt_seq (pt_seq (pt_region ?_)))
  refine pt_val (by decide) rfl (val_move (v := vPtr sb) rfl) rfl ?_
  refine pt_val (by decide) rfl (val_nilCheck (a := ⟨sb, 0, none⟩) rfl) rfl ?_ (tame_nilCheck rfl)
  refine pt_val (by decide) rfl (val_fieldAddr (b := sb) (o := 0) (e := 2) rfl Try.underlying40 rfl rfl Try.sizeOf23 rfl) rfl ?_
  refine pt_val (by decide) rfl (val_load rfl Try.isAgg23 (v := .slice a3 (finM ps qs calm).bd.notes.length c3') (fun w h => cell_rv' (by rw [Go.Sx.cell_of_blk hst]; rfl) h)) rfl ?_
  refine pt_val (by decide) rfl (val_len (len := (finM ps qs calm).bd.notes.length) rfl Try.underlying23) rfl ?_
  refine pt_val (by decide) rfl (val_move (v := vInt (0 : Nat)) rfl) rfl ?_
  refine pt_regionEnd (pt_block ?_)
  generalize finM ps qs calm = m at *
  refine pt_loop_inv (fun j : Nat => j ≤ m.bd.notes.length) (fun j => [(7, vPtr sb), (8, .slice a2 m.moves.length c2), (9, vInt (lastOf m.bd.pks j)), (46, .slice a3 m.bd.notes.length c3'), (47, vInt m.bd.notes.length), (48, vInt j)]) (fun _ => ()) (fun _ z => RV z2 z) (fun j => m.bd.notes.length - j) 0 (Nat.zero_le _) ⟨rfl, rfl, rfl, rfl, rfl, rfl, trivial⟩ rfl (fun _ h => h) ?_
  rintro j hle hloop
  refine pt_seq (pt_region ?_)
  refine pt_val (by decide) rfl (val_lss_int (a := (j : Int)) (b := (m.bd.notes.length : Int)) rfl rfl) rfl ?_ (tame_int rfl rfl)
  refine pt_regionEnd (pt_seq (pt_if rfl (fun hlt => ?_) (fun hge => ?_)))
  · have hj : j < m.bd.notes.length := by omega
    obtain ⟨k, x, b, e1, e2, e3, e4, e5, e6⟩ := hat hj
    obtain ⟨b3, o3, rfl, q3⟩ := r3 j (vI (k : Int)) (by rw [List.getElem?_map, e1]; rfl)
    obtain ⟨b1, o1, rfl, q1⟩ := r1 (2 * j) _ (flatB_get e5).1
    obtain ⟨b2, o2, rfl, q2⟩ := r2 (k * 2) _ (flatM_get e6).1
    rw [Nat.mul_comm 2 j] at q1
    refine pt_skip (pt_seq (pt_block (pt_seq (pt_region ?_))))
    refine pt_val (by decide) rfl (val_move (v := vInt j) rfl) rfl ?_
    refine pt_val (by decide) rfl (val_indexAddr_slice (m := 1) j (o3 + j) rfl rfl Try.underlying23 Try.sizeOf3 rfl hj (by omega)) rfl ?_
    refine pt_val (by decide) rfl (val_load rfl Try.isAgg3 (v := vInt k) (fun w h => cell_rv' q3 h)) rfl ?_
    refine pt_val (by decide) rfl (val_assign (v := vInt j) rfl) rfl ?_
    refine pt_val (by decide) rfl (val_assign (v := vInt k) rfl) rfl ?_
    refine pt_regionEnd (pt_seq (pt_seq ?_))
    refine Pt.world fun z5 hz5 => ?_
    refine Pt.imp (M' := fun w => RV z5 w) (fun w hw => hw ▸ RV.refl _) ?_
    refine pt_sw (by decide) (sw_7_12 (sb := sb) (last := lastOf m.bd.pks j) (x := x) (j := j) (k := k) rfl rfl rfl rfl rfl (cell_rv' (by rw [Go.Sx.cell_of_blk hst]; rfl) hz5) hj e4 e3 (cell_rv' q1 hz5) (cell_rv' q2 hz5)) (fun F' y hq => ?_) (fun ex F' y hne hq => hne hq.1)
    obtain ⟨-, h77, hk7, hy⟩ := hq
    refine Pt.weaken (F' := [(77, .bool false), (7, vPtr sb), (8, .slice (some ⟨b2, o2, none⟩) m.moves.length c2), (11, vInt k), (46, .slice (some ⟨b3, o3, none⟩) m.bd.notes.length c3'), (47, vInt m.bd.notes.length), (48, vInt j)]) ⟨h77, hk7 7 _ rfl rfl, hk7 8 _ rfl rfl, hk7 11 _ rfl rfl, hk7 46 _ rfl rfl, hk7 47 _ rfl rfl, hk7 48 _ rfl rfl, trivial⟩ (M' := fun w => RV z2 w) (fun w hw => hw ▸ hz5.trans hy) ?_
    refine pt_false rfl (pt_skip (pt_region ?_))
    refine pt_val (by decide) rfl (val_move (v := vInt k) rfl) rfl ?_
    refine pt_val (by decide) rfl (val_assign (v := vInt k) rfl) rfl ?_
    refine pt_regionEnd (pt_inBlock (pt_region ?_))
    refine pt_val (by decide) rfl (val_add_int (a := (j : Int)) (b := 1) _ rfl rfl rfl (by omega)) rfl ?_ (tame_int rfl rfl)
    refine pt_val (by decide) rfl (val_move (v := vInt (j + 1 : Nat)) rfl) rfl ?_
    refine pt_regionEnd (Pt.weaken ?_ (fun _ h => h) (hloop (j + 1) hj (by omega)))
    exact ⟨rfl, rfl, by rw [e2]; rfl, rfl, rfl, rfl, trivial⟩
  · refine pt_exit rfl (pt_seq (pt_region (pt_val (by decide) rfl (val_assign (v := .bool true) rfl) rfl (pt_regionEnd ?_))))
    exact hyes (fun w => RV z2 w) (fun w hw => hv2.trans hw) _ _ ⟨rfl, trivial⟩
end
end Go.Bt
end
