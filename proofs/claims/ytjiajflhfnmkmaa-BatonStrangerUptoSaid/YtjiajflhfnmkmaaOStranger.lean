/- A PLAY OF THE BATON: what the row rests on. -/
import Derived.Test.YtjiajflhfnmkmaaOSplits
set_option linter.unusedVariables false
set_option linter.unusedSimpArgs false
set_option linter.unusedSectionVars false
section
namespace Go.Bt
variable [Gnd]
open Go.Conc Go.ConcN Go.RowKit Go.Proofs
open Go.Sx (Rly RV pz pzo pz_heap spec isWg Gud Co blk RowE Rd Mem CallV vInt CallI SW Sub Stb Pt run_two lin_equal_two lin_equal_int lin_equal_bool callV_of_callI callI_of_pt pt_seq pt_sw pt_true pt_false pt_cond pt_if pt_skip pt_region pt_regionEnd pt_val pt_call pt_act pt_do pt_draw pt_ret pt_block pt_inBlock pt_exit pt_loop_inv lz_val val_assign val_move val_load val_load_at val_load_all val_load_elem val_build' val_len val_not val_extract val_nilCheck val_fieldAddr val_indexAddr_slice val_slice_lo val_slice_hi val_neq_agg tame_two val_rem_int val_rem_to val_eql_int val_lss_int val_geq_int val_neq_int val_add_int val_gtr_int val_pick_true val_pick_false tame_nilCheck tame_int acts_box acts_alloc acts_buildSlice acts_append ow_append' does_store_all callsTo ev_eval res_two res_slot Fits sw_region sw_region_lex ow_val ow_nil ow_make ow_call_pure ow_guard_yes ow_guard_no ow_guard_none lw_pure lw_held lw_nil lw_call_pure lwg_pure lwg_held lwg_call_pure lwg_no mem_of_rv pick wg)
noncomputable def c9 : Code := Try.f9.body.getD .skip
noncomputable def r9a : Code := match c9 with
  | .seq _ (.seq _ (.seq _ (.seq (.seq _ (.block _ (.loop (.seq _ (.seq _ (.seq (.block _ (.seq _ (.seq c _))) _)))))) _))) => c
  | _ => .skip
noncomputable def r9b : Code := match c9 with
  | .seq _ (.seq _ (.seq _ (.seq _ (.seq _ (.seq _ (.seq _ (.seq _ (.seq _ (.seq _ (.seq c _)))))))))) => c
  | _ => .skip
section
variable {v y : World} {pv : Value} {ps : List (List Ins)} {st : List Ins} {qs : List Int} {Post : Value → World → Prop}
theorem prg_cells {pa : Option Addr} {pc : Nat} (hG : PrgV v (.slice pa ps.length pc) ps) : ∃ pvs : List Value, pvs.length = ps.length ∧ Rd v pa pvs ∧ (∀ u ∈ pvs, u.oneCell' = true) ∧ ∀ (i : Nat) (p : List Ins), ps[i]? = some p → ∃ a c, pvs[i]? = some (Value.slice a p.length c) ∧ VRd v a (flatB p) := by
  obtain ⟨pa', pc', e, hp⟩ := hG.ex
  cases e
  have hex : ∀ i, ∃ u : Value, ∀ p, ps[i]? = some p → (∃ b o, pa = some ⟨b, o, none⟩ ∧ v.cell? ⟨b, o + i, none⟩ = some u) ∧ ∃ a c, u = .slice a p.length c ∧ VRd v a (flatB p) := fun i => by
    cases h : ps[i]? with
    | none => exact ⟨vInt 0, fun p hp => by cases hp⟩
    | some p =>
      obtain ⟨b, o, a, c, h1, h2, _, h4⟩ := hp i p h
      exact ⟨_, fun p' hp' => by cases hp'; exact ⟨⟨b, o, h1, h2⟩, a, c, rfl, h4⟩⟩
  have hf := fun i => Classical.choose_spec (hex i)
  have hget : ∀ i u, ((List.range ps.length).map (fun i => Classical.choose (hex i)))[i]? = some u → ∃ p, ps[i]? = some p ∧ u = Classical.choose (hex i) := fun i u hu => by
    rw [List.getElem?_map] at hu
    obtain ⟨j, hj, rfl⟩ := Option.map_eq_some_iff.1 hu
    have hlt := (List.getElem?_eq_some_iff.1 hj).1
    rw [List.length_range] at hlt
    rw [List.getElem?_range hlt] at hj
    cases hj
    exact ⟨ps[i], List.getElem?_eq_getElem hlt, rfl⟩
  refine ⟨(List.range ps.length).map (fun i => Classical.choose (hex i)), by simp, fun j x hx => ?_, fun u hu => ?_, fun i p hp' => ?_⟩
  · obtain ⟨p, h1, rfl⟩ := hget j x hx
    exact (hf j p h1).1
  · obtain ⟨i, hi⟩ := List.mem_iff_getElem?.1 hu
    obtain ⟨p, h1, rfl⟩ := hget i u hi
    obtain ⟨_, a, c, h2, _⟩ := hf i p h1
    rw [h2]; rfl
  · obtain ⟨_, a, c, h2, h3⟩ := hf i p hp'
    have hlt := (List.getElem?_eq_some_iff.1 hp').1
    refine ⟨a, c, ?_, h3⟩
    rw [List.getElem?_map, List.getElem?_range hlt, ← h2]; rfl
theorem prg_snoc {aa sa : Option Addr} {ca sc : Nat} {pvs : List Value} {e : Go.Sx.Ent} (hG : PrgV v pv ps) (h1 : pvs.length = ps.length) (h2 : ∀ (i : Nat) (p : List Ins), ps[i]? = some p → ∃ a c, pvs[i]? = some (Value.slice a p.length c) ∧ VRd v a (flatB p)) (hs : VRd v sa (flatB st)) (hsl : st.length ≤ 4611686018427387904)
    (hr : RowE (.slice aa (ps.length + 1) ca) 58 1 (ps.length + 1) (pvs ++ [.slice sa st.length sc]) e) (hm : Mem v [] [e] y) : PrgV y (.slice aa (ps ++ [st]).length ca) (ps ++ [st]) := by
  obtain ⟨a', c', e1, _, r⟩ := hr.rd hm (i := 0) rfl
  cases e1
  obtain ⟨_, ⟨h0, h3, _⟩ | ⟨b, cap, rest, h3, _, _, _, rfl⟩⟩ := hr
  · cases h3
  cases h3
  have hb : y.heap[b]? = some (blk ((pvs ++ [.slice sa st.length sc]) ++ rest) 58) := hm.at (i := 0) rfl
  have hord : OrdV y b := ⟨_, hb, rfl, rfl⟩
  refine ⟨⟨_, _, rfl, fun i p hp => ?_⟩, fun p hp => ?_⟩
  · by_cases hi : i < ps.length
    · rw [List.getElem?_append_left hi] at hp
      obtain ⟨a, c, h4, h5⟩ := h2 i p hp
      obtain ⟨b', o', e2, hc⟩ := r i _ (by rw [List.getElem?_append_left (by rw [h1]; exact hi)]; exact h4)
      cases e2
      exact ⟨b, 0, a, c, rfl, hc, hord, h5.grow (Mem.rv hm)⟩
    · have hlt := (List.getElem?_eq_some_iff.1 hp).1
      rw [List.length_append, List.length_singleton] at hlt
      obtain rfl : i = ps.length := by omega
      rw [List.getElem?_append_right (Nat.le_refl _), Nat.sub_self] at hp
      cases hp
      obtain ⟨b', o', e2, hc⟩ := r ps.length (.slice sa st.length sc) (by rw [List.getElem?_append_right (by omega), h1, Nat.sub_self]; rfl)
      cases e2
      exact ⟨b, 0, sa, sc, rfl, hc, hord, hs.grow (Mem.rv hm)⟩
  · rcases List.mem_append.1 hp with h | h
    · exact hG.len p h
    · rw [List.mem_singleton.1 h]; exact hsl
set_option maxRecDepth 100000 in
set_option maxHeartbeats 4000000 in
theorem sw_9_7 [C : Co Try.prog] {n : Nat} {q : Int} {x0 x1 x2 x20 x21 x22 : Value} :
    SW Try.prog 85 r9a [(0, x0), (1, x1), (2, x2), (7, vInt n), (9, vInt q), (20, x20), (21, x21), (22, x22)] (Mem v [] []) (fun ex F' w => ex = .normal ∧ Sub [(32, .bool (decide (q < 0) || decide (q ≥ (n : Int)))), (0, x0), (1, x1), (2, x2), (7, vInt n), (20, x20), (21, x21), (22, x22)] F' ∧ RV v w) := by
  show SW Try.prog 85 (Code.region 7 _ false) _ _ _
  refine sw_region ?_
  refine ow_val (val_move (v := vInt q) rfl) rfl ?_
  refine ow_val (val_lss_int (a := q) (b := 0) rfl rfl) rfl ?_ (tame_int rfl rfl)
  refine ow_val (val_move (v := .bool (decide (q < 0))) rfl) rfl ?_
  by_cases h : q < 0
  · rw [decide_eq_true h]
    refine ow_guard_no (t := 28) rfl rfl rfl rfl rfl ?_
    refine ow_guard_no (t := 28) rfl rfl rfl rfl rfl ?_
    refine ow_guard_no (t := 28) rfl rfl rfl rfl rfl ?_
    refine ow_val (val_pick_true (v := .bool true) rfl rfl) rfl ?_
    exact ow_nil fun w hw => ⟨rfl, ⟨rfl, rfl, rfl, rfl, rfl, rfl, rfl, rfl, trivial⟩, Mem.rv hw⟩
  · rw [decide_eq_false h]
    refine ow_guard_yes (t := 28) rfl rfl rfl (ow_val (val_move (v := vInt q) rfl) rfl ?_)
    refine ow_guard_yes (t := 28) rfl rfl rfl (ow_val (val_move (v := vInt n) rfl) rfl ?_)
    refine ow_guard_yes (t := 28) rfl rfl rfl (ow_val (val_geq_int (a := q) (b := (n : Int)) rfl rfl) rfl ?_ (tame_int rfl rfl))
    refine ow_val (val_pick_false (v := .bool (decide (q ≥ (n : Int)))) rfl rfl) rfl ?_
    exact ow_nil fun w hw => ⟨rfl, ⟨rfl, rfl, rfl, rfl, rfl, rfl, rfl, rfl, trivial⟩, Mem.rv hw⟩
set_option maxRecDepth 100000 in
set_option maxHeartbeats 4000000 in
theorem sw_9_10 [C : Co Try.prog] {pa sa : Option Addr} {n m pc sc : Nat} {x2 : Value} {pvs : List Value} (h1 : pvs.length = n) (hr : Rd v pa pvs) (ho : ∀ u ∈ pvs, u.oneCell' = true) (hn : n ≤ 1048576) :
    SW Try.prog 85 (cL (cR (cR (cR (cR c9))))) [(0, .slice pa n pc), (1, .slice sa m sc), (2, x2)] (Mem v [] []) (fun ex F' w => ex = .normal ∧ ∃ a c e, RowE (.slice a (n + 1) c) 58 1 (n + 1) (pvs ++ [.slice sa m sc]) e ∧ Sub [(10, .slice a (n + 1) c), (0, .slice pa n pc), (2, x2)] F' ∧ Mem v [] [e] w) := by
  obtain ⟨ti, hi, hz, hsz, hby⟩ : ∃ i, Try.prog.info? 58 = some i ∧ i.zero = some (.slice none 0 0) ∧ i.size = 1 ∧ i.bytes = 24 := ⟨_, rfl, rfl, rfl, rfl⟩
  show SW Try.prog 85 (Code.region 10 _ false) _ _ _
  refine sw_region ?_
  refine ow_make (acts_buildSlice (parts := []) (vs := []) (cs := []) Try.underlying22 Try.sizeOf58 Try.zeroValue58 rfl rfl (by kernel_rfl)) rfl (fun bb hbb => ?_)
  refine ow_val (val_move (v := .slice pa n pc) rfl) rfl ?_
  refine ow_append' (k := 0 + n) (acts_append (size := 1) (bytes := 24) (ys := pvs) 0 rfl rfl rfl (RowE.full (b := bb) (n := 0) (T := 58) (size := 1) (xs := []) rfl (by decide)) rfl Try.underlying22 hi hz hsz hby rfl (by decide) (fun w hw => hr.rv (Mem.rv hw)) (by rw [h1, Nat.mul_one]) ho (by omega) (by omega)) rfl (fun a5 c5 e5 hr5 => ?_)
  rw [Nat.zero_add, List.nil_append] at hr5
  rw [Nat.zero_add]
  refine ow_val (val_move (v := .slice sa m sc) rfl) rfl ?_
  refine ow_make (acts_buildSlice (vs := [(0, .slice sa m sc)]) (cs := [.slice sa m sc]) Try.underlying22 Try.sizeOf58 Try.zeroValue58 rfl rfl (by kernel_rfl)) rfl (fun b2 hb2 => ?_)
  refine ow_append' (k := n + 1) (acts_append (size := 1) (bytes := 24) (ys := [.slice sa m sc]) 1 rfl rfl rfl hr5 rfl Try.underlying22 hi hz hsz hby rfl (by decide) (fun w hm => Rd.own hm (i := 0) rfl rfl) rfl (by intro u hu; simp only [List.mem_cons, List.not_mem_nil, or_false] at hu; subst hu; rfl) (by omega) (by omega)) rfl (fun a6 c6 e6 hr6 => ?_)
  refine ow_val (val_assign (v := .slice a6 (n + 1) c6) rfl) rfl ?_
  exact ow_nil fun w hw => ⟨rfl, a6, c6, e6, hr6, ⟨rfl, rfl, rfl, trivial⟩, hw.forget⟩
set_option maxRecDepth 100000 in
set_option maxHeartbeats 4000000 in
theorem sw_9_23 [C : Co Try.prog] {sb sb2 c1 c2 : Nat} {a1 a2 : Option Addr} {l : List (Int × Int)} (h1 : v.cell? ⟨sb, 1, none⟩ = some (.slice a1 l.length c1)) (h2 : v.cell? ⟨sb2, 1, none⟩ = some (.slice a2 l.length c2)) (hl : l.length ≤ 4611686018427387904) (r1 : Rd v a1 (flatB l)) (r2 : Rd v a2 (flatB l)) :
    SW Try.prog 85 r9b [(11, vPtr sb), (13, vPtr sb2)] (Mem v [] []) (fun ex F' w => ex = .normal ∧ Sub [(6, .bool true)] F' ∧ RV v w) := by
  show SW Try.prog 85 (Code.region 23 _ true) _ _ _
  refine sw_region_lex (Mem v [] []) [] [(0, 0), (1, 0), (2, 0), (3, 1), (4, 0), (5, 0), (6, 0), (7, 1), (8, 2), (9, 0)] (by kernel_rfl) (by kernel_rfl) (fun c F w h => by cases h.1) (fun _ h => h) (fun w h => h.drawn _) ?_
  refine lw_pure rfl (val_move (v := vPtr sb) rfl) rfl ?_
  refine lw_pure rfl (val_nilCheck (a := ⟨sb, 0, none⟩) rfl) rfl ?_ (hT := tame_nilCheck rfl)
  refine lw_pure rfl (val_fieldAddr (b := sb) (o := 0) (e := 1) rfl Try.underlying40 rfl rfl Try.sizeOf32 rfl) rfl ?_
  refine lw_held rfl (val_load rfl Try.isAgg32 (v := .slice a1 l.length c1) (fun w h => cell_rv' h1 (Mem.rv h))) rfl ?_
  refine lw_pure rfl (val_move (v := vPtr sb2) rfl) rfl ?_
  refine lw_pure rfl (val_nilCheck (a := ⟨sb2, 0, none⟩) rfl) rfl ?_ (hT := tame_nilCheck rfl)
  refine lw_pure rfl (val_fieldAddr (b := sb2) (o := 0) (e := 1) rfl Try.underlying40 rfl rfl Try.sizeOf32 rfl) rfl ?_
  refine lw_held rfl (val_load rfl Try.isAgg32 (v := .slice a2 l.length c2) (fun w h => cell_rv' h2 (Mem.rv h))) rfl ?_
  refine lw_call_pure (v := .bool true) rfl (callsTo Try.func18 rfl (by kernel_rfl) rfl) rfl (fun w hm => (notes_v (l1 := l) (l2 := l) (r1.rv (Mem.rv hm)) (r2.rv (Mem.rv hm)) hl).mono fun e u hu => ⟨_, hu.1, by rw [decide_eq_true rfl], mem_of_rv hu.2⟩) ?_
  refine lw_pure rfl (val_assign (v := .bool true) rfl) rfl ?_
  exact lw_nil fun w hw => ⟨rfl, ⟨rfl, trivial⟩, Mem.rv hw⟩
set_option maxRecDepth 100000 in
set_option maxHeartbeats 8000000 in
theorem stranger_p {S : List Frame} (hy : ∀ (F : Go.Sx.Fr) (t : List Item), Sub [(6, .bool true)] F → Pt (fun _ : Unit => coLaw Try.prog Post) 85 (Go.Sx.fr0 9) S () (.code .ret :: t) F (fun w => RV v w)) {qa pa sa : Option Addr} {cap pc sc : Nat} (hG : PrgV v (.slice pa ps.length pc) ps) (hS : VRd v sa (flatB st)) (hsum : (ps.map List.length).sum ≤ 1048576) (hlen : ps.length ≤ 1048576) (hsl : st.length ≤ 1048576) (hQ : QV v qa qs) (l1 : qs.length ≤ 1048576) :
    Pt (fun _ : Unit => coLaw Try.prog Post) 85 (Go.Sx.fr0 9) S () [.code c9] (Go.Sx.slots 0 [.slice pa ps.length pc, .slice sa st.length sc, .slice qa qs.length cap]) (· = v) := by
  letI C : Co Try.prog := coLaw Try.prog Post
  have hyes : ∀ (M : World → Prop) (hM : ∀ w, M w → RV v w) (F : Go.Sx.Fr) (t : List Item), Sub [(6, .bool true)] F → Pt (fun _ : Unit => C) 85 (Go.Sx.fr0 9) S () (.code .ret :: t) F M := fun M hM F t hF => Pt.imp hM (hy F t hF)
  refine Pt.imp (M' := fun w => RV v w) (fun w hw => hw ▸ RV.refl _) (pt_seq (pt_region ?_))
  refine pt_val (by decide) rfl (val_assign (v := .bool false) rfl) rfl ?_
  refine pt_regionEnd (pt_seq (pt_seq (pt_region ?_)))
  refine pt_call (T := fun w r _ u => r = .returned (.bool true) ∧ RV w u) (by decide) rfl (callsTo (xs := []) (vs := []) Try.func12 rfl (by decide) rfl) (by infer_instance) (fun w hw => callI_of_v (awake_v (Post := Post))) (fun t' ht => by cases ht; rfl) (fun w r x' hw => ?_) (fun w ch x' hw a w' hf hl => ?_)
  rotate_left
  · obtain ⟨z, ⟨hz, _⟩, _⟩ := hl; cases hz
  refine Pt.world fun z hz => ?_
  obtain ⟨hr, hz⟩ := hz
  obtain rfl : r = .bool true := by cases hr; rfl
  replace hz := RV.trans hw hz
  clear hr hw
  have hGz := hG.grow hz
  refine Pt.imp (M' := Mem z [] []) (fun u hu => hu ▸ Mem.refl z) ?_
  refine pt_val (by decide) rfl (val_not rfl) rfl (pt_regionEnd (pt_false rfl (pt_skip ?_)))
  refine pt_seq (pt_region ?_)
  refine pt_val (by decide) rfl (val_move (v := .slice pa ps.length pc) rfl) rfl ?_
  refine pt_val (by decide) rfl (val_len (len := ps.length) rfl Try.underlying22) rfl ?_
  refine pt_val (by decide) rfl (val_assign (v := vInt ps.length) rfl) rfl ?_
  refine pt_regionEnd (pt_seq (pt_seq (pt_region ?_)))
  refine pt_val (by decide) rfl (val_move (v := .slice qa qs.length cap) rfl) rfl ?_
  refine pt_val (by decide) rfl (val_len (len := qs.length) rfl Try.underlying23) rfl ?_
  refine pt_val (by decide) rfl (val_move (v := vInt (0 : Nat)) rfl) rfl ?_
  refine pt_regionEnd (pt_block ?_)
  refine pt_loop_inv (fun j : Nat => j ≤ qs.length ∧ ∀ i q, i < j → qs[i]? = some q → 0 ≤ q ∧ q < (ps.length : Int)) (fun j => [(0, .slice pa ps.length pc), (1, .slice sa st.length sc), (2, .slice qa qs.length cap), (7, vInt ps.length), (20, .slice qa qs.length cap), (21, vInt qs.length), (22, vInt j)]) (fun _ => ()) (fun _ u => RV z u) (fun j => qs.length - j) 0 ⟨Nat.zero_le _, fun _ _ h => by omega⟩ ⟨rfl, rfl, rfl, rfl, rfl, rfl, rfl, trivial⟩ rfl (fun _ h => Mem.rv h) ?_
  rintro j ⟨hle, hin⟩ hloop
  refine pt_seq (pt_region ?_)
  refine pt_val (by decide) rfl (val_lss_int (a := (j : Int)) (b := (qs.length : Int)) rfl rfl) rfl ?_ (tame_int rfl rfl)
  refine pt_regionEnd (pt_seq (pt_if rfl (fun hlt => ?_) (fun hge => ?_)))
  · have hj : j < qs.length := by omega
    have hgq : qs[j]? = some qs[j] := List.getElem?_eq_getElem hj
    generalize qs[j] = q at hgq
    obtain ⟨bq, oq, rfl, _, kq⟩ := (hQ.grow hz).cells j q hgq
    refine pt_skip (pt_seq (pt_block (pt_seq (pt_region ?_))))
    refine pt_val (by decide) rfl (val_indexAddr_slice (m := 1) j (oq + j) rfl rfl Try.underlying23 Try.sizeOf3 rfl hj (by omega)) rfl ?_
    refine pt_val (by decide) rfl (val_load rfl Try.isAgg3 (v := vI q) (fun w h => cell_rv' kq h)) rfl ?_
    refine pt_val (by decide) rfl (val_assign (v := vI q) rfl) rfl ?_
    refine pt_regionEnd (pt_seq (Pt.world fun z5 hz5 => ?_))
    refine Pt.weaken (F' := [(0, .slice pa ps.length pc), (1, .slice sa st.length sc), (2, .slice (some ⟨bq, oq, none⟩) qs.length cap), (7, vInt ps.length), (9, vInt q), (20, .slice (some ⟨bq, oq, none⟩) qs.length cap), (21, vInt qs.length), (22, vInt j)]) ⟨rfl, rfl, rfl, rfl, rfl, rfl, rfl, rfl, trivial⟩ (M' := Mem z5 [] []) (fun w hw => hw ▸ Mem.refl z5) ?_
    refine pt_sw (by decide) sw_9_7 (fun F' y hq => ?_) (fun ex F' y hne hq => hne hq.1)
    obtain ⟨-, hF, hy⟩ := hq
    refine Pt.weaken hF (M' := fun w => RV z w) (fun w hw => hw ▸ hz5.trans hy) (pt_cond rfl (fun hs => ?_) (fun hs => pt_skip ?_))
    · refine pt_seq (pt_region (pt_val (by decide) rfl (val_assign (v := .bool true) rfl) rfl (pt_regionEnd ?_)))
      exact hyes _ (fun w hw => hz.trans hw) _ _ ⟨rfl, trivial⟩
    · refine pt_inBlock (pt_region ?_)
      refine pt_val (by decide) rfl (val_add_int (a := (j : Int)) (b := 1) _ rfl rfl rfl (by omega)) rfl ?_ (tame_int rfl rfl)
      refine pt_val (by decide) rfl (val_move (v := vInt (j + 1 : Nat)) rfl) rfl ?_
      refine pt_regionEnd (Pt.weaken ?_ (fun _ h => h) (hloop (j + 1) ⟨hj, fun i q' hi hq' => ?_⟩ (by omega)))
      · exact ⟨rfl, rfl, rfl, rfl, rfl, rfl, rfl, trivial⟩
      · by_cases hij : i < j
        · exact hin i q' hij hq'
        · obtain rfl : i = j := by omega
          rw [hgq] at hq'; cases hq'
          obtain ⟨g1, g2⟩ := Bool.or_eq_false_iff.1 hs
          have g1 := of_decide_eq_false g1
          have g2 := of_decide_eq_false g2
          omega
  have hall : ∀ q ∈ qs, 0 ≤ q ∧ q < (ps.length : Int) := fun q hq => by
    obtain ⟨i, hi⟩ := List.mem_iff_getElem?.1 hq
    have hlt := (List.getElem?_eq_some_iff.1 hi).1
    exact hin i q (by omega) hi
  obtain ⟨pvs, hp1, hp2, hp3, hp4⟩ := prg_cells hGz
  refine pt_exit rfl (pt_seq (Pt.world fun z6 hz6 => ?_))
  refine Pt.weaken (F' := [(0, .slice pa ps.length pc), (1, .slice sa st.length sc), (2, .slice qa qs.length cap)]) ⟨rfl, rfl, rfl, trivial⟩ (M' := Mem z6 [] []) (fun w hw => hw ▸ Mem.refl z6) ?_
  refine pt_sw (by decide) (sw_9_10 hp1 (hp2.rv hz6) hp3 hlen) (fun F' y hq => ?_) (fun ex F' y hne hq => hne hq.1)
  obtain ⟨-, aa, ca, ea, hra, hF, hy2⟩ := hq
  have hGa : PrgV y (.slice aa (ps ++ [st]).length ca) (ps ++ [st]) := prg_snoc (hGz.grow hz6) hp1 (fun i p hp => let ⟨a, c, h1, h2⟩ := hp4 i p hp; ⟨a, c, h1, h2.grow hz6⟩) (hS.grow (hz.trans hz6)) (by omega) hra hy2
  have hpl : (ps ++ [st]).length = ps.length + 1 := by simp
  have hF : Sub [(10, .slice aa (ps ++ [st]).length ca), (0, .slice pa ps.length pc), (2, .slice qa qs.length cap)] F' := by rw [hpl]; exact hF
  replace hz := (hz.trans hz6).trans (Mem.rv hy2)
  refine Pt.weaken hF (M' := fun w => RV y w) (fun w hw => hw ▸ RV.refl y) ?_
  refine pt_seq (pt_seq (pt_region ?_))
  refine pt_val (by decide) rfl (val_move (v := .slice aa (ps ++ [st]).length ca) rfl) rfl ?_
  refine pt_val (by decide) rfl (val_move (v := .slice qa qs.length cap) rfl) rfl ?_
  refine pt_call (T := fun w r _ u => r = .returned (.bool (isFit (ps ++ [st]) qs)) ∧ RV w u) (by decide) rfl (callsTo (xs := [.tmp 40, .tmp 41]) (vs := [.slice aa (ps ++ [st]).length ca, .slice qa qs.length cap]) Try.func13 rfl (by decide) rfl) (by infer_instance) (fun w hw => callI_of_v (fit_v (hGa.grow hw) (by rw [List.map_append, List.sum_append]; simp only [List.map_cons, List.map_nil, List.sum_cons, List.sum_nil]; omega) (by rw [hpl]; omega))) (fun t' ht => by cases ht; rfl) (fun w r x' hw => ?_) (fun w ch x' hw a w' hf hl => ?_)
  rotate_left
  · obtain ⟨z, ⟨hz, _⟩, _⟩ := hl; cases hz
  refine Pt.world fun z1 hz1 => ?_
  obtain ⟨hr, hz1⟩ := hz1
  obtain rfl : r = .bool (isFit (ps ++ [st]) qs) := by cases hr; rfl
  have hv1 : RV y z1 := RV.trans hw hz1
  clear hr hw hz1
  refine Pt.imp (M' := fun w => RV z1 w) (fun u hu => hu ▸ RV.refl z1) ?_
  refine pt_val (by decide) rfl (val_not rfl) rfl (pt_regionEnd (pt_cond rfl (fun hs => ?_) (fun hs => pt_skip ?_)))
  · refine pt_seq (pt_region (pt_val (by decide) rfl (val_assign (v := .bool true) rfl) rfl (pt_regionEnd ?_)))
    exact hyes _ (fun w hw => hz.trans (hv1.trans hw)) _ _ ⟨rfl, trivial⟩
  have hFit : Fit (ps ++ [st]) qs := fit_iff.1 (by simpa using hs)
  have hFq : Fit ps qs := ⟨by have := hFit.n; omega, by have := hFit.s; rw [List.map_append, List.sum_append] at this; omega, hFit.q⟩
  obtain ⟨hl1, hl2⟩ := fin_small (calm := false) hFq
  have hzz := hz.trans hv1
  refine pt_seq (pt_region ?_)
  refine pt_val (by decide) rfl (val_move (v := .slice pa ps.length pc) rfl) rfl ?_
  refine pt_val (by decide) rfl (val_move (v := .slice qa qs.length cap) rfl) rfl ?_
  refine pt_call (T := fun w r _ u => ∃ sb mv, r = .returned (.tuple #[vPtr sb, mv]) ∧ PlayU (.slice pa ps.length pc) w sb mv (finM ps qs false) u) (by decide) rfl (callsTo (xs := [.tmp 45, .tmp 46, .const (.bool false)]) (vs := [.slice pa ps.length pc, .slice qa qs.length cap, .bool false]) Try.func15 rfl (by decide) rfl) (by infer_instance) (fun w hw => callI_of_v (plU_v (Post := Post) hFq ((fun hw => hG.grow (hzz.trans hw)) hw) ((fun hw => hQ.grow (hzz.trans hw)) hw))) (fun t' ht => by cases ht; rfl) (fun w r x' hw => ?_) (fun w ch x' hw a w' hf hl => ?_)
  rotate_left
  · obtain ⟨z, ⟨_, _, hz, _⟩, _⟩ := hl; cases hz
  refine Pt.world fun z2 hz2 => ?_
  obtain ⟨sb, mv, hr, hU⟩ := hz2
  obtain rfl : r = .tuple #[vPtr sb, mv] := by cases hr; rfl
  obtain ⟨a1, c1, a2, c2, a3, c3', hst, r1, r3, rfl, r2, hv2, -, hk2⟩ := hU.facts2
  replace hv2 := hw.trans hv2
  clear hr hw hU
  refine Pt.imp (M' := fun w => RV z2 w) (fun u hu => hu ▸ RV.refl z2) ?_
  refine pt_val (by decide) rfl (val_move (v := .tuple #[vPtr sb, .slice a2 (finM ps qs false).moves.length c2]) rfl) rfl ?_
  refine pt_val (by decide) rfl (val_extract (v := vPtr sb) rfl rfl) rfl ?_
  refine pt_val (by decide) rfl (val_extract (v := .slice a2 (finM ps qs false).moves.length c2) rfl rfl) rfl ?_
  refine pt_val (by decide) rfl (val_assign (v := vPtr sb) rfl) rfl ?_
  refine pt_val (by decide) rfl (val_assign (v := .slice a2 (finM ps qs false).moves.length c2) rfl) rfl ?_
  refine pt_regionEnd ?_
  refine pt_seq (pt_region ?_)
  refine pt_val (by decide) rfl (val_move (v := .slice aa (ps ++ [st]).length ca) rfl) rfl ?_
  refine pt_val (by decide) rfl (val_move (v := .slice qa qs.length cap) rfl) rfl ?_
  refine pt_call (T := fun w r _ u => ∃ sb mv, r = .returned (.tuple #[vPtr sb, mv]) ∧ PlayU (.slice aa (ps ++ [st]).length ca) w sb mv (finM (ps ++ [st]) qs false) u) (by decide) rfl (callsTo (xs := [.tmp 51, .tmp 52, .const (.bool false)]) (vs := [.slice aa (ps ++ [st]).length ca, .slice qa qs.length cap, .bool false]) Try.func15 rfl (by decide) rfl) (by infer_instance) (fun w hw => callI_of_v (plU_v (Post := Post) hFit ((fun hw => hGa.grow (hv1.trans (hv2.trans hw))) hw) ((fun hw => hQ.grow (hzz.trans (hv2.trans hw))) hw))) (fun t' ht => by cases ht; rfl) (fun w r x' hw => ?_) (fun w ch x' hw a w' hf hl => ?_)
  rotate_left
  · obtain ⟨z, ⟨_, _, hz, _⟩, _⟩ := hl; cases hz
  refine Pt.world fun z3 hz2 => ?_
  obtain ⟨sb2, mv, hr, hU⟩ := hz2
  obtain rfl : r = .tuple #[vPtr sb2, mv] := by cases hr; rfl
  obtain ⟨ak1, ck1, ak2, ck2, ak3, ck3, hst2, rk1, rk3, rfl, rk2, hv3, hk1', hk2'⟩ := hU.facts2
  replace hv3 := hw.trans hv3
  clear hr hw hU
  refine Pt.imp (M' := fun w => RV z3 w) (fun u hu => hu ▸ RV.refl z3) ?_
  refine pt_val (by decide) rfl (val_move (v := .tuple #[vPtr sb2, .slice ak2 (finM (ps ++ [st]) qs false).moves.length ck2]) rfl) rfl ?_
  refine pt_val (by decide) rfl (val_extract (v := vPtr sb2) rfl rfl) rfl ?_
  refine pt_val (by decide) rfl (val_extract (v := .slice ak2 (finM (ps ++ [st]) qs false).moves.length ck2) rfl rfl) rfl ?_
  refine pt_val (by decide) rfl (val_assign (v := vPtr sb2) rfl) rfl ?_
  refine pt_val (by decide) rfl (val_assign (v := .slice ak2 (finM (ps ++ [st]) qs false).moves.length ck2) rfl) rfl ?_
  refine pt_regionEnd ?_
  obtain ⟨hbd, hmvs⟩ := stranger_same (st := st) hall
  have h1 : z3.cell? ⟨sb, 1, none⟩ = some (.slice a1 (finM ps qs false).bd.notes.length c1) := cell_rv' (by rw [Go.Sx.cell_of_blk hst]; rfl) hv3
  have h2 : z3.cell? ⟨sb2, 1, none⟩ = some (.slice ak1 (finM (ps ++ [st]) qs false).bd.notes.length ck1) := by rw [Go.Sx.cell_of_blk hst2]; rfl
  have hallv : RV v z3 := hzz.trans (hv2.trans hv3)
  clear hst hst2
  generalize finM ps qs false = mA at *
  generalize finM (ps ++ [st]) qs false = mB at *
  rw [hbd] at h2 rk1
  have hlm : mB.moves.length = mA.moves.length := by rw [hmvs]
  have hsame : ∀ j, j < mA.moves.length → mB.moves.getD j default = mA.moves.getD j default := fun j hj => by rw [hmvs]
  have hlmB : mA.moves.length ≤ 4611686018427387904 := by assumption
  refine pt_seq (pt_seq (pt_region ?_))
  refine pt_val (by decide) rfl (val_move (v := .slice a2 mA.moves.length c2) rfl) rfl ?_
  refine pt_val (by decide) rfl (val_len (len := mA.moves.length) rfl Try.underlying28) rfl ?_
  refine pt_val (by decide) rfl (val_move (v := .slice ak2 mB.moves.length ck2) rfl) rfl ?_
  refine pt_val (by decide) rfl (val_len (len := mB.moves.length) rfl Try.underlying28) rfl ?_
  refine pt_val (by decide) rfl (val_neq_int (a := (mA.moves.length : Int)) (b := (mB.moves.length : Int)) rfl rfl) rfl ?_ (tame_int rfl rfl)
  refine pt_regionEnd (pt_if rfl (fun h => absurd (by rw [hlm]) h) (fun _ => pt_skip ?_))
  refine pt_seq (pt_seq (pt_region ?_))
  refine pt_val (by decide) rfl (val_move (v := .slice a2 mA.moves.length c2) rfl) rfl ?_
  refine pt_val (by decide) rfl (val_len (len := mA.moves.length) rfl Try.underlying28) rfl ?_
  refine pt_val (by decide) rfl (val_move (v := vInt (0 : Nat)) rfl) rfl ?_
  refine pt_regionEnd (pt_block ?_)
  refine pt_loop_inv (fun j : Nat => j ≤ mA.moves.length) (fun j => [(11, vPtr sb), (12, .slice a2 mA.moves.length c2), (13, vPtr sb2), (14, .slice ak2 mB.moves.length ck2), (62, vInt mA.moves.length), (63, vInt j)]) (fun _ => ()) (fun _ z => RV z3 z) (fun j => mA.moves.length - j) 0 (Nat.zero_le _) ⟨rfl, rfl, rfl, rfl, rfl, rfl, trivial⟩ rfl (fun _ h => h) ?_
  rintro j hle hloop
  refine pt_seq (pt_region ?_)
  refine pt_val (by decide) rfl (val_lss_int (a := (j : Int)) (b := (mA.moves.length : Int)) rfl rfl) rfl ?_ (tame_int rfl rfl)
  refine pt_regionEnd (pt_seq (pt_if rfl (fun hlt => ?_) (fun hge => ?_)))
  · have hj : j < mA.moves.length := by omega
    have hj2 : j < mB.moves.length := by omega
    have hsm : mB.moves.getD j default = mA.moves.getD j default := hsame j hj
    obtain ⟨bm, om, rfl, _⟩ := r2 (j * 2) _ (flatM_get (l := mA.moves) (y := mA.moves[j]) (List.getElem?_eq_getElem hj)).1
    obtain ⟨bk, ok, rfl, _⟩ := rk2 (j * 2) _ (flatM_get (l := mB.moves) (y := mB.moves[j]) (List.getElem?_eq_getElem hj2)).1
    refine pt_skip (pt_seq (pt_block (pt_seq (pt_region ?_))))
    refine pt_val (by decide) rfl (val_move (v := vInt j) rfl) rfl ?_
    refine pt_val (by decide) rfl (val_assign (v := vInt j) rfl) rfl ?_
    refine pt_regionEnd (pt_seq ?_)
    refine pt_draw (S := fun u => RV z3 u) 8 [0, 1, 2, 3, 4, 5, 6, 7] [] (by kernel_rfl) (by decide) (by kernel_rfl) (by kernel_rfl) (by kernel_rfl) (fun t => (Go.Sx.go_forced (L := 8) (by kernel_rfl)).trans (congrArg (8 :: ·) Go.Sx.go_end)) (by kernel_rfl) (fun _ h => h) ?_
    refine lz_val rfl (val_move (v := .slice (some ⟨bm, om, none⟩) mA.moves.length c2) rfl) rfl ?_
    refine lz_val rfl (val_move (v := vInt j) rfl) rfl ?_
    refine lz_val rfl (val_indexAddr_slice (m := 2) j (om + j * 2) rfl rfl Try.underlying28 Try.sizeOf43 rfl hj rfl) rfl ?_
    refine lz_val rfl (val_load_elem (cells := fun y : Int × Bool => [vI y.1, .bool y.2]) (l := mA.moves) (o := om) (i := j) rfl Try.isAgg43 Try.sizeOf43 (fun _ _ => rfl) hj rfl (fun w hw => r2.rv (hv3.trans hw))) rfl ?_
    refine lz_val rfl (val_move (v := .slice (some ⟨bk, ok, none⟩) mB.moves.length ck2) rfl) rfl ?_
    refine lz_val rfl (val_move (v := vInt j) rfl) rfl ?_
    refine lz_val rfl (val_indexAddr_slice (m := 2) j (ok + j * 2) rfl rfl Try.underlying28 Try.sizeOf43 rfl hj2 rfl) rfl ?_
    refine lz_val rfl (val_load_elem (cells := fun y : Int × Bool => [vI y.1, .bool y.2]) (l := mB.moves) (o := ok) (i := j) rfl Try.isAgg43 Try.sizeOf43 (fun _ _ => rfl) hj2 rfl (fun w hw => rk2.rv hw)) rfl ?_
    show Pt _ _ _ _ _ _ _ _
    rw [hsm]
    generalize mA.moves.getD j default = x
    refine pt_val (by decide) rfl (val_neq_agg (xs := #[vInt x.1, .bool x.2]) (ys := #[vInt x.1, .bool x.2]) rfl rfl (by kernel_rfl) (fun w => eq43 x.1 x.1 x.2 x.2 w)) rfl ?_ (tame_two (xs := #[vInt x.1, .bool x.2]) (ys := #[vInt x.1, .bool x.2]) rfl rfl (by kernel_rfl) (lin43 x.1 x.1 x.2 x.2) (.inr rfl))
    refine pt_regionEnd (pt_cond rfl (fun hb => ?_) (fun hb => pt_skip (pt_inBlock (pt_region ?_))))
    · simp at hb
    refine pt_val (by decide) rfl (val_add_int (a := (j : Int)) (b := 1) _ rfl rfl rfl (by omega)) rfl ?_ (tame_int rfl rfl)
    refine pt_val (by decide) rfl (val_move (v := vInt (j + 1 : Nat)) rfl) rfl ?_
    refine pt_regionEnd (Pt.weaken ?_ (fun _ h => h) (hloop (j + 1) hj (by omega)))
    exact ⟨rfl, rfl, rfl, rfl, rfl, rfl, trivial⟩
  · refine pt_exit rfl (pt_seq (Pt.world fun z5 hz5 => ?_))
    refine Pt.weaken (F' := [(11, vPtr sb), (13, vPtr sb2)]) ⟨rfl, rfl, trivial⟩ (M' := Mem z5 [] []) (fun w hw => hw ▸ Mem.refl z5) ?_
    refine pt_sw (by decide) (sw_9_23 (l := mA.bd.notes) (cell_rv' h1 hz5) (cell_rv' h2 hz5) hl1 (r1.rv (hv3.trans hz5)) (rk1.rv hz5)) (fun F' q hq => ?_) (fun ex F' q hne hq => hne hq.1)
    obtain ⟨-, hF', hq⟩ := hq
    exact hyes (fun w => w = q) (fun w hw => hw ▸ hallv.trans (hz5.trans hq)) _ _ hF'
end
end Go.Bt
end
