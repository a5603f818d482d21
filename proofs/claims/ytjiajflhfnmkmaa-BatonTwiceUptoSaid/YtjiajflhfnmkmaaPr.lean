/- A PLAY OF THE BATON: what the row rests on. -/
import Derived.Test.YtjiajflhfnmkmaaPq
set_option linter.unusedVariables false
set_option linter.unusedSimpArgs false
set_option linter.unusedSectionVars false
section
namespace Go.Bt
variable [Gnd]
open Go.Conc Go.ConcN Go.RowKit Go.Proofs
open Go.Sx (Rly RV pz pzo pz_heap spec isWg Gud Co blk RowE Rd Mem CallV vInt SW Sub callV_of_callI callI_of_pt CallI Pt pt_seq pt_sw pt_back pt_ret pt_region pt_regionEnd pt_val pt_block pt_inBlock pt_exit pt_if pt_cond pt_skip pt_do pt_draw pt_call pt_act pt_loop_inv val_assign val_move val_load val_nilCheck val_fieldAddr val_len val_geq_int val_lss_int val_eql_int val_add_int val_load_elem val_load_at val_indexAddr_slice val_pick_true val_pick_false acts_alloc does_store_all does_store_to tame_nilCheck tame_int callsTo res_nothing res_slot Lf ReI Stb re_fall pick_v slots rnote_sw rend_sw rowE_set look upd pick keys sw_region sw_region_lex lw_pure lw_held lw_nil lw_do lw_call_pure lw_new mem_of_rv ow_val ow_nil ow_guard_yes ow_guard_no)
section
variable [C : Co Try.prog]
noncomputable def c37_0 : Code := cL (cL (cB (cB (cL (Try.f37.body.getD .skip)))))
set_option maxRecDepth 100000 in
set_option maxHeartbeats 4000000 in
theorem sw_37_0 {v0 : World} {sb a k j n n1 pb po pc b1 c1 pl qc : Nat} {q : Option Addr} {s2 s3 bs ms : Value} {xs : List Value} {L : List Go.Sx.Ent} (han : a < n) (han1 : a < n1) (hx : xs[a]? = some (vInt j)) (hc : v0.cell? ⟨pb, po + a, none⟩ = some (.slice q pl qc)) :
    SW Try.prog 114 c37_0 [(0, vPtr sb), (1, vInt a), (2, vInt k)] (Mem v0 [] (some (sb, blk [.slice (some ⟨pb, po, none⟩) n pc, .slice (some ⟨b1, 0, none⟩) n1 c1, s2, s3, bs, ms] 35) :: some (b1, blk xs 3) :: L)) (fun ex F' w => ex = .normal ∧ Sub ((22, .bool (decide ((j : Nat) < (pl : Nat)))) :: [(0, vPtr sb), (1, vInt a), (2, vInt k)]) F' ∧ Mem v0 [] (some (sb, blk [.slice (some ⟨pb, po, none⟩) n pc, .slice (some ⟨b1, 0, none⟩) n1 c1, s2, s3, bs, ms] 35) :: some (b1, blk xs 3) :: L) w) := by
  show SW Try.prog 114 (Code.region 0 _ true) _ _ _
  refine sw_region_lex (fun w => Mem v0 [] (some (sb, blk [.slice (some ⟨pb, po, none⟩) n pc, .slice (some ⟨b1, 0, none⟩) n1 c1, s2, s3, bs, ms] 35) :: some (b1, blk xs 3) :: L) w) [] [(0, 0), (1, 0), (2, 0), (3, 1), (4, 0), (5, 0), (6, 1), (7, 0), (8, 0), (9, 0), (10, 1), (11, 0), (12, 0), (13, 1), (14, 0), (15, 0)] (by kernel_rfl) (by kernel_rfl) (fun c F w h => by cases h.1) (fun _ h => h) (fun w h => h.drawn _) ?_
  refine lw_pure rfl (val_move (v := vPtr sb) rfl) rfl ?_
  refine lw_pure rfl (val_nilCheck (a := ⟨sb, 0, none⟩) rfl) rfl ?_ (hT := tame_nilCheck rfl)
  refine lw_pure rfl (val_fieldAddr (b := sb) (o := 0) (e := 1) rfl Try.underlying35 rfl rfl Try.sizeOf23 rfl) rfl ?_
  refine lw_held rfl (val_load_at (v := .slice (some ⟨b1, 0, none⟩) n1 c1) 0 rfl rfl Try.isAgg23 rfl) rfl ?_
  refine lw_pure rfl (val_move (v := vInt (a : Nat)) rfl) rfl ?_
  refine lw_pure rfl (val_indexAddr_slice (m := 1) a a rfl rfl Try.underlying23 Try.sizeOf3 rfl han1 (by omega)) rfl ?_
  refine lw_held rfl (val_load_at (v := vInt (j : Nat)) 1 rfl rfl Try.isAgg3 hx) rfl ?_
  refine lw_pure rfl (val_move (v := vPtr sb) rfl) rfl ?_
  refine lw_pure rfl (val_nilCheck (a := ⟨sb, 0, none⟩) rfl) rfl ?_ (hT := tame_nilCheck rfl)
  refine lw_pure rfl (val_fieldAddr (b := sb) (o := 0) (e := 0) rfl Try.underlying35 rfl rfl Try.sizeOf22 rfl) rfl ?_
  refine lw_held rfl (val_load_at (v := .slice (some ⟨pb, po, none⟩) n pc) 0 rfl rfl Try.isAgg22 rfl) rfl ?_
  refine lw_pure rfl (val_move (v := vInt (a : Nat)) rfl) rfl ?_
  refine lw_pure rfl (val_indexAddr_slice (m := 1) a (po + a) rfl rfl Try.underlying22 Try.sizeOf58 rfl han (by omega)) rfl ?_
  refine lw_held rfl (val_load rfl Try.isAgg58 (v := .slice q pl qc) (fun w h => h.cell_some hc)) rfl ?_
  refine lw_pure rfl (val_len (len := pl) rfl Try.underlying58) rfl ?_
  refine lw_pure rfl (val_lss_int (a := (j : Int)) (b := (pl : Int)) rfl rfl) rfl ?_ (hT := tame_int rfl rfl)
  exact lw_nil fun w hw => ⟨rfl, ⟨by show some (Value.bool _) = _; simp, rfl, rfl, rfl, trivial⟩, hw⟩
noncomputable def c37_14 : Code := match Try.f37.body with
  | some (.seq (.block _ (.loop (.seq _ (.block _ (.seq _ (.seq (.block _ (.seq _ (.cond _ _ (.seq _ (.cond _ _ (.seq _ (.cond _ _ (.seq _ (.cond _ _ (.seq c _)))))))))) _)))))) _) => c
  | _ => .skip
set_option maxRecDepth 100000 in
set_option maxHeartbeats 4000000 in
theorem sw_37_14 {v0 : World} {sb a k t : Nat} {o1 o2 : Int} {L : List Go.Sx.Ent} : SW Try.prog 114 c37_14 ((6, vPtr t) :: [(0, vPtr sb), (1, vInt a), (2, vInt k)]) (Mem v0 [] (some (t, blk [vI o1, vI o2] 61) :: L)) (fun ex F' w => ex = .normal ∧ Sub ((90, .bool (decide (o1 = 7 ∨ o1 = 11))) :: [(0, vPtr sb), (1, vInt a), (2, vInt k)]) F' ∧ Mem v0 [] (some (t, blk [vI o1, vI o2] 61) :: L) w) := by
  show SW Try.prog 114 (Code.region 14 _ false) _ _ _
  refine sw_region ?_
  refine ow_val (val_fieldAddr (b := t) (o := 0) (e := 0) rfl Try.underlying61 rfl rfl Try.sizeOf3 rfl) rfl ?_
  refine ow_val (val_load_at (v := vI o1) 0 rfl rfl Try.isAgg3 rfl) rfl ?_
  refine ow_val (val_eql_int (a := o1) (b := 7) rfl rfl) rfl ?_ (tame_int rfl rfl)
  refine ow_val (val_move (v := .bool (decide (o1 = 7))) rfl) rfl ?_
  by_cases h7 : o1 = 7
  · rw [decide_eq_true h7]
    refine ow_guard_no (t := 94) rfl rfl rfl rfl rfl ?_
    refine ow_guard_no (t := 94) rfl rfl rfl rfl rfl ?_
    refine ow_guard_no (t := 94) rfl rfl rfl rfl rfl ?_
    refine ow_val (val_pick_true (v := .bool true) rfl rfl) rfl ?_
    refine ow_val (val_assign (v := .bool true) rfl) rfl ?_
    exact ow_nil fun w hw => ⟨rfl, ⟨by show some (Value.bool _) = _; simp [h7], rfl, rfl, rfl, trivial⟩, hw⟩
  · rw [decide_eq_false h7]
    refine ow_guard_yes (t := 94) rfl rfl rfl (ow_val (val_fieldAddr (b := t) (o := 0) (e := 0) rfl Try.underlying61 rfl rfl Try.sizeOf3 rfl) rfl ?_)
    refine ow_guard_yes (t := 94) rfl rfl rfl (ow_val (val_load_at (v := vI o1) 0 rfl rfl Try.isAgg3 rfl) rfl ?_)
    refine ow_guard_yes (t := 94) rfl rfl rfl (ow_val (val_eql_int (a := o1) (b := 11) rfl rfl) rfl ?_ (tame_int rfl rfl))
    refine ow_val (val_pick_false (v := .bool (decide (o1 = 11))) rfl rfl) rfl ?_
    refine ow_val (val_assign (v := .bool (decide (o1 = 11))) rfl) rfl ?_
    exact ow_nil fun w hw => ⟨rfl, ⟨by show some (Value.bool _) = _; simp [h7], rfl, rfl, rfl, trivial⟩, hw⟩
omit C in
theorem mat_pl {v0 w : World} {sb a : Nat} {pv s1 s2 s3 bs ms : Value} {e1 e2 e3 eb em : Go.Sx.Ent} {acs : List Ac} {B : Bd} {mv : List (Int × Bool)} {c : Ac} {x : Int} (ha : acs[a]? = some c) (h1 : RowE s1 3 1 acs.length ((plL acs).set a (vI x)) e1) (h2 : RowE s2 4 1 acs.length (wtL acs) e2) (h3 : RowE s3 4 1 acs.length (ovL acs) e3)
    (h4 : RowE bs 56 2 B.notes.length (flatB B.notes) eb) (h5 : RowE ms 66 2 mv.length (flatM mv) em) (hw : Mem v0 [] [some (sb, blk [pv, s1, s2, s3, bs, ms] 35), e1, e2, e3, eb, em] w) : MAt v0 sb pv (acs.set a { c with pl := x }) B mv w := by
  have e1' : plL (acs.set a { c with pl := x }) = (plL acs).set a (vI x) := by unfold plL; rw [List.map_set]
  have e2' : wtL (acs.set a { c with pl := x }) = wtL acs := by unfold wtL; rw [List.map_set]; exact set_same (by rw [List.getElem?_map, ha]; rfl)
  have e3' : ovL (acs.set a { c with pl := x }) = ovL acs := by unfold ovL; rw [List.map_set]; exact set_same (by rw [List.getElem?_map, ha]; rfl)
  exact ⟨_, _, _, _, _, _, _, _, _, _, by rw [e1', List.length_set]; exact h1, by rw [e2', List.length_set]; exact h2, by rw [e3', List.length_set]; exact h3, h4, h5, hw⟩
omit C in
theorem mat_wt {v0 w : World} {sb a : Nat} {pv s1 s2 s3 bs ms : Value} {e1 e2 e3 eb em : Go.Sx.Ent} {acs : List Ac} {B : Bd} {mv : List (Int × Bool)} {c : Ac} {x : Bool} (ha : acs[a]? = some c) (h1 : RowE s1 3 1 acs.length (plL acs) e1) (h2 : RowE s2 4 1 acs.length ((wtL acs).set a (.bool x)) e2) (h3 : RowE s3 4 1 acs.length (ovL acs) e3)
    (h4 : RowE bs 56 2 B.notes.length (flatB B.notes) eb) (h5 : RowE ms 66 2 mv.length (flatM mv) em) (hw : Mem v0 [] [some (sb, blk [pv, s1, s2, s3, bs, ms] 35), e1, e2, e3, eb, em] w) : MAt v0 sb pv (acs.set a { c with waits := x }) B mv w := by
  have e1' : plL (acs.set a { c with waits := x }) = plL acs := by unfold plL; rw [List.map_set]; exact set_same (by rw [List.getElem?_map, ha]; rfl)
  have e2' : wtL (acs.set a { c with waits := x }) = (wtL acs).set a (.bool x) := by unfold wtL; rw [List.map_set]
  have e3' : ovL (acs.set a { c with waits := x }) = ovL acs := by unfold ovL; rw [List.map_set]; exact set_same (by rw [List.getElem?_map, ha]; rfl)
  exact ⟨_, _, _, _, _, _, _, _, _, _, by rw [e1', List.length_set]; exact h1, by rw [e2', List.length_set]; exact h2, by rw [e3', List.length_set]; exact h3, h4, h5, hw⟩
omit C in
theorem drop_get {l : List Ins} {j : Nat} {o : Ins} (h : l[j]? = some o) : l.drop j = o :: l.drop (j + 1) := by
  obtain ⟨h1, h2⟩ := List.getElem?_eq_some_iff.1 h
  rw [List.drop_eq_getElem_cons h1, h2]
omit C in
theorem pl_at {acs : List Ac} {a : Nat} {c : Ac} {rest : List Value} {j : Nat} (ha : acs[a]? = some c) (hpl : c.pl = (j : Int)) : (plL acs ++ rest)[a]? = some (vInt j) := by
  rw [List.getElem?_append_left (by unfold plL; rw [List.length_map]; exact (List.getElem?_eq_some_iff.1 ha).1)]
  unfold plL; rw [List.getElem?_map, ha, Option.map_some, hpl]; rfl
noncomputable def c37 : Code := Try.f37.body.getD .skip
noncomputable def c37l : Code := cB (cB (cL c37))
noncomputable def c37b : Code := cB (cR c37l)
set_option maxRecDepth 100000 in
set_option maxHeartbeats 8000000 in
/-- run. -/
theorem rrun_v {v0 v : World} {sb a k j0 : Nat} {pv : Value} {ps : List (List Ins)} {acs : List Ac} {B0 : Bd} {mv : List (Int × Bool)} (hG : PrgV v0 pv ps) (hn : acs.length = ps.length) (ha : acs[a]? = some ⟨(j0 : Int), false, false⟩) (hj0 : j0 ≤ (ps.getD a []).length) (hlen : (ps.getD a []).length ≤ 4611686018427387904) (hB : B0.notes.length + ((ps.getD a []).length - j0) ≤ 8796093022207) (hM : MAt v0 sb pv acs B0 mv v) :
    CallV Try.prog 37 #[vPtr sb, vInt a, vInt k] v (fun r u => r = .returned (.tuple #[]) ∧ MAt v0 sb pv (acs.set a (runL a k ((ps.getD a []).drop j0) j0 B0).1) (runL a k ((ps.getD a []).drop j0) j0 B0).2 mv u) := by
  have hGG := hG
  obtain ⟨pa, pc, rfl, hp⟩ := hG.ex
  have han : a < acs.length := (List.getElem?_eq_some_iff.1 ha).1
  obtain ⟨pb, po, a', qc, rfl, hc, hrd⟩ := prog_at hp (i := a) (by omega)
  generalize hpp : ps.getD a [] = p at *
  refine callV_of_callI (callI_of_pt (vs := [vPtr sb, vInt a, vInt k]) Try.func37 rfl rfl fun cf cs g1 g2 => ?_)
  have hself : ∀ c : Ac, (acs.set a c)[a]? = some c := fun c => List.getElem?_set_self han
  have hset : ∀ c c' : Ac, (acs.set a c).set a c' = acs.set a c' := fun c c' => List.set_set ..
  refine pt_seq (pt_block ?_)
  refine pt_loop_inv (σ := Nat × Bd) (fun y => runL a k (p.drop j0) j0 B0 = runL a k (p.drop y.1) y.1 y.2 ∧ y.1 ≤ p.length ∧ y.2.notes.length + (p.length - y.1) ≤ 8796093022207) (fun _ => [(0, vPtr sb), (1, vInt a), (2, vInt k)]) (fun _ => ()) (fun y z => MAt v0 sb (.slice (some ⟨pb, po, none⟩) ps.length pc) (acs.set a ⟨(y.1 : Int), false, false⟩) y.2 mv z) (fun y => p.length - y.1) (j0, B0) ⟨rfl, hj0, hB⟩ ⟨rfl, rfl, rfl, trivial⟩ rfl (fun w hw => by subst hw; show MAt _ _ _ (acs.set a _) _ _ _; rw [set_same ha]; exact hM) ?_
  rintro ⟨j, B⟩ ⟨hR, hle, hbd⟩ hloop
  simp only at hR hle hbd
  show Pt _ _ _ _ _ _ _ (fun z => MAt v0 sb (.slice (some ⟨pb, po, none⟩) ps.length pc) (acs.set a ⟨(j : Int), false, false⟩) B mv z)
  -- the next instruction
  have hnext : ∀ (B' : Bd) (F : Go.Sx.Fr), Sub [(0, vPtr sb), (1, vInt a), (2, vInt k)] F → j < p.length → runL a k (p.drop j0) j0 B0 = runL a k (p.drop (j + 1)) (j + 1) B' → B'.notes.length + (p.length - (j + 1)) ≤ 8796093022207 → Pt (fun _ : Unit => C) 114 (Go.Sx.fr0 37) (cf :: cs) () [.inBlock 2, .code (cR (cR c37b)), .inBlock 1, .inLoop c37l, .inBlock 0, .code (cR c37)] F (fun z => MAt v0 sb (.slice (some ⟨pb, po, none⟩) ps.length pc) (acs.set a ⟨(j : Int), false, false⟩) B' mv z) := by
    intro B' F hF hj hR' hbd'
    refine Pt.weaken hF (fun _ h => h) (pt_inBlock (Pt.world fun w hM => ?_))
    obtain ⟨s1, s2, s3, bs, ms, e1, e2, e3, eb, em, h1, h2, h3, h4, h5, hm⟩ := hM.ex
    rw [List.length_set] at h1
    obtain ⟨b1, c1, rest1, rfl, rfl, hlt1, hset1⟩ := rowE_set h1 han
    have hx := pl_at (rest := rest1) (hself ⟨(j : Int), false, false⟩) rfl
    have hs1 := hset1 (vInt (j + 1 : Nat))
    refine Pt.imp (fun u hu => hu ▸ hm) (pt_region ?_)
    refine pt_val (by decide) rfl (val_move (v := vPtr sb) rfl) rfl ?_
    refine pt_val (by decide) rfl (val_nilCheck (a := ⟨sb, 0, none⟩) rfl) rfl ?_ (tame_nilCheck rfl)
    refine pt_val (by decide) rfl (val_fieldAddr (b := sb) (o := 0) (e := 1) rfl Try.underlying35 rfl rfl Try.sizeOf23 rfl) rfl ?_
    refine pt_val (by decide) rfl (val_load_at (v := .slice (some ⟨b1, 0, none⟩) acs.length c1) 0 rfl rfl Try.isAgg23 rfl) rfl ?_
    refine pt_val (by decide) rfl (val_move (v := vInt (a : Nat)) rfl) rfl ?_
    refine pt_val (by decide) rfl (val_indexAddr_slice (m := 1) a a rfl rfl Try.underlying23 Try.sizeOf3 rfl han (by omega)) rfl ?_
    refine pt_val (by decide) rfl (val_load_at (v := vInt (j : Nat)) 1 rfl rfl Try.isAgg3 hx) rfl ?_
    refine pt_val (by decide) rfl (val_add_int (a := (j : Int)) (b := 1) _ rfl rfl rfl (by omega)) rfl ?_ (tame_int rfl rfl)
    refine pt_val (by decide) rfl (val_indexAddr_slice (m := 1) a a rfl rfl Try.underlying23 Try.sizeOf3 rfl han (by omega)) rfl ?_
    refine pt_do (by decide) rfl (does_store_to (v := vInt (j + 1 : Nat)) _ 1 rfl rfl rfl rfl Try.sizeOf3 hlt1 rfl) fun _ _ => ?_
    refine pt_regionEnd (pt_inBlock (Pt.weaken (F' := [(0, vPtr sb), (1, vInt a), (2, vInt k)]) ⟨rfl, rfl, rfl, trivial⟩ (fun z hz => ?_) (hloop (j + 1, B') ⟨hR', by omega, by simpa using hbd'⟩ (by simp only; omega))))
    have := mat_pl (x := (j + 1 : Nat)) (hself ⟨(j : Int), false, false⟩) (by rw [List.length_set]; exact hs1) h2 h3 h4 h5 hz
    rw [hset] at this
    exact this
  -- the end
  have hret : ∀ (c : Ac) (B' : Bd) (F : Go.Sx.Fr) (t : List Item), runL a k (p.drop j0) j0 B0 = (c, B') → Pt (fun _ : Unit => C) 114 (Go.Sx.fr0 37) (cf :: cs) () (.code .ret :: t) F (fun z => MAt v0 sb (.slice (some ⟨pb, po, none⟩) ps.length pc) (acs.set a c) B' mv z) := by
    intro c B' F t hR'
    exact pt_ret (fn := Try.f37) (v := .tuple #[]) Try.func37 rfl (fun a _ => res_nothing rfl a) fun w hw => g1 _ () w (hw.mono fun z hz => ⟨rfl, by rw [hR']; exact hz⟩)
  refine Pt.world fun w hM => ?_
  obtain ⟨s1, s2, s3, bs, ms, e1, e2, e3, eb, em, h1, h2, h3, h4, h5, hm⟩ := hM.ex
  rw [List.length_set] at h1
  obtain ⟨b1, c1, rest1, rfl, rfl, hlt1, hset1⟩ := rowE_set h1 han
  have hx := pl_at (rest := rest1) (hself ⟨(j : Int), false, false⟩) rfl
  have hback : ∀ u, Mem v0 [] [some (sb, blk [.slice (some ⟨pb, po, none⟩) ps.length pc, .slice (some ⟨b1, 0, none⟩) acs.length c1, s2, s3, bs, ms] 35), some (b1, blk (plL (acs.set a ⟨(j : Int), false, false⟩) ++ rest1) 3), e2, e3, eb, em] u → MAt v0 sb (.slice (some ⟨pb, po, none⟩) ps.length pc) (acs.set a ⟨(j : Int), false, false⟩) B mv u := fun u hu => ⟨_, _, _, _, _, _, _, _, _, _, by rw [List.length_set]; exact h1, h2, h3, h4, h5, hu⟩
  refine Pt.imp (fun u hu => hu ▸ hm) (pt_seq (pt_seq ?_))
  refine pt_sw (by decide) (sw_37_0 (by omega) han hx hc) (fun F' z hq => ?_) (fun ex F' z hne hq => hne hq.1)
  obtain ⟨-, hF, hz⟩ := hq
  refine Pt.weaken hF (fun u hu => hu ▸ hz) ?_
  clear hF hz
  refine pt_if rfl (fun hlt => ?_) (fun hge => ?_)
  · have hgo := get_getD hlt
    generalize p.getD j default = o at hgo
    obtain ⟨q, qo, rfl, _⟩ := hrd (2 * j) _ (flatB_get hgo).1
    rw [drop_get hgo] at hR
    refine pt_skip (pt_block (pt_seq ?_))
    refine Pt.weaken (F' := [(0, vPtr sb), (1, vInt a), (2, vInt k)]) ⟨rfl, rfl, rfl, trivial⟩ (fun _ h => h) ?_
    refine pt_sw (by decide) (sw_fetch37 (by omega) han hx hc hgo (fun w hw k y hy => let ⟨b', o', e1, e2, _⟩ := hrd k y hy; ⟨b', o', e1, cell_rv' e2 hw⟩)) (fun F' z hq => ?_) (fun ex F' z hne hq => hne hq.1)
    obtain ⟨-, t, hF, hz⟩ := hq
    refine Pt.weaken hF (fun u hu => hu ▸ hz) (pt_seq (pt_block (pt_seq (pt_region ?_))))
    clear hF hz
    refine pt_val (by decide) rfl (val_fieldAddr (b := t) (o := 0) (e := 0) rfl Try.underlying61 rfl rfl Try.sizeOf3 rfl) rfl ?_
    refine pt_val (by decide) rfl (val_load_at (v := vI o.1) 0 rfl rfl Try.isAgg3 rfl) rfl ?_
    refine pt_val (by decide) rfl (val_eql_int (a := o.1) (b := 1) rfl rfl) rfl ?_ (tame_int rfl rfl)
    refine pt_val (by decide) rfl (val_assign (v := .bool (decide (o.1 = 1))) rfl) rfl ?_
    refine pt_regionEnd (pt_if rfl (fun h1' => ?_) (fun h1' => ?_))
    · -- Write
      rw [runL, if_pos h1'] at hR
      refine pt_region ?_
      refine pt_val (by decide) rfl (val_move (v := vPtr sb) rfl) rfl ?_
      refine pt_val (by decide) rfl (val_move (v := vInt (a : Nat)) rfl) rfl ?_
      refine pt_val (by decide) rfl (val_fieldAddr (b := t) (o := 0) (e := 1) rfl Try.underlying61 rfl rfl Try.sizeOf3 rfl) rfl ?_
      refine pt_val (by decide) rfl (val_load_at (v := vI o.2) 0 rfl rfl Try.isAgg3 rfl) rfl ?_
      refine pt_call (T := fun w r _ u => r = .returned (.tuple #[]) ∧ MAt v0 sb (.slice (some ⟨pb, po, none⟩) ps.length pc) (acs.set a ⟨(j : Int), false, false⟩) (B.note a o.2 k) mv u) (by decide) rfl (callsTo (xs := [.tmp 43, .tmp 44, .tmp 46]) (vs := [vPtr sb, vInt a, vI o.2]) Try.func65 rfl (by decide) rfl) (by infer_instance) (fun w hw => callI_of_v (rnoteM_v (k := (k : Int)) (by omega) (hback _ hw.forget))) (fun t' ht => by cases ht; rfl) (fun w r x' hw => ?_) (fun w ch x' hw a w' hf hl => ?_)
      · exact Pt.imp (fun u hu => hu.2) (pt_regionEnd (hnext (B.note a o.2 k) _ ⟨rfl, rfl, rfl, trivial⟩ hlt hR (by simp only [Bd.note, List.length_append, List.length_singleton]; omega)))
      · obtain ⟨z, ⟨hz, _⟩, _⟩ := hl; cases hz
    refine pt_seq (pt_region ?_)
    refine pt_val (by decide) rfl (val_fieldAddr (b := t) (o := 0) (e := 0) rfl Try.underlying61 rfl rfl Try.sizeOf3 rfl) rfl ?_
    refine pt_val (by decide) rfl (val_load_at (v := vI o.1) 0 rfl rfl Try.isAgg3 rfl) rfl ?_
    refine pt_val (by decide) rfl (val_eql_int (a := o.1) (b := 9) rfl rfl) rfl ?_ (tame_int rfl rfl)
    refine pt_val (by decide) rfl (val_assign (v := .bool (decide (o.1 = 9))) rfl) rfl ?_
    refine pt_regionEnd (pt_if rfl (fun h9' => ?_) (fun h9' => ?_))
    · -- Pick
      rw [runL, if_neg h1', if_pos h9'] at hR
      refine pt_region ?_
      refine pt_val (by decide) rfl (val_move (v := vPtr sb) rfl) rfl ?_
      refine pt_val (by decide) rfl (val_move (v := vInt (a : Nat)) rfl) rfl ?_
      refine pt_val (by decide) rfl (val_move (v := vInt (k : Nat)) rfl) rfl ?_
      refine pt_call (T := fun w r _ u => r = .returned (.tuple #[]) ∧ MAt v0 sb (.slice (some ⟨pb, po, none⟩) ps.length pc) (acs.set a ⟨(j : Int), false, false⟩) (B.note a k k) mv u) (by decide) rfl (callsTo (xs := [.tmp 52, .tmp 53, .tmp 54]) (vs := [vPtr sb, vInt a, vI k]) Try.func65 rfl (by decide) rfl) (by infer_instance) (fun w hw => callI_of_v (rnoteM_v (k := (k : Int)) (by omega) (hback _ hw.forget))) (fun t' ht => by cases ht; rfl) (fun w r x' hw => ?_) (fun w ch x' hw a w' hf hl => ?_)
      · exact Pt.imp (fun u hu => hu.2) (pt_regionEnd (hnext (B.note a k k) _ ⟨rfl, rfl, rfl, trivial⟩ hlt hR (by simp only [Bd.note, List.length_append, List.length_singleton]; omega)))
      · obtain ⟨z, ⟨hz, _⟩, _⟩ := hl; cases hz
    refine pt_seq (pt_region ?_)
    refine pt_val (by decide) rfl (val_fieldAddr (b := t) (o := 0) (e := 0) rfl Try.underlying61 rfl rfl Try.sizeOf3 rfl) rfl ?_
    refine pt_val (by decide) rfl (val_load_at (v := vI o.1) 0 rfl rfl Try.isAgg3 rfl) rfl ?_
    refine pt_val (by decide) rfl (val_eql_int (a := o.1) (b := 2) rfl rfl) rfl ?_ (tame_int rfl rfl)
    refine pt_val (by decide) rfl (val_assign (v := .bool (decide (o.1 = 2))) rfl) rfl ?_
    refine pt_regionEnd (pt_if rfl (fun h2' => ?_) (fun h2' => ?_))
    · -- Step
      rw [runL, if_neg h1', if_neg h9', if_pos h2'] at hR
      have hs1 := hset1 (vInt (j + 1 : Nat))
      refine Pt.imp (M' := Mem v0 [] [some (sb, blk [.slice (some ⟨pb, po, none⟩) ps.length pc, .slice (some ⟨b1, 0, none⟩) acs.length c1, s2, s3, bs, ms] 35), some (b1, blk (plL (acs.set a ⟨(j : Int), false, false⟩) ++ rest1) 3), e2, e3, eb, em]) (fun u hu => hu.forget) (pt_seq (pt_region ?_))
      refine pt_val (by decide) rfl (val_move (v := vPtr sb) rfl) rfl ?_
      refine pt_val (by decide) rfl (val_nilCheck (a := ⟨sb, 0, none⟩) rfl) rfl ?_ (tame_nilCheck rfl)
      refine pt_val (by decide) rfl (val_fieldAddr (b := sb) (o := 0) (e := 1) rfl Try.underlying35 rfl rfl Try.sizeOf23 rfl) rfl ?_
      refine pt_val (by decide) rfl (val_load_at (v := .slice (some ⟨b1, 0, none⟩) acs.length c1) 0 rfl rfl Try.isAgg23 rfl) rfl ?_
      refine pt_val (by decide) rfl (val_move (v := vInt (a : Nat)) rfl) rfl ?_
      refine pt_val (by decide) rfl (val_indexAddr_slice (m := 1) a a rfl rfl Try.underlying23 Try.sizeOf3 rfl han (by omega)) rfl ?_
      refine pt_val (by decide) rfl (val_load_at (v := vInt (j : Nat)) 1 rfl rfl Try.isAgg3 hx) rfl ?_
      refine pt_val (by decide) rfl (val_add_int (a := (j : Int)) (b := 1) _ rfl rfl rfl (by omega)) rfl ?_ (tame_int rfl rfl)
      refine pt_val (by decide) rfl (val_indexAddr_slice (m := 1) a a rfl rfl Try.underlying23 Try.sizeOf3 rfl han (by omega)) rfl ?_
      refine pt_do (by decide) rfl (does_store_to (v := vInt (j + 1 : Nat)) _ 1 rfl rfl rfl rfl Try.sizeOf3 hlt1 rfl) fun _ _ => ?_
      refine pt_regionEnd (Pt.imp (fun z hz => ?_) (hret ⟨(j + 1 : Nat), false, false⟩ B _ _ hR))
      have := mat_pl (x := (j + 1 : Nat)) (hself ⟨(j : Int), false, false⟩) (by rw [List.length_set]; exact hs1) h2 h3 h4 h5 hz
      rw [hset] at this
      exact this
    refine pt_seq (pt_region ?_)
    refine pt_val (by decide) rfl (val_fieldAddr (b := t) (o := 0) (e := 0) rfl Try.underlying61 rfl rfl Try.sizeOf3 rfl) rfl ?_
    refine pt_val (by decide) rfl (val_load_at (v := vI o.1) 0 rfl rfl Try.isAgg3 rfl) rfl ?_
    refine pt_call (T := fun w r _ u => r = .returned (.bool (isUntil o.1)) ∧ RV w u) (by decide) rfl (callsTo (xs := [.tmp 71]) (vs := [vI o.1]) Try.func66 rfl (by decide) rfl) (by infer_instance) (fun w hw => callI_of_v runtil_v) (fun t' ht => by cases ht; rfl) (fun w r x' hw => ?_) (fun w ch x' hw a w' hf hl => ?_)
    rotate_left
    · obtain ⟨z, ⟨hz, _⟩, _⟩ := hl; cases hz
    refine Pt.world fun z hz => ?_
    obtain ⟨hr, hz⟩ := hz
    obtain rfl : r = .bool (isUntil o.1) := by cases hr; rfl
    replace hz := hw.grow hz
    clear hr hw
    refine Pt.imp (fun u hu => hu ▸ hz) ?_
    refine pt_val (by decide) rfl (val_assign (v := .bool (isUntil o.1)) rfl) rfl (pt_regionEnd (pt_cond rfl (fun hu => ?_) (fun hu => ?_)))
    · -- an Until
      rw [runL, if_neg h1', if_neg h9', if_neg h2', if_pos hu] at hR
      refine pt_seq (pt_region ?_)
      refine pt_val (by decide) rfl (val_move (v := vPtr sb) rfl) rfl ?_
      refine pt_val (by decide) rfl (val_move (v := vInt (a : Nat)) rfl) rfl ?_
      refine pt_val (by decide) rfl (val_move (v := vInt (k : Nat)) rfl) rfl ?_
      refine pt_call (T := fun w r _ u => r = .returned (vI (ansN (rdyA a k o B))) ∧ MAt v0 sb (.slice (some ⟨pb, po, none⟩) ps.length pc) (acs.set a ⟨(j : Int), false, false⟩) (rdyB a k o B) mv u) (by decide) rfl (callsTo (xs := [.tmp 73, .tmp 74, .tmp 75]) (vs := [vPtr sb, vInt a, vInt k]) Try.func38 rfl (by decide) rfl) (by infer_instance) (fun w hw => callI_of_v (rready_v hGG (by rw [List.length_set]; exact hn) (hself ⟨(j : Int), false, false⟩) rfl (by rw [hpp]; exact hgo) (by omega) (hback _ hw.forget))) (fun t' ht => by cases ht; rfl) (fun w r x' hw => ?_) (fun w ch x' hw a w' hf hl => ?_)
      rotate_left
      · obtain ⟨z, ⟨hz, _⟩, _⟩ := hl; cases hz
      refine Pt.world fun z hz => ?_
      obtain ⟨hr, hz⟩ := hz
      obtain rfl : r = vI (ansN (rdyA a k o B)) := by cases hr; rfl
      clear hr hw
      have hbl : (rdyB a k o B).notes.length ≤ B.notes.length + 1 := by
        unfold rdyB; split
        · simp [Bd.note]
        · omega
      refine pt_regionEnd (Pt.weaken (F' := (76, vI (ansN (rdyA a k o B))) :: [(0, vPtr sb), (1, vInt a), (2, vInt k)]) (M' := fun u => MAt v0 sb (.slice (some ⟨pb, po, none⟩) ps.length pc) (acs.set a ⟨(j : Int), false, false⟩) (rdyB a k o B) mv u) ⟨rfl, rfl, rfl, rfl, trivial⟩ (fun u hu => hu ▸ hz) (pt_block (pt_seq (pt_region ?_))))
      refine pt_val (by decide) rfl (val_eql_int (a := (ansN (rdyA a k o B))) (b := 0) rfl rfl) rfl ?_ (tame_int rfl rfl)
      refine pt_val (by decide) rfl (val_assign (v := .bool (decide ((ansN (rdyA a k o B)) = 0))) rfl) rfl ?_
      refine pt_regionEnd (pt_if rfl (fun hno => ?_) (fun hno => ?_))
      · -- no
        have hans : rdyA a k o B = .no := by cases e : rdyA a k o B <;> rw [e] at hno <;> first | rfl | cases hno
        rw [hans] at hR
        clear hz
        refine Pt.world fun w hM => ?_
        obtain ⟨s1, s2, s3, bs, ms, e1, e2, e3, eb, em, h1, h2, h3, h4, h5, hm⟩ := hM.ex
        rw [List.length_set] at h2
        obtain ⟨b2, c2, rest2, rfl, rfl, hlt2, hset2⟩ := rowE_set h2 han
        have hs2 := hset2 (.bool true)
        refine Pt.imp (fun u hu => hu ▸ hm) (pt_seq (pt_region ?_))
        refine pt_val (by decide) rfl (val_move (v := vPtr sb) rfl) rfl ?_
        refine pt_val (by decide) rfl (val_nilCheck (a := ⟨sb, 0, none⟩) rfl) rfl ?_ (tame_nilCheck rfl)
        refine pt_val (by decide) rfl (val_fieldAddr (b := sb) (o := 0) (e := 2) rfl Try.underlying35 rfl rfl Try.sizeOf31 rfl) rfl ?_
        refine pt_val (by decide) rfl (val_load_at (v := .slice (some ⟨b2, 0, none⟩) acs.length c2) 0 rfl rfl Try.isAgg31 rfl) rfl ?_
        refine pt_val (by decide) rfl (val_move (v := vInt (a : Nat)) rfl) rfl ?_
        refine pt_val (by decide) rfl (val_indexAddr_slice (m := 1) a a rfl rfl Try.underlying31 Try.sizeOf4 rfl han (by omega)) rfl ?_
        refine pt_do (by decide) rfl (does_store_to (v := .bool true) _ 2 rfl rfl rfl rfl Try.sizeOf4 hlt2 rfl) fun _ _ => ?_
        refine pt_regionEnd (Pt.imp (fun z hz => ?_) (hret ⟨(j : Int), true, false⟩ (rdyB a k o B) _ _ hR))
        have := mat_wt (x := true) (hself ⟨(j : Int), false, false⟩) h1 (by rw [List.length_set]; exact hs2) h3 h4 h5 hz
        rw [hset] at this
        exact this
      refine pt_seq (pt_region ?_)
      refine pt_val (by decide) rfl (val_eql_int (a := (ansN (rdyA a k o B))) (b := 2) rfl rfl) rfl ?_ (tame_int rfl rfl)
      refine pt_val (by decide) rfl (val_assign (v := .bool (decide ((ansN (rdyA a k o B)) = 2))) rfl) rfl ?_
      refine pt_regionEnd (pt_if rfl (fun hbr => ?_) (fun hbr => ?_))
      · -- broken
        have hans : rdyA a k o B = .broken := by cases e : rdyA a k o B <;> rw [e] at hbr <;> first | rfl | cases hbr
        rw [hans] at hR
        refine pt_seq (pt_region ?_)
        refine pt_val (by decide) rfl (val_move (v := vPtr sb) rfl) rfl ?_
        refine pt_val (by decide) rfl (val_move (v := vInt (a : Nat)) rfl) rfl ?_
        refine pt_call (T := fun w r _ u => r = .returned (.tuple #[]) ∧ MAt v0 sb (.slice (some ⟨pb, po, none⟩) ps.length pc) (acs.set a ⟨(j : Int), false, true⟩) (rdyB a k o B) mv u) (by decide) rfl (callsTo (xs := [.tmp 87, .tmp 88]) (vs := [vPtr sb, vInt a]) Try.func39 rfl (by decide) rfl) (by infer_instance) (fun w hw => callI_of_v ((rend_v (hself ⟨(j : Int), false, false⟩) hw).mono fun r u hu => ⟨hu.1, by rw [← hset ⟨(j : Int), false, false⟩]; exact hu.2⟩)) (fun t' ht => by cases ht; rfl) (fun w r x' hw => ?_) (fun w ch x' hw a w' hf hl => ?_)
        · exact Pt.imp (fun u hu => hu.2) (pt_regionEnd (hret ⟨(j : Int), false, true⟩ (rdyB a k o B) _ _ hR))
        · obtain ⟨z, ⟨hz, _⟩, _⟩ := hl; cases hz
      · have hans : rdyA a k o B = .yes := by cases e : rdyA a k o B <;> rw [e] at hbr hno <;> first | rfl | exact absurd rfl hbr | exact absurd rfl hno
        rw [hans] at hR
        exact pt_skip (pt_inBlock (hnext (rdyB a k o B) _ ⟨rfl, rfl, rfl, trivial⟩ hlt hR (by omega)))
    · rw [runL, if_neg h1', if_neg h9', if_neg h2', if_neg (by rw [hu]; simp)] at hR
      refine pt_seq (Pt.weaken (F' := (6, vPtr t) :: [(0, vPtr sb), (1, vInt a), (2, vInt k)]) ⟨rfl, rfl, rfl, rfl, trivial⟩ (fun _ h => h) ?_)
      refine pt_sw (by decide) sw_37_14 (fun F' z hq => ?_) (fun ex F' z hne hq => hne hq.1)
      obtain ⟨-, hF, hz⟩ := hq
      refine Pt.weaken hF (M' := fun u => MAt v0 sb (.slice (some ⟨pb, po, none⟩) ps.length pc) (acs.set a ⟨(j : Int), false, false⟩) B mv u) (fun u hu => hu ▸ hback _ hz.forget) ?_
      refine pt_if rfl (fun he => ?_) (fun he => ?_)
      · rw [if_pos he] at hR
        refine pt_seq (pt_region ?_)
        refine pt_val (by decide) rfl (val_move (v := vPtr sb) rfl) rfl ?_
        refine pt_val (by decide) rfl (val_move (v := vInt (a : Nat)) rfl) rfl ?_
        refine pt_call (T := fun w r _ u => r = .returned (.tuple #[]) ∧ MAt v0 sb (.slice (some ⟨pb, po, none⟩) ps.length pc) (acs.set a ⟨(j : Int), false, true⟩) B mv u) (by decide) rfl (callsTo (xs := [.tmp 99, .tmp 100]) (vs := [vPtr sb, vInt a]) Try.func39 rfl (by decide) rfl) (by infer_instance) (fun w hw => callI_of_v ((rend_v (hself ⟨(j : Int), false, false⟩) hw).mono fun r u hu => ⟨hu.1, by rw [← hset ⟨(j : Int), false, false⟩]; exact hu.2⟩)) (fun t' ht => by cases ht; rfl) (fun w r x' hw => ?_) (fun w ch x' hw a w' hf hl => ?_)
        · exact Pt.imp (fun u hu => hu.2) (pt_regionEnd (hret ⟨(j : Int), false, true⟩ B _ _ hR))
        · obtain ⟨z, ⟨hz, _⟩, _⟩ := hl; cases hz
      · rw [if_neg he] at hR
        exact pt_skip (hnext B _ ⟨rfl, rfl, rfl, trivial⟩ hlt hR (by omega))
  · have hjn : j = p.length := by omega
    rw [show p.drop j = [] from List.drop_of_length_le (by omega)] at hR
    refine pt_exit rfl (Pt.imp (M' := fun u => MAt v0 sb (.slice (some ⟨pb, po, none⟩) ps.length pc) (acs.set a ⟨(j : Int), false, false⟩) B mv u) (fun u hu => hback _ hu) (pt_region ?_))
    refine pt_val (by decide) rfl (val_move (v := vPtr sb) rfl) rfl ?_
    refine pt_val (by decide) rfl (val_move (v := vInt (a : Nat)) rfl) rfl ?_
    refine pt_call (T := fun w r _ u => r = .returned (.tuple #[]) ∧ MAt v0 sb (.slice (some ⟨pb, po, none⟩) ps.length pc) (acs.set a ⟨(j : Int), false, true⟩) B mv u) (by decide) rfl (callsTo (xs := [.tmp 111, .tmp 112]) (vs := [vPtr sb, vInt a]) Try.func39 rfl (by decide) rfl) (by infer_instance) (fun w hw => callI_of_v ((rend_v (hself ⟨(j : Int), false, false⟩) hw).mono fun r u hu => ⟨hu.1, by rw [← hset ⟨(j : Int), false, false⟩]; exact hu.2⟩)) (fun t' ht => by cases ht; rfl) (fun w r x' hw => ?_) (fun w ch x' hw a w' hf hl => ?_)
    · exact Pt.imp (fun u hu => hu.2) (pt_regionEnd (pt_back (fn := Try.f37) (v := .tuple #[]) Try.func37 rfl (fun a _ => res_nothing rfl a) fun w hw => g1 _ () w (hw.mono fun z hz => ⟨rfl, by rw [hR]; exact hz⟩)))
    · obtain ⟨z, ⟨hz, _⟩, _⟩ := hl; cases hz
end
end Go.Bt
end
section
namespace Go.Sx
variable [Gnd]
open Go.Conc Go.Proofs
theorem val_rem_to {P : Program} {n : Nat} {F : Fr} {S : World → Prop} {ty T V : TypeId} {x y : Operand} {a b r : Int} (hx : ev F x = some (vInt a)) (hy : ev F y = some (vInt b)) (hb : b ≠ 0) (h : a.tmod b = r) : Val P n F S (.binOp .rem T x y V) ty (vInt r) := h ▸ val_rem_int hx hy hb
open Go.Bt
set_option maxRecDepth 100000 in
set_option maxHeartbeats 4000000 in
/-- The moves grow. -/
theorem rmove_sw [C : Co Try.prog] {v0 : World} {sb : Nat} {pv s1 s2 s3 bs ms : Value} {a : Nat} {x : Bool} {xs : List Value} {m : Nat} {e1 e2 e3 eb em : Ent} (hr : RowE ms 66 2 m xs em) (hk : m + 1 ≤ 8796093022208) :
    SW Try.prog 110 (match Try.f26.body with | some (.seq _ (.seq _ (.seq _ (.seq _ (.seq _ (.seq _ (.seq c _))))))) => c | _ => .skip) [(0, vPtr sb), (6, vInt a), (8, .bool x)] (Mem v0 [] [some (sb, blk [pv, s1, s2, s3, bs, ms] 35), e1, e2, e3, eb, em]) (fun ex F' w => ex = .normal ∧ Sub [(8, .bool x)] F' ∧ ∃ ms' em', RowE ms' 66 2 (m + 1) (xs ++ [vInt a, .bool x]) em' ∧ Mem v0 [] [some (sb, blk [pv, s1, s2, s3, bs, ms'] 35), e1, e2, e3, eb, em'] w) := by
  obtain ⟨ti, hi, hz, hsz, hby⟩ : ∃ i, Try.prog.info? 66 = some i ∧ i.zero = some (.agg #[vInt 0, .bool false]) ∧ i.size = 2 ∧ i.bytes = 16 := ⟨_, rfl, rfl, rfl, rfl⟩
  obtain ⟨av, cv, rfl, hkc⟩ := hr.slice
  show SW Try.prog 110 (Code.region 21 _ false) _ _ _
  refine sw_region ?_
  refine ow_val (val_move (v := vPtr sb) rfl) rfl ?_
  refine ow_val (val_move (v := vPtr sb) rfl) rfl ?_
  refine ow_val (val_nilCheck (a := ⟨sb, 0, none⟩) rfl) rfl ?_ (tame_nilCheck rfl)
  refine ow_val (val_fieldAddr (b := sb) (o := 0) (e := 5) rfl Try.underlying35 rfl rfl Try.sizeOf33 rfl) rfl ?_
  refine ow_val (val_load_at (v := .slice av m cv) 0 rfl rfl Try.isAgg33 rfl) rfl ?_
  refine ow_val (val_move (v := vInt (a : Nat)) rfl) rfl ?_
  refine ow_val (val_move (v := .bool x) rfl) rfl ?_
  refine ow_val (val_build' (parts := _) (vs := [(0, vInt a), (1, .bool x)]) (cs := [vInt a, .bool x]) rfl (by kernel_rfl)) rfl ?_
  refine ow_make (acts_buildSlice (cs := [vInt a, .bool x]) Try.underlying33 Try.sizeOf66 Try.zeroValue66 rfl rfl (by kernel_rfl)) rfl (fun bb hbb => ?_)
  refine ow_append' (k := m + 1) (acts_append (size := 2) (bytes := 16) (ys := [vInt a, .bool x]) 6 rfl rfl rfl hr rfl Try.underlying33 hi hz hsz hby rfl (by decide) (fun w hm => Rd.own hm (i := 0) rfl rfl) rfl (by intro u hu; simp only [List.mem_cons, List.not_mem_nil, or_false] at hu; rcases hu with rfl | rfl <;> rfl) (by omega) (by omega)) rfl (fun a5 c5 e5 hr5 => ?_)
  refine ow_val (val_nilCheck (a := ⟨sb, 0, none⟩) rfl) rfl ?_ (tame_nilCheck rfl)
  refine ow_val (val_fieldAddr (b := sb) (o := 0) (e := 5) rfl Try.underlying35 rfl rfl Try.sizeOf33 rfl) rfl ?_
  refine ow_do_eq (does_store_to [pv, s1, s2, s3, bs, .slice a5 (m + 1) c5] 1 rfl rfl rfl rfl Try.sizeOf33 (by simp) rfl) ?_
  exact ow_nil fun w hw => ⟨rfl, ⟨rfl, trivial⟩, _, e5, hr5, hw.forget⟩
end Go.Sx
namespace Go.Bt
variable [Gnd]
open Go.Conc Go.ConcN Go.RowKit Go.Proofs
open Go.Sx (Rly RV pz pzo pz_heap spec isWg Gud Co blk RowE Rd Mem CallV vInt SW Sub callV_of_callI callI_of_pt CallI Pt pt_seq pt_sw pt_back pt_ret pt_region pt_regionEnd pt_val pt_block pt_inBlock pt_exit pt_if pt_cond pt_skip pt_do pt_draw pt_call pt_act pt_loop_inv val_assign val_move val_load val_nilCheck val_fieldAddr val_len val_geq_int val_lss_int val_eql_int val_add_int val_rem_int val_rem_to val_load_elem val_load_at val_indexAddr_slice val_pick_true val_pick_false acts_alloc does_store_all does_store_to tame_nilCheck tame_int callsTo res_nothing res_slot Lf ReI Stb re_fall pick_v slots rnote_sw rend_sw rowE_set rmove_sw look upd pick keys sw_region sw_region_lex lw_pure lw_held lw_nil lw_do lw_call_pure lw_new mem_of_rv ow_val ow_nil ow_guard_yes ow_guard_no)
/-- The machine is well made. -/
structure WM (ps : List (List Ins)) (m : Mac) : Prop where
  len : m.acs.length = ps.length
  fresh : ∀ (i : Nat) (c : Ac), m.acs[i]? = some c → c.pl < 0 → c = ⟨-1, false, false⟩
  le : ∀ (i : Nat) (c : Ac), m.acs[i]? = some c → c.pl ≤ ((ps.getD i []).length : Int)
  waits : ∀ (i : Nat) (c : Ac), m.acs[i]? = some c → c.waits = true → c.over = false → c.pl < ((ps.getD i []).length : Int)
theorem ov_at {acs : List Ac} {a : Nat} {c : Ac} {rest : List Value} (ha : acs[a]? = some c) : (ovL acs ++ rest)[a]? = some (.bool c.over) := by
  rw [List.getElem?_append_left (by unfold ovL; rw [List.length_map]; exact (List.getElem?_eq_some_iff.1 ha).1)]
  unfold ovL; rw [List.getElem?_map, ha, Option.map_some]
theorem wt_at {acs : List Ac} {a : Nat} {c : Ac} {rest : List Value} (ha : acs[a]? = some c) : (wtL acs ++ rest)[a]? = some (.bool c.waits) := by
  rw [List.getElem?_append_left (by unfold wtL; rw [List.length_map]; exact (List.getElem?_eq_some_iff.1 ha).1)]
  unfold wtL; rw [List.getElem?_map, ha, Option.map_some]
theorem plx_at {acs : List Ac} {a : Nat} {c : Ac} {rest : List Value} (ha : acs[a]? = some c) : (plL acs ++ rest)[a]? = some (vI c.pl) := by
  rw [List.getElem?_append_left (by unfold plL; rw [List.length_map]; exact (List.getElem?_eq_some_iff.1 ha).1)]
  unfold plL; rw [List.getElem?_map, ha, Option.map_some]
section
variable [C : Co Try.prog]
noncomputable def c26e : Code := cR (cR (cR (cR (cR (cR (Try.f26.body.getD .skip))))))
set_option maxRecDepth 100000 in
set_option maxHeartbeats 16000000 in
/-- A pick. -/
theorem rpick_v {v0 v : World} {sb a : Nat} {q : Int} {pv : Value} {ps : List (List Ins)} {m : Mac} (hn0 : 0 < ps.length) (hn1 : ps.length ≤ 4611686018427387904) (hG : PrgV v0 pv ps) (hW : WM ps m) (ha' : q % (ps.length : Int) = (a : Int)) (hB : m.bd.notes.length + (ps.getD a []).length + 1 ≤ 8796093022207) (hmv : m.moves.length + 1 ≤ 8796093022208) (hM : MAt v0 sb pv m.acs m.bd m.moves v) :
    CallV Try.prog 26 #[vPtr sb, vI q] v (fun r u => r = .returned (.bool (acPick a m.moves.length (ps.getD a []) (m.acs[a]?.getD ⟨-1, false, false⟩) m.bd).2.2) ∧ MAt v0 sb pv (m.pick ps a).acs (m.pick ps a).bd (m.pick ps a).moves u) := by
  have hGG := hG
  have hplen := hG.len
  obtain ⟨pa, pc, rfl, hp⟩ := hG.ex
  have hlt : a < ps.length := by
    have h1 : q % (ps.length : Int) < ps.length := Int.emod_lt_of_pos q (by omega)
    omega
  have han : a < m.acs.length := by rw [hW.len]; exact hlt
  obtain ⟨c, hca⟩ : ∃ c, m.acs[a]? = some c := ⟨_, List.getElem?_eq_getElem han⟩
  have hl1 : (ps.getD a []).length ≤ 4611686018427387904 := hplen _ (by rw [List.getD_eq_getElem?_getD, List.getElem?_eq_getElem hlt]; exact List.getElem_mem hlt)
  obtain ⟨pb, po, a', qc, rfl, hc, hrd⟩ := prog_at hp (i := a) hlt
  have hself : ∀ c : Ac, (m.acs.set a c)[a]? = some c := fun c => List.getElem?_set_self han
  have hset : ∀ c c' : Ac, (m.acs.set a c).set a c' = m.acs.set a c' := fun c c' => List.set_set ..
  have hsl : ∀ c : Ac, (m.acs.set a c).length = ps.length := fun c => by rw [List.length_set]; exact hW.len
  have hr1 : Int.tmod q ps.length < ps.length := Int.tmod_lt_of_pos q (by omega)
  have hr2 : -(ps.length : Int) < Int.tmod q ps.length := Int.lt_tmod_of_pos q (by omega)
  have hpk : ∀ (r : Ac × Bd × Bool), acPick a m.moves.length (ps.getD a []) c m.bd = r → m.pick ps a = ⟨m.acs.set a r.1, r.2.1, m.moves ++ [((a : Int), r.2.2)]⟩ := fun r hr => by
    unfold Mac.pick; rw [hca]; simp only [hr]
  rw [hca, Option.getD_some]
  obtain ⟨s1, s2, s3, bs, ms, e1, e2, e3, eb, em, h1, h2, h3, h4, h5, hm⟩ := hM.ex
  obtain ⟨b1, c1, rest1, rfl, rfl, hlt1, hset1⟩ := rowE_set h1 han
  obtain ⟨b2, c2, rest2, rfl, rfl, hlt2, hset2⟩ := rowE_set h2 han
  obtain ⟨b3, c3, rest3, rfl, rfl, hlt3, hset3⟩ := rowE_set h3 han
  obtain ⟨av, cv, rfl, hkc⟩ := h5.slice
  refine callV_of_callI (callI_of_pt (vs := [vPtr sb, vI q]) Try.func26 rfl rfl fun cf cs g1 g2 => ?_)
  -- behind it
  have hend : ∀ (x : Bool) (c' : Ac) (B' : Bd) (F : Go.Sx.Fr), Sub [(0, vPtr sb), (6, vInt a), (8, .bool x)] F → acPick a m.moves.length (ps.getD a []) c m.bd = (c', B', x) → Pt (fun _ : Unit => C) 110 (Go.Sx.fr0 26) (cf :: cs) () [.inBlock 0, .code c26e] F (fun w => MAt v0 sb (.slice (some ⟨pb, po, none⟩) ps.length pc) (m.acs.set a c') B' m.moves w) := by
    intro x c' B' F hF hx
    refine Pt.weaken hF (fun _ h => h) (pt_inBlock (Pt.world fun w hM => ?_))
    obtain ⟨s1, s2, s3, bs, ms, e1, e2, e3, eb, em, h1, h2, h3, h4, h5, hm⟩ := hM.ex
    refine Pt.imp (fun u hu => hu ▸ hm) (pt_seq ?_)
    refine pt_sw (by decide) (rmove_sw (a := a) (x := x) h5 hmv) (fun F' z hq => ?_) (fun ex F' z hne hq => hne hq.1)
    obtain ⟨-, hF, ms', em', hr', hz⟩ := hq
    refine Pt.weaken hF (M' := fun u => MAt v0 sb (.slice (some ⟨pb, po, none⟩) ps.length pc) (m.pick ps a).acs (m.pick ps a).bd (m.pick ps a).moves u) (fun u hu => ?_) (pt_seq (pt_region ?_))
    · subst hu
      rw [hpk _ hx]
      refine ⟨_, _, _, _, _, _, _, _, _, _, h1, h2, h3, h4, ?_, hz⟩
      rw [List.length_append]
      have : flatM (m.moves ++ [((a : Int), x)]) = flatM m.moves ++ [vInt a, .bool x] := by unfold flatM; rw [List.flatMap_append]; rfl
      rw [this]; exact hr'
    refine pt_val (by decide) rfl (val_move (v := .bool x) rfl) rfl ?_
    refine pt_val (by decide) rfl (val_assign (v := .bool x) rfl) rfl ?_
    exact pt_regionEnd (pt_ret (fn := Try.f26) (v := .bool x) Try.func26 rfl (fun a hf => res_slot rfl rfl hf) fun w hw => g1 _ () w (hw.mono fun z hz => ⟨by rw [hx], hz⟩))
  have hback : ∀ u, Mem v0 [] [some (sb, blk [.slice (some ⟨pb, po, none⟩) ps.length pc, .slice (some ⟨b1, 0, none⟩) m.acs.length c1, .slice (some ⟨b2, 0, none⟩) m.acs.length c2, .slice (some ⟨b3, 0, none⟩) m.acs.length c3, bs, .slice av m.moves.length cv] 35), some (b1, blk (plL m.acs ++ rest1) 3), some (b2, blk (wtL m.acs ++ rest2) 4), some (b3, blk (ovL m.acs ++ rest3) 4), eb, em] u → MAt v0 sb (.slice (some ⟨pb, po, none⟩) ps.length pc) m.acs m.bd m.moves u := fun u hu => ⟨_, _, _, _, _, _, _, _, _, _, h1, h2, h3, h4, h5, hu⟩
  refine Pt.imp (M' := Mem v0 [] [some (sb, blk [.slice (some ⟨pb, po, none⟩) ps.length pc, .slice (some ⟨b1, 0, none⟩) m.acs.length c1, .slice (some ⟨b2, 0, none⟩) m.acs.length c2, .slice (some ⟨b3, 0, none⟩) m.acs.length c3, bs, .slice av m.moves.length cv] 35), some (b1, blk (plL m.acs ++ rest1) 3), some (b2, blk (wtL m.acs ++ rest2) 4), some (b3, blk (ovL m.acs ++ rest3) 4), eb, em]) (fun w hw => hw ▸ hm) (pt_seq (pt_region ?_))
  refine pt_val (by decide) rfl (val_assign (v := .bool false) rfl) rfl ?_
  refine pt_regionEnd (pt_seq (pt_region ?_))
  refine pt_val (by decide) rfl (val_move (v := vPtr sb) rfl) rfl ?_
  refine pt_val (by decide) rfl (val_nilCheck (a := ⟨sb, 0, none⟩) rfl) rfl ?_ (tame_nilCheck rfl)
  refine pt_val (by decide) rfl (val_fieldAddr (b := sb) (o := 0) (e := 0) rfl Try.underlying35 rfl rfl Try.sizeOf22 rfl) rfl ?_
  refine pt_val (by decide) rfl (val_load_at (v := .slice (some ⟨pb, po, none⟩) ps.length pc) 0 rfl rfl Try.isAgg22 rfl) rfl ?_
  refine pt_val (by decide) rfl (val_len (len := ps.length) rfl Try.underlying22) rfl ?_
  refine pt_val (by decide) rfl (val_assign (v := vInt (ps.length : Nat)) rfl) rfl ?_
  refine pt_regionEnd (pt_seq (pt_region ?_))
  refine pt_val (by decide) rfl (val_move (v := vI q) rfl) rfl ?_
  refine pt_val (by decide) rfl (val_move (v := vInt (ps.length : Nat)) rfl) rfl ?_
  refine pt_val (by decide) rfl (val_rem_int (a := q) (b := (ps.length : Nat)) rfl rfl (by omega)) rfl ?_ (tame_int rfl rfl)
  refine pt_val (by decide) rfl (val_move (v := vInt (ps.length : Nat)) rfl) rfl ?_
  refine pt_val (by decide) rfl (val_add_int (a := Int.tmod q ps.length) (b := (ps.length : Nat)) (Int.tmod q ps.length + ps.length) rfl rfl rfl (by omega)) rfl ?_ (tame_int rfl rfl)
  refine pt_val (by decide) rfl (val_move (v := vInt (ps.length : Nat)) rfl) rfl ?_
  refine pt_val (by decide) rfl (val_rem_to (a := Int.tmod q ps.length + ps.length) (b := (ps.length : Nat)) (r := (a : Nat)) rfl rfl (by omega) (by rw [tmod_pick q hn0, ha'])) rfl ?_ (tame_int rfl rfl)
  refine pt_val (by decide) rfl (val_assign (v := vInt (a : Nat)) rfl) rfl ?_
  refine pt_regionEnd (pt_seq (pt_region ?_))
  refine pt_val (by decide) rfl (val_move (v := vPtr sb) rfl) rfl ?_
  refine pt_val (by decide) rfl (val_nilCheck (a := ⟨sb, 0, none⟩) rfl) rfl ?_ (tame_nilCheck rfl)
  refine pt_val (by decide) rfl (val_fieldAddr (b := sb) (o := 0) (e := 5) rfl Try.underlying35 rfl rfl Try.sizeOf33 rfl) rfl ?_
  refine pt_val (by decide) rfl (val_load_at (v := .slice av m.moves.length cv) 0 rfl rfl Try.isAgg33 rfl) rfl ?_
  refine pt_val (by decide) rfl (val_len (len := m.moves.length) rfl Try.underlying33) rfl ?_
  refine pt_val (by decide) rfl (val_assign (v := vInt (m.moves.length : Nat)) rfl) rfl ?_
  refine pt_regionEnd (pt_seq (pt_region ?_))
  refine pt_val (by decide) rfl (val_assign (v := .bool true) rfl) rfl ?_
  refine pt_regionEnd (pt_seq (pt_block ?_))
  refine Pt.weaken (F' := [(0, vPtr sb), (6, vInt a), (7, vInt m.moves.length), (8, .bool true)]) ⟨rfl, rfl, rfl, rfl, trivial⟩ (fun _ h => h) ?_
  refine pt_seq (pt_region ?_)
  refine pt_val (by decide) rfl (val_move (v := vPtr sb) rfl) rfl ?_
  refine pt_val (by decide) rfl (val_nilCheck (a := ⟨sb, 0, none⟩) rfl) rfl ?_ (tame_nilCheck rfl)
  refine pt_val (by decide) rfl (val_fieldAddr (b := sb) (o := 0) (e := 3) rfl Try.underlying35 rfl rfl Try.sizeOf31 rfl) rfl ?_
  refine pt_val (by decide) rfl (val_load_at (v := .slice (some ⟨b3, 0, none⟩) m.acs.length c3) 0 rfl rfl Try.isAgg31 rfl) rfl ?_
  refine pt_val (by decide) rfl (val_move (v := vInt (a : Nat)) rfl) rfl ?_
  refine pt_val (by decide) rfl (val_indexAddr_slice (m := 1) a a rfl rfl Try.underlying31 Try.sizeOf4 rfl han (by omega)) rfl ?_
  refine pt_val (by decide) rfl (val_load_at (v := .bool c.over) 3 rfl rfl Try.isAgg4 (ov_at hca)) rfl ?_
  refine pt_val (by decide) rfl (val_assign (v := .bool c.over) rfl) rfl ?_
  refine pt_regionEnd (pt_cond rfl (fun hov => ?_) (fun hov => ?_))
  · -- over
    refine pt_region ?_
    refine pt_val (by decide) rfl (val_assign (v := .bool false) rfl) rfl (pt_regionEnd ?_)
    refine Pt.imp (fun w hw => ?_) (hend false c m.bd _ ⟨rfl, rfl, rfl, trivial⟩ (pick_over hov))
    rw [set_same hca]; exact hback w hw
  refine pt_seq (pt_region ?_)
  refine pt_val (by decide) rfl (val_move (v := vPtr sb) rfl) rfl ?_
  refine pt_val (by decide) rfl (val_nilCheck (a := ⟨sb, 0, none⟩) rfl) rfl ?_ (tame_nilCheck rfl)
  refine pt_val (by decide) rfl (val_fieldAddr (b := sb) (o := 0) (e := 1) rfl Try.underlying35 rfl rfl Try.sizeOf23 rfl) rfl ?_
  refine pt_val (by decide) rfl (val_load_at (v := .slice (some ⟨b1, 0, none⟩) m.acs.length c1) 0 rfl rfl Try.isAgg23 rfl) rfl ?_
  refine pt_val (by decide) rfl (val_move (v := vInt (a : Nat)) rfl) rfl ?_
  refine pt_val (by decide) rfl (val_indexAddr_slice (m := 1) a a rfl rfl Try.underlying23 Try.sizeOf3 rfl han (by omega)) rfl ?_
  refine pt_val (by decide) rfl (val_load_at (v := vI c.pl) 1 rfl rfl Try.isAgg3 (plx_at hca)) rfl ?_
  refine pt_val (by decide) rfl (val_lss_int (a := c.pl) (b := 0) rfl rfl) rfl ?_ (tame_int rfl rfl)
  refine pt_val (by decide) rfl (val_assign (v := .bool (decide (c.pl < 0))) rfl) rfl ?_
  refine pt_regionEnd (pt_if rfl (fun hneg => ?_) (fun hneg => ?_))
  · -- it begins
    have hc0 := hW.fresh a c hca hneg
    subst hc0
    have hs1 := hset1 (vI 0)
    refine pt_seq (pt_region ?_)
    refine pt_val (by decide) rfl (val_move (v := vPtr sb) rfl) rfl ?_
    refine pt_val (by decide) rfl (val_nilCheck (a := ⟨sb, 0, none⟩) rfl) rfl ?_ (tame_nilCheck rfl)
    refine pt_val (by decide) rfl (val_fieldAddr (b := sb) (o := 0) (e := 1) rfl Try.underlying35 rfl rfl Try.sizeOf23 rfl) rfl ?_
    refine pt_val (by decide) rfl (val_load_at (v := .slice (some ⟨b1, 0, none⟩) m.acs.length c1) 0 rfl rfl Try.isAgg23 rfl) rfl ?_
    refine pt_val (by decide) rfl (val_move (v := vInt (a : Nat)) rfl) rfl ?_
    refine pt_val (by decide) rfl (val_indexAddr_slice (m := 1) a a rfl rfl Try.underlying23 Try.sizeOf3 rfl han (by omega)) rfl ?_
    refine pt_do (by decide) rfl (does_store_to (v := vI 0) _ 1 rfl rfl rfl rfl Try.sizeOf3 hlt1 rfl) fun _ _ => ?_
    refine pt_regionEnd (Pt.weaken (F' := [(0, vPtr sb), (6, vInt a), (7, vInt m.moves.length), (8, .bool true)]) (M' := fun w => MAt v0 sb (.slice (some ⟨pb, po, none⟩) ps.length pc) (m.acs.set a ⟨((0 : Nat) : Int), false, false⟩) m.bd m.moves w) ⟨rfl, rfl, rfl, rfl, trivial⟩ (fun w hw => ?_) ?_)
    · exact mat_pl (x := 0) hca hs1 h2 h3 h4 h5 hw
    refine pt_region ?_
    refine pt_val (by decide) rfl (val_move (v := vPtr sb) rfl) rfl ?_
    refine pt_val (by decide) rfl (val_move (v := vInt (a : Nat)) rfl) rfl ?_
    refine pt_val (by decide) rfl (val_move (v := vInt (m.moves.length : Nat)) rfl) rfl ?_
    refine pt_call (T := fun w r _ u => r = .returned (.tuple #[]) ∧ MAt v0 sb (.slice (some ⟨pb, po, none⟩) ps.length pc) (m.acs.set a (runL a m.moves.length (ps.getD a []) 0 m.bd).1) (runL a m.moves.length (ps.getD a []) 0 m.bd).2 m.moves u) (by decide) rfl (callsTo (xs := [.tmp 53, .tmp 54, .tmp 55]) (vs := [vPtr sb, vInt a, vInt m.moves.length]) Try.func37 rfl (by decide) rfl) (by infer_instance) (fun w hw => callI_of_v ((rrun_v hGG (hsl _) (hself _) (Nat.zero_le _) hl1 (by omega) hw).mono fun r u hu => ⟨hu.1, by rw [← hset ⟨((0 : Nat) : Int), false, false⟩]; exact hu.2⟩)) (fun t' ht => by cases ht; rfl) (fun w r x' hw => ?_) (fun w ch x' hw a w' hf hl => ?_)
    · refine Pt.imp (fun u hu => hu.2) (pt_regionEnd (hend true _ _ _ ⟨rfl, rfl, rfl, trivial⟩ ?_))
      unfold acPick; rw [if_neg (by decide), if_pos (by decide)]
    · obtain ⟨z, ⟨hz, _⟩, _⟩ := hl; cases hz
  obtain ⟨j, hj⟩ : ∃ j : Nat, c.pl = (j : Int) := ⟨c.pl.toNat, by omega⟩
  have hjt : c.pl.toNat = j := by omega
  have hjl := hW.le a c hca
  refine pt_seq (pt_region ?_)
  refine pt_val (by decide) rfl (val_move (v := vPtr sb) rfl) rfl ?_
  refine pt_val (by decide) rfl (val_nilCheck (a := ⟨sb, 0, none⟩) rfl) rfl ?_ (tame_nilCheck rfl)
  refine pt_val (by decide) rfl (val_fieldAddr (b := sb) (o := 0) (e := 2) rfl Try.underlying35 rfl rfl Try.sizeOf31 rfl) rfl ?_
  refine pt_val (by decide) rfl (val_load_at (v := .slice (some ⟨b2, 0, none⟩) m.acs.length c2) 0 rfl rfl Try.isAgg31 rfl) rfl ?_
  refine pt_val (by decide) rfl (val_move (v := vInt (a : Nat)) rfl) rfl ?_
  refine pt_val (by decide) rfl (val_indexAddr_slice (m := 1) a a rfl rfl Try.underlying31 Try.sizeOf4 rfl han (by omega)) rfl ?_
  refine pt_val (by decide) rfl (val_load_at (v := .bool c.waits) 2 rfl rfl Try.isAgg4 (wt_at hca)) rfl ?_
  refine pt_val (by decide) rfl (val_assign (v := .bool c.waits) rfl) rfl ?_
  refine pt_regionEnd (pt_cond rfl (fun hwt => ?_) (fun hwt => ?_))
  · -- it waits
    have hjw := hW.waits a c hca hwt hov
    have hgo : (ps.getD a [])[j]? = some ((ps.getD a []).getD j default) := get_getD (by omega)
    generalize (ps.getD a []).getD j default = o at hgo
    have hbl : (rdyB a m.moves.length o m.bd).notes.length ≤ m.bd.notes.length + 1 := by
      unfold rdyB; split
      · simp [Bd.note]
      · omega
    have hacp : ∀ r, (match rdyA a m.moves.length o m.bd with
      | .no => (c, rdyB a m.moves.length o m.bd, false)
      | .broken => (⟨c.pl, true, true⟩, rdyB a m.moves.length o m.bd, true)
      | .yes => let r := runL a m.moves.length ((ps.getD a []).drop (j + 1)) (j + 1) (rdyB a m.moves.length o m.bd); (r.1, r.2, true)) = r → acPick a m.moves.length (ps.getD a []) c m.bd = r := fun r hr => by
      unfold acPick; rw [if_neg (by rw [hov]; simp), if_neg hneg, if_pos hwt, hjt, hgo]; exact hr
    refine pt_seq (pt_region ?_)
    refine pt_val (by decide) rfl (val_move (v := vPtr sb) rfl) rfl ?_
    refine pt_val (by decide) rfl (val_move (v := vInt (a : Nat)) rfl) rfl ?_
    refine pt_val (by decide) rfl (val_move (v := vInt (m.moves.length : Nat)) rfl) rfl ?_
    refine pt_call (T := fun w r _ u => r = .returned (vI (ansN (rdyA a m.moves.length o m.bd))) ∧ MAt v0 sb (.slice (some ⟨pb, po, none⟩) ps.length pc) m.acs (rdyB a m.moves.length o m.bd) m.moves u) (by decide) rfl (callsTo (xs := [.tmp 65, .tmp 66, .tmp 67]) (vs := [vPtr sb, vInt a, vInt m.moves.length]) Try.func38 rfl (by decide) rfl) (by infer_instance) (fun w hw => callI_of_v (rready_v hGG hW.len hca hj hgo (by omega) (hback _ hw))) (fun t' ht => by cases ht; rfl) (fun w r x' hw => ?_) (fun w ch x' hw a w' hf hl => ?_)
    rotate_left
    · obtain ⟨z, ⟨hz, _⟩, _⟩ := hl; cases hz
    refine Pt.world fun z hz => ?_
    obtain ⟨hr, hz⟩ := hz
    obtain rfl : r = vI (ansN (rdyA a m.moves.length o m.bd)) := by cases hr; rfl
    clear hr hw
    refine pt_regionEnd (Pt.weaken (F' := (68, vI (ansN (rdyA a m.moves.length o m.bd))) :: [(0, vPtr sb), (6, vInt a), (7, vInt m.moves.length), (8, .bool true)]) (M' := fun u => MAt v0 sb (.slice (some ⟨pb, po, none⟩) ps.length pc) m.acs (rdyB a m.moves.length o m.bd) m.moves u) ⟨rfl, rfl, rfl, rfl, rfl, trivial⟩ (fun u hu => hu ▸ hz) (pt_block (pt_seq (pt_region ?_))))
    refine pt_val (by decide) rfl (val_eql_int (a := (ansN (rdyA a m.moves.length o m.bd))) (b := 0) rfl rfl) rfl ?_ (tame_int rfl rfl)
    refine pt_val (by decide) rfl (val_assign (v := .bool (decide ((ansN (rdyA a m.moves.length o m.bd)) = 0))) rfl) rfl ?_
    refine pt_regionEnd (pt_if rfl (fun hno => ?_) (fun hno => ?_))
    · have hans : rdyA a m.moves.length o m.bd = .no := by cases e : rdyA a m.moves.length o m.bd <;> rw [e] at hno <;> first | rfl | cases hno
      refine pt_region ?_
      refine pt_val (by decide) rfl (val_assign (v := .bool false) rfl) rfl (pt_regionEnd (pt_inBlock ?_))
      refine Pt.imp (fun w hw => ?_) (hend false c (rdyB a m.moves.length o m.bd) _ ⟨rfl, rfl, rfl, trivial⟩ (hacp _ (by rw [hans])))
      rw [set_same hca]; exact hw
    refine pt_seq (pt_region ?_)
    refine pt_val (by decide) rfl (val_eql_int (a := (ansN (rdyA a m.moves.length o m.bd))) (b := 2) rfl rfl) rfl ?_ (tame_int rfl rfl)
    refine pt_val (by decide) rfl (val_assign (v := .bool (decide ((ansN (rdyA a m.moves.length o m.bd)) = 2))) rfl) rfl ?_
    refine pt_regionEnd (pt_if rfl (fun hbr => ?_) (fun hbr => ?_))
    · have hans : rdyA a m.moves.length o m.bd = .broken := by cases e : rdyA a m.moves.length o m.bd <;> rw [e] at hbr <;> first | rfl | cases hbr
      refine pt_region ?_
      refine pt_val (by decide) rfl (val_move (v := vPtr sb) rfl) rfl ?_
      refine pt_val (by decide) rfl (val_move (v := vInt (a : Nat)) rfl) rfl ?_
      refine pt_call (T := fun w r _ u => r = .returned (.tuple #[]) ∧ MAt v0 sb (.slice (some ⟨pb, po, none⟩) ps.length pc) (m.acs.set a { c with over := true }) (rdyB a m.moves.length o m.bd) m.moves u) (by decide) rfl (callsTo (xs := [.tmp 73, .tmp 74]) (vs := [vPtr sb, vInt a]) Try.func39 rfl (by decide) rfl) (by infer_instance) (fun w hw => callI_of_v (rend_v hca hw)) (fun t' ht => by cases ht; rfl) (fun w r x' hw => ?_) (fun w ch x' hw a w' hf hl => ?_)
      · refine Pt.imp (fun u hu => hu.2) (pt_regionEnd (pt_inBlock (hend true _ _ _ ⟨rfl, rfl, rfl, trivial⟩ (hacp _ (by rw [hans]; simp [hwt])))))
      · obtain ⟨z, ⟨hz, _⟩, _⟩ := hl; cases hz
    have hans : rdyA a m.moves.length o m.bd = .yes := by cases e : rdyA a m.moves.length o m.bd <;> rw [e] at hbr hno <;> first | rfl | exact absurd rfl hbr | exact absurd rfl hno
    refine pt_seq (pt_region ?_)
    refine pt_val (by decide) rfl (val_eql_int (a := (ansN (rdyA a m.moves.length o m.bd))) (b := 1) rfl rfl) rfl ?_ (tame_int rfl rfl)
    refine pt_val (by decide) rfl (val_assign (v := .bool (decide ((ansN (rdyA a m.moves.length o m.bd)) = 1))) rfl) rfl ?_
    refine pt_regionEnd (Go.Sx.pt_true (by show some (Value.bool _) = _; rw [hans]; rfl) ?_)
    clear hz
    refine Pt.world fun w hM => ?_
    obtain ⟨s1, s2, s3, bs, ms, e1, e2, e3, eb, em, h1, h2, h3, h4, h5, hm⟩ := hM.ex
    obtain ⟨b2, c2, rest2, rfl, rfl, hlt2, hset2⟩ := rowE_set h2 han
    have hs2 := hset2 (.bool false)
    refine Pt.imp (fun u hu => hu ▸ hm) (pt_seq (pt_region ?_))
    refine pt_val (by decide) rfl (val_move (v := vPtr sb) rfl) rfl ?_
    refine pt_val (by decide) rfl (val_nilCheck (a := ⟨sb, 0, none⟩) rfl) rfl ?_ (tame_nilCheck rfl)
    refine pt_val (by decide) rfl (val_fieldAddr (b := sb) (o := 0) (e := 2) rfl Try.underlying35 rfl rfl Try.sizeOf31 rfl) rfl ?_
    refine pt_val (by decide) rfl (val_load_at (v := .slice (some ⟨b2, 0, none⟩) m.acs.length c2) 0 rfl rfl Try.isAgg31 rfl) rfl ?_
    refine pt_val (by decide) rfl (val_move (v := vInt (a : Nat)) rfl) rfl ?_
    refine pt_val (by decide) rfl (val_indexAddr_slice (m := 1) a a rfl rfl Try.underlying31 Try.sizeOf4 rfl han (by omega)) rfl ?_
    refine pt_do (by decide) rfl (does_store_to (v := .bool false) _ 2 rfl rfl rfl rfl Try.sizeOf4 hlt2 rfl) fun _ _ => ?_
    refine pt_regionEnd (Pt.weaken (F' := [(0, vPtr sb), (6, vInt a), (7, vInt m.moves.length), (8, .bool true)]) (M' := fun w => MAt v0 sb (.slice (some ⟨pb, po, none⟩) ps.length pc) (m.acs.set a ⟨(j : Int), false, false⟩) (rdyB a m.moves.length o m.bd) m.moves w) ⟨rfl, rfl, rfl, rfl, trivial⟩ (fun w hw => ?_) ?_)
    · have := mat_wt (x := false) hca h1 hs2 h3 h4 h5 hw
      have e : ({ c with waits := false } : Ac) = ⟨(j : Int), false, false⟩ := by obtain ⟨p1, p2, p3⟩ := c; simp only at hj hov; subst hj hov; rfl
      rw [e] at this; exact this
    clear hm hset2 hs2 hlt2 h1 h2 h3 h4 h5 hM
    refine Pt.world fun w hM => ?_
    obtain ⟨s1, s2, s3, bs, ms, e1, e2, e3, eb, em, h1, h2, h3, h4, h5, hm⟩ := hM.ex
    rw [List.length_set] at h1
    obtain ⟨b1, c1, rest1, rfl, rfl, hlt1, hset1⟩ := rowE_set h1 han
    have hs1 := hset1 (vInt (j + 1 : Nat))
    have hx := pl_at (rest := rest1) (hself ⟨(j : Int), false, false⟩) rfl
    refine Pt.imp (fun u hu => hu ▸ hm) (pt_seq (pt_region ?_))
    refine pt_val (by decide) rfl (val_move (v := vPtr sb) rfl) rfl ?_
    refine pt_val (by decide) rfl (val_nilCheck (a := ⟨sb, 0, none⟩) rfl) rfl ?_ (tame_nilCheck rfl)
    refine pt_val (by decide) rfl (val_fieldAddr (b := sb) (o := 0) (e := 1) rfl Try.underlying35 rfl rfl Try.sizeOf23 rfl) rfl ?_
    refine pt_val (by decide) rfl (val_load_at (v := .slice (some ⟨b1, 0, none⟩) m.acs.length c1) 0 rfl rfl Try.isAgg23 rfl) rfl ?_
    refine pt_val (by decide) rfl (val_move (v := vInt (a : Nat)) rfl) rfl ?_
    refine pt_val (by decide) rfl (val_indexAddr_slice (m := 1) a a rfl rfl Try.underlying23 Try.sizeOf3 rfl han (by omega)) rfl ?_
    refine pt_val (by decide) rfl (val_load_at (v := vInt (j : Nat)) 1 rfl rfl Try.isAgg3 hx) rfl ?_
    refine pt_val (by decide) rfl (val_add_int (a := (j : Int)) (b := 1) _ rfl rfl rfl (by omega)) rfl ?_ (tame_int rfl rfl)
    refine pt_val (by decide) rfl (val_indexAddr_slice (m := 1) a a rfl rfl Try.underlying23 Try.sizeOf3 rfl han (by omega)) rfl ?_
    refine pt_do (by decide) rfl (does_store_to (v := vInt (j + 1 : Nat)) _ 1 rfl rfl rfl rfl Try.sizeOf3 hlt1 rfl) fun _ _ => ?_
    refine pt_regionEnd (Pt.weaken (F' := [(0, vPtr sb), (6, vInt a), (7, vInt m.moves.length), (8, .bool true)]) (M' := fun w => MAt v0 sb (.slice (some ⟨pb, po, none⟩) ps.length pc) (m.acs.set a ⟨((j + 1 : Nat) : Int), false, false⟩) (rdyB a m.moves.length o m.bd) m.moves w) ⟨rfl, rfl, rfl, rfl, trivial⟩ (fun w hw => ?_) ?_)
    · have := mat_pl (x := (j + 1 : Nat)) (hself ⟨(j : Int), false, false⟩) (by rw [List.length_set]; exact hs1) h2 h3 h4 h5 hw
      rw [hset] at this
      exact this
    refine pt_region ?_
    refine pt_val (by decide) rfl (val_move (v := vPtr sb) rfl) rfl ?_
    refine pt_val (by decide) rfl (val_move (v := vInt (a : Nat)) rfl) rfl ?_
    refine pt_val (by decide) rfl (val_move (v := vInt (m.moves.length : Nat)) rfl) rfl ?_
    refine pt_call (T := fun w r _ u => r = .returned (.tuple #[]) ∧ MAt v0 sb (.slice (some ⟨pb, po, none⟩) ps.length pc) (m.acs.set a (runL a m.moves.length ((ps.getD a []).drop (j + 1)) (j + 1) (rdyB a m.moves.length o m.bd)).1) (runL a m.moves.length ((ps.getD a []).drop (j + 1)) (j + 1) (rdyB a m.moves.length o m.bd)).2 m.moves u) (by decide) rfl (callsTo (xs := [.tmp 93, .tmp 94, .tmp 95]) (vs := [vPtr sb, vInt a, vInt m.moves.length]) Try.func37 rfl (by decide) rfl) (by infer_instance) (fun w hw => callI_of_v ((rrun_v hGG (hsl _) (hself _) (by omega) hl1 (by omega) hw).mono fun r u hu => ⟨hu.1, by rw [← hset ⟨((j + 1 : Nat) : Int), false, false⟩]; exact hu.2⟩)) (fun t' ht => by cases ht; rfl) (fun w r x' hw => ?_) (fun w ch x' hw a w' hf hl => ?_)
    · exact Pt.imp (fun u hu => hu.2) (pt_regionEnd (pt_inBlock (hend true _ _ _ ⟨rfl, rfl, rfl, trivial⟩ (hacp _ (by rw [hans])))))
    · obtain ⟨z, ⟨hz, _⟩, _⟩ := hl; cases hz
  · -- it goes on
    have hcc : c = ⟨(j : Int), false, false⟩ := by obtain ⟨p1, p2, p3⟩ := c; simp only at hj hov hwt; subst hj hov hwt; rfl
    refine pt_region ?_
    refine pt_val (by decide) rfl (val_move (v := vPtr sb) rfl) rfl ?_
    refine pt_val (by decide) rfl (val_move (v := vInt (a : Nat)) rfl) rfl ?_
    refine pt_val (by decide) rfl (val_move (v := vInt (m.moves.length : Nat)) rfl) rfl ?_
    refine pt_call (T := fun w r _ u => r = .returned (.tuple #[]) ∧ MAt v0 sb (.slice (some ⟨pb, po, none⟩) ps.length pc) (m.acs.set a (runL a m.moves.length ((ps.getD a []).drop j) j m.bd).1) (runL a m.moves.length ((ps.getD a []).drop j) j m.bd).2 m.moves u) (by decide) rfl (callsTo (xs := [.tmp 26, .tmp 27, .tmp 28]) (vs := [vPtr sb, vInt a, vInt m.moves.length]) Try.func37 rfl (by decide) rfl) (by infer_instance) (fun w hw => callI_of_v (rrun_v hGG hW.len (hcc ▸ hca) (by omega) hl1 (by omega) (hback _ hw))) (fun t' ht => by cases ht; rfl) (fun w r x' hw => ?_) (fun w ch x' hw a w' hf hl => ?_)
    · refine Pt.imp (fun u hu => hu.2) (pt_regionEnd (hend true _ _ _ ⟨rfl, rfl, rfl, trivial⟩ ?_))
      unfold acPick; rw [if_neg (by rw [hov]; simp), if_neg hneg, if_neg (by rw [hwt]; simp), hjt]
    · obtain ⟨z, ⟨hz, _⟩, _⟩ := hl; cases hz
end
end Go.Bt
end
section
namespace Go.Bt
variable [Gnd]
open Go.Conc Go.ConcN Go.RowKit Go.Proofs
theorem rdyB_len (a k : Int) (o : Ins) (B : Bd) : (rdyB a k o B).notes.length ≤ B.notes.length + 1 := by
  unfold rdyB; split
  · simp [Bd.note]
  · omega
theorem rdyB_pks (a k : Int) (o : Ins) (B : Bd) (h : B.pks.length = B.notes.length) : (rdyB a k o B).pks.length = (rdyB a k o B).notes.length := by
  unfold rdyB; split
  · simp [Bd.note, h]
  · exact h
theorem runL_len (a k : Int) : ∀ (l : List Ins) (j : Nat) (B : Bd), (runL a k l j B).2.notes.length ≤ B.notes.length + l.length
  | [], j, B => by simp [runL]
  | o :: r, j, B => by
    have hn : ∀ x, (B.note a x k).notes.length = B.notes.length + 1 := fun x => by simp [Bd.note]
    have hb := rdyB_len a k o B
    unfold runL
    split
    · have := runL_len a k r (j + 1) (B.note a o.2 k); rw [hn] at this; simp only [List.length_cons]; omega
    split
    · have := runL_len a k r (j + 1) (B.note a k k); rw [hn] at this; simp only [List.length_cons]; omega
    split
    · simp only [List.length_cons]; omega
    split
    · split
      · simp only [List.length_cons]; omega
      · simp only [List.length_cons]; omega
      · have := runL_len a k r (j + 1) (rdyB a k o B); simp only [List.length_cons]; omega
    split
    · simp only [List.length_cons]; omega
    · have := runL_len a k r (j + 1) B; simp only [List.length_cons]; omega
theorem runL_pks (a k : Int) : ∀ (l : List Ins) (j : Nat) (B : Bd), B.pks.length = B.notes.length → (runL a k l j B).2.pks.length = (runL a k l j B).2.notes.length
  | [], j, B, h => by simpa [runL] using h
  | o :: r, j, B, h => by
    have hn : ∀ x, (B.note a x k).pks.length = (B.note a x k).notes.length := fun x => by simp [Bd.note, h]
    have hb := rdyB_pks a k o B h
    unfold runL
    split
    · exact runL_pks a k r (j + 1) _ (hn _)
    split
    · exact runL_pks a k r (j + 1) _ (hn _)
    split
    · exact h
    split
    · split
      · exact hb
      · exact hb
      · exact runL_pks a k r (j + 1) _ hb
    split
    · exact h
    · exact runL_pks a k r (j + 1) _ h
theorem runL_le (a k : Int) : ∀ (l : List Ins) (j : Nat) (B : Bd), (runL a k l j B).1.pl ≤ (j : Int) + l.length ∧ ((runL a k l j B).1.waits = true → (runL a k l j B).1.pl < (j : Int) + l.length)
  | [], j, B => ⟨by simp [runL], fun h => by simp [runL] at h⟩
  | o :: r, j, B => by
    have hr : ∀ B', (runL a k r (j + 1) B').1.pl ≤ (j : Int) + (o :: r).length ∧ ((runL a k r (j + 1) B').1.waits = true → (runL a k r (j + 1) B').1.pl < (j : Int) + (o :: r).length) := fun B' => by
      have := runL_le a k r (j + 1) B'
      simp only [List.length_cons]
      exact ⟨by have := this.1; omega, fun h => by have := this.2 h; omega⟩
    unfold runL
    split
    · exact hr _
    split
    · exact hr _
    split
    · exact ⟨by simp only [List.length_cons]; omega, fun h => by cases h⟩
    split
    · split
      · exact ⟨by simp only [List.length_cons]; omega, fun _ => by simp only [List.length_cons]; omega⟩
      · exact ⟨by simp only [List.length_cons]; omega, fun h => by cases h⟩
      · exact hr _
    split
    · exact ⟨by simp only [List.length_cons]; omega, fun h => by cases h⟩
    · exact hr _
/-- What is asked of an actor. -/
structure AcOk (p : List Ins) (c : Ac) : Prop where
  fresh : c.pl < 0 → c = ⟨-1, false, false⟩
  le : c.pl ≤ (p.length : Int)
  waits : c.waits = true → c.over = false → c.pl < (p.length : Int)
theorem runL_ok (a k : Int) (p : List Ins) {j : Nat} (hj : j ≤ p.length) (B : Bd) : AcOk p (runL a k (p.drop j) j B).1 := by
  have h1 := runL_le a k (p.drop j) j B
  have h2 := (runL_pl a k (p.drop j) j B).1
  rw [List.length_drop] at h1
  exact ⟨fun h => by omega, by have := h1.1; omega, fun h _ => by have := h1.2 h; omega⟩
theorem acPick_ok (a k : Int) (p : List Ins) (c : Ac) (B : Bd) (h : AcOk p c) : AcOk p (acPick a k p c B).1 := by
  unfold acPick
  split
  · exact h
  split
  · exact runL_ok a k p (Nat.zero_le _) B
  rename_i hneg
  have hl := h.le
  split
  · rename_i hw
    split
    · exact h
    · rename_i o ho
      have hlt := (List.getElem?_eq_some_iff.1 ho).1
      split
      · exact h
      · exact ⟨fun h' => absurd h' hneg, h.le, fun _ h' => by cases h'⟩
      · exact runL_ok a k p (by omega) _
  · exact runL_ok a k p (by omega) B
theorem acPick_len (a k : Int) (p : List Ins) (c : Ac) (B : Bd) : (acPick a k p c B).2.1.notes.length ≤ B.notes.length + p.length := by
  unfold acPick
  split
  · simp only; omega
  split
  · exact runL_len a k p 0 B
  split
  · split
    · simp only; omega
    · rename_i o ho
      have hlt := (List.getElem?_eq_some_iff.1 ho).1
      have hb := rdyB_len a k o B
      split
      · simp only; omega
      · simp only; omega
      · have := runL_len a k (p.drop (c.pl.toNat + 1)) (c.pl.toNat + 1) (rdyB a k o B)
        rw [List.length_drop] at this
        simp only; omega
  · have := runL_len a k (p.drop c.pl.toNat) c.pl.toNat B
    rw [List.length_drop] at this
    simp only; omega
theorem acPick_pks (a k : Int) (p : List Ins) (c : Ac) (B : Bd) (h : B.pks.length = B.notes.length) : (acPick a k p c B).2.1.pks.length = (acPick a k p c B).2.1.notes.length := by
  unfold acPick
  split
  · exact h
  split
  · exact runL_pks a k p 0 B h
  split
  · split
    · exact h
    · have hb := rdyB_pks a k ‹_› B h
      split
      · exact hb
      · exact hb
      · exact runL_pks a k _ _ _ hb
  · exact runL_pks a k _ _ B h
section
variable {ps : List (List Ins)} {qs : List Int}
theorem mac_ok (hn : 0 < ps.length) : ∀ k, WM ps (macN ps qs k)
  | 0 => ⟨List.length_replicate, fun i c h _ => by
      simp only [macN, mac0, List.getElem?_replicate] at h; split at h <;> cases h; rfl, fun i c h => by
      simp only [macN, mac0, List.getElem?_replicate] at h; split at h <;> cases h; show (-1 : Int) ≤ _; omega, fun i c h hw => by
      simp only [macN, mac0, List.getElem?_replicate] at h; split at h <;> cases h; cases hw⟩
  | k + 1 => by
    have ih := mac_ok hn k
    have hc : ∀ i c, (macN ps qs (k + 1)).acs[i]? = some c → AcOk (ps.getD i []) c := by
      intro i c h
      have hold : ∀ i c, (macN ps qs k).acs[i]? = some c → AcOk (ps.getD i []) c := fun i c h => ⟨ih.fresh i c h, ih.le i c h, ih.waits i c h⟩
      rw [mac_step hn k] at h
      simp only at h
      rw [List.getElem?_set] at h
      split at h
      · rename_i e
        subst e
        split at h
        · rename_i hlt
          cases h
          refine acPick_ok _ _ _ _ _ (hold _ _ ?_)
          unfold acN; rw [List.getElem?_eq_getElem hlt]; rfl
        · cases h
      · exact hold i c h
    exact ⟨(mac_len hn (k + 1)).1, fun i c h => (hc i c h).fresh, fun i c h => (hc i c h).le, fun i c h => (hc i c h).waits⟩
theorem mac_notes (hn : 0 < ps.length) {L : Nat} (hL : ∀ p ∈ ps, p.length ≤ L) : ∀ k, (macN ps qs k).bd.notes.length ≤ k * L
  | 0 => by simp [macN, mac0]
  | k + 1 => by
    have h1 := mac_notes hn hL k
    have h2 := acPick_len (whoOf ps.length qs k) k (ps.getD (whoOf ps.length qs k) []) (acN ps qs (whoOf ps.length qs k) k) (macN ps qs k).bd
    have hlt := whoOf_lt hn qs k
    have h3 : (ps.getD (whoOf ps.length qs k) []).length ≤ L := hL _ (by rw [List.getD_eq_getElem?_getD, List.getElem?_eq_getElem hlt]; exact List.getElem_mem hlt)
    rw [bd_step hn k, Nat.succ_mul]
    omega
theorem mac_pks (hn : 0 < ps.length) : ∀ k, (macN ps qs k).bd.pks.length = (macN ps qs k).bd.notes.length
  | 0 => rfl
  | k + 1 => by rw [bd_step hn k]; exact acPick_pks _ _ _ _ _ (mac_pks hn k)
theorem len_le_sum : ∀ {ps : List (List Ins)} {p : List Ins}, p ∈ ps → p.length ≤ (ps.map List.length).sum
  | a :: l, p, h => by
    rw [List.map_cons, List.sum_cons]
    rcases List.mem_cons.1 h with rfl | h
    · omega
    · have := len_le_sum h; omega
theorem mac_nil : ∀ k, macN [] qs k = mac0 0
  | 0 => rfl
  | k + 1 => by
    rw [macN, mac_nil k]; unfold Mac.pick mac0; simp
/-- Behind all picks. -/
def finM (ps : List (List Ins)) (qs : List Int) (calm : Bool) : Mac := macN ps qs (qs.length + calmJ ps qs calm)
structure Fit (ps : List (List Ins)) (qs : List Int) : Prop where
  n : ps.length ≤ 40
  s : (ps.map List.length).sum ≤ 2000
  q : qs.length ≤ 4000
theorem fit_iff : isFit ps qs = true ↔ Fit ps qs := by
  unfold isFit; rw [decide_eq_true_iff]; exact ⟨fun ⟨a, b, c⟩ => ⟨a, b, c⟩, fun ⟨a, b, c⟩ => ⟨a, b, c⟩⟩
theorem Fit.notes (h : Fit ps qs) (hn : 0 < ps.length) {k : Nat} (hk : k ≤ 104000) : (macN ps qs k).bd.notes.length ≤ 208000000 := by
  have := mac_notes (qs := qs) hn (L := 2000) (fun p hp => Nat.le_trans (len_le_sum hp) h.s) k
  omega
theorem Fit.pre (h : Fit ps qs) (hn : 0 < ps.length) {K : Nat} (hK : K ≤ 104000) : Pre ps qs K where
  n := hn
  big := fun k hk => by
    have h1 := h.notes hn (k := k) (by omega)
    have h2 := mac_pks (qs := qs) hn k
    omega
theorem Fit.pl (h : Fit ps qs) (a : Nat) : (ps.getD a []).length ≤ 2000 := by
  rw [List.getD_eq_getElem?_getD]
  cases e : ps[a]? with
  | none => simp
  | some p => exact Nat.le_trans (len_le_sum (List.mem_of_getElem? e)) h.s
end
end Go.Bt
end
section
namespace Go.Sx
variable [Gnd]
open Go.Conc Go.Proofs
section
variable {P : Program} {X : Type} {R : X → Co P} {b : Frame} {cs : List Frame} {x : X} {k : List Item} {F : Fr} {M : World → Prop}
theorem pt_retM {fn : Func} {c : Frame} {v : Value} [hS : Stb M] (hf : P.funcs[b.fn]? = some fn) (hk : b.kind = .normal) (hv : ∀ a w, Fits fn.ntmps F a → M w → (results fn a.tmps).Pl P ∧ (results fn a.tmps).run P w = .ok v w)
    (h : ∀ w, Lf M w → ReI R x (G (c.finish v) cs) w) : Pt R fn.ntmps b (c :: cs) x (.code .ret :: k) F M := fun a w hfit hm =>
  reI_go rfl (fun _ => stepG_ret) (@re_back _ P (R x) a w b fn _ c cs v hf hk hfit.defers (fun w₁ h₁ => let ⟨es, h2, h3⟩ := pl_ok_same (hv a (pz w₁) hfit (hm.rely h₁).here).1 (hv a (pz w₁) hfit (hm.rely h₁).here).2; ⟨es, h2, @DD.good _ P (R x) _ _ _ h3⟩) (h w hm))
theorem res_cell {fn : Func} {a : Act} {w : World} {t : Nat} {T U : TypeId} {b m : Nat} {w0 : World} {olds : List Nat} {l : List Ent} {xs : List Value} (i : Nat) (hr : fn.results = #[.cell t T]) (hf : Fits fn.ntmps F a) (hv : look F t = some (.pointer (some ⟨b, 0, none⟩)))
    (hm : Mem w0 olds l w) (hp : pick l i = some (b, blk xs U)) (hA : ∀ w, (isAgg T).run P w = .ok true w) (hS : ∀ w, (sizeOf T).run P w = .ok m w) (hl : xs.length = m) : (results fn a.tmps).Pl P ∧ (results fn a.tmps).run P w = .ok (.agg xs.toArray) w := by
  refine ⟨?_, ?_⟩
  · unfold results
    rw [hr]
    simp only [List.mapM_toArray, List.mapM_cons, List.mapM_nil]
    exact pl_bind (pl_bind (pl_bind (pl_bind (by unfold asAddr; split <;> trivial) fun _ => pl_loadVar _ _) fun _ => pl_bind (s := pure _) trivial fun _ => trivial) fun _ => trivial) fun _ => trivial
  · have h1 := loadVar_agg (P := P) (b := b) (o := 0) (hA w) (hS w) hl (fun j v hj => by rw [Nat.zero_add, hm.cellAt hp]; exact hj)
    have h2 : a.tmps[t]?.getD undef = .pointer (some ⟨b, 0, none⟩) := by
      rw [hf.has t _ hv]; rfl
    simp only [results, hr]
    simp [h2, asAddr, h1]
end
open Go.Bt
section
variable [C : Co Try.prog]
noncomputable def c16b : Code := match Try.f16.body with | some (.seq _ (.seq _ (.seq _ (.seq _ (.seq (.seq _ (.block _ (.loop (.seq _ (.seq _ (.seq (.block _ c) _)))))) _))))) => c | _ => .skip
set_option maxRecDepth 100000 in
set_option maxHeartbeats 4000000 in
theorem sw_16_7 {v0 : World} {sb n i t6 m : Nat} {calm : Bool} {pv qv s1 s2 s3 bs ms : Value} {xs : List Value} {e1 e2 e3 eb em : Ent} (hr : RowE s1 3 1 m xs e1) (hk : m + 1 ≤ 8796093022208) :
    SW Try.prog 70 (cL c16b) [(7, vPtr sb), (25, vInt n), (26, vInt i), (0, pv), (1, qv), (2, .bool calm), (6, vPtr t6), (8, vInt n)] (Mem v0 [] [some (sb, blk [pv, s1, s2, s3, bs, ms] 35), e1, e2, e3, eb, em]) (fun ex F' w => ex = .normal ∧ Sub [(7, vPtr sb), (25, vInt n), (26, vInt i), (0, pv), (1, qv), (2, .bool calm), (6, vPtr t6), (8, vInt n)] F' ∧ ∃ s1' e1', RowE s1' 3 1 (m + 1) (xs ++ [vI (-1)]) e1' ∧ Mem v0 [] [some (sb, blk [pv, s1', s2, s3, bs, ms] 35), e1', e2, e3, eb, em] w) := by
  obtain ⟨ti, hi, hz, hsz, hby⟩ : ∃ i, Try.prog.info? 3 = some i ∧ i.zero = some (vInt 0) ∧ i.size = 1 ∧ i.bytes = 8 := ⟨_, rfl, rfl, rfl, rfl⟩
  obtain ⟨av, cv, rfl, hkc⟩ := hr.slice
  show SW Try.prog 70 (Code.region 7 _ false) _ _ _
  refine sw_region ?_
  refine ow_val (val_fieldAddr (b := sb) (o := 0) (e := 1) rfl Try.underlying35 rfl rfl Try.sizeOf23 rfl) rfl ?_
  refine ow_val (val_load_at (v := .slice av m cv) 0 rfl rfl Try.isAgg23 rfl) rfl ?_
  refine ow_make (acts_buildSlice (cs := [vI (-1)]) Try.underlying23 Try.sizeOf3 Try.zeroValue3 rfl rfl (by kernel_rfl)) rfl (fun bb hbb => ?_)
  refine ow_append' (k := m + 1) (acts_append (size := 1) (bytes := 8) (ys := [vI (-1)]) 2 rfl rfl rfl hr rfl Try.underlying23 hi hz hsz hby rfl (by decide) (fun w hm => Rd.own hm (i := 0) rfl rfl) rfl (by intro u hu; simp only [List.mem_cons, List.not_mem_nil, or_false] at hu; subst hu; rfl) (by omega) (by omega)) rfl (fun a5 c5 e5 hr5 => ?_)
  refine ow_val (val_fieldAddr (b := sb) (o := 0) (e := 1) rfl Try.underlying35 rfl rfl Try.sizeOf23 rfl) rfl ?_
  refine ow_do_eq (does_store_to [pv, .slice a5 (m + 1) c5, s2, s3, bs, ms] 1 rfl rfl rfl rfl Try.sizeOf23 (by simp) rfl) ?_
  exact ow_nil fun w hw => ⟨rfl, ⟨rfl, rfl, rfl, rfl, rfl, rfl, rfl, rfl, trivial⟩, _, e5, hr5, hw.forget⟩
set_option maxRecDepth 100000 in
set_option maxHeartbeats 4000000 in
theorem sw_16_8 {v0 : World} {sb n i t6 m : Nat} {calm : Bool} {pv qv s1 s2 s3 bs ms : Value} {xs : List Value} {e1 e2 e3 eb em : Ent} (hr : RowE s2 4 1 m xs e2) (hk : m + 1 ≤ 8796093022208) :
    SW Try.prog 70 (cL (cR c16b)) [(7, vPtr sb), (25, vInt n), (26, vInt i), (0, pv), (1, qv), (2, .bool calm), (6, vPtr t6), (8, vInt n)] (Mem v0 [] [some (sb, blk [pv, s1, s2, s3, bs, ms] 35), e1, e2, e3, eb, em]) (fun ex F' w => ex = .normal ∧ Sub [(7, vPtr sb), (25, vInt n), (26, vInt i), (0, pv), (1, qv), (2, .bool calm), (6, vPtr t6), (8, vInt n)] F' ∧ ∃ s2' e2', RowE s2' 4 1 (m + 1) (xs ++ [.bool false]) e2' ∧ Mem v0 [] [some (sb, blk [pv, s1, s2', s3, bs, ms] 35), e1, e2', e3, eb, em] w) := by
  obtain ⟨ti, hi, hz, hsz, hby⟩ : ∃ i, Try.prog.info? 4 = some i ∧ i.zero = some (.bool false) ∧ i.size = 1 ∧ i.bytes = 1 := ⟨_, rfl, rfl, rfl, rfl⟩
  obtain ⟨av, cv, rfl, hkc⟩ := hr.slice
  show SW Try.prog 70 (Code.region 8 _ false) _ _ _
  refine sw_region ?_
  refine ow_val (val_fieldAddr (b := sb) (o := 0) (e := 2) rfl Try.underlying35 rfl rfl Try.sizeOf31 rfl) rfl ?_
  refine ow_val (val_load_at (v := .slice av m cv) 0 rfl rfl Try.isAgg31 rfl) rfl ?_
  refine ow_make (acts_buildSlice (cs := [.bool false]) Try.underlying31 Try.sizeOf4 Try.zeroValue4 rfl rfl (by kernel_rfl)) rfl (fun bb hbb => ?_)
  refine ow_append' (k := m + 1) (acts_append (size := 1) (bytes := 1) (ys := [.bool false]) 3 rfl rfl rfl hr rfl Try.underlying31 hi hz hsz hby rfl (by decide) (fun w hm => Rd.own hm (i := 0) rfl rfl) rfl (by intro u hu; simp only [List.mem_cons, List.not_mem_nil, or_false] at hu; subst hu; rfl) (by omega) (by omega)) rfl (fun a5 c5 e5 hr5 => ?_)
  refine ow_val (val_fieldAddr (b := sb) (o := 0) (e := 2) rfl Try.underlying35 rfl rfl Try.sizeOf31 rfl) rfl ?_
  refine ow_do_eq (does_store_to [pv, s1, .slice a5 (m + 1) c5, s3, bs, ms] 1 rfl rfl rfl rfl Try.sizeOf31 (by simp) rfl) ?_
  exact ow_nil fun w hw => ⟨rfl, ⟨rfl, rfl, rfl, rfl, rfl, rfl, rfl, rfl, trivial⟩, _, e5, hr5, hw.forget⟩
set_option maxRecDepth 100000 in
set_option maxHeartbeats 4000000 in
theorem sw_16_9 {v0 : World} {sb n i t6 m : Nat} {calm : Bool} {pv qv s1 s2 s3 bs ms : Value} {xs : List Value} {e1 e2 e3 eb em : Ent} (hr : RowE s3 4 1 m xs e3) (hk : m + 1 ≤ 8796093022208) :
    SW Try.prog 70 (cR (cR c16b)) [(7, vPtr sb), (25, vInt n), (26, vInt i), (0, pv), (1, qv), (2, .bool calm), (6, vPtr t6), (8, vInt n)] (Mem v0 [] [some (sb, blk [pv, s1, s2, s3, bs, ms] 35), e1, e2, e3, eb, em]) (fun ex F' w => ex = .normal ∧ Sub [(7, vPtr sb), (25, vInt n), (26, vInt i), (0, pv), (1, qv), (2, .bool calm), (6, vPtr t6), (8, vInt n)] F' ∧ ∃ s3' e3', RowE s3' 4 1 (m + 1) (xs ++ [.bool false]) e3' ∧ Mem v0 [] [some (sb, blk [pv, s1, s2, s3', bs, ms] 35), e1, e2, e3', eb, em] w) := by
  obtain ⟨ti, hi, hz, hsz, hby⟩ : ∃ i, Try.prog.info? 4 = some i ∧ i.zero = some (.bool false) ∧ i.size = 1 ∧ i.bytes = 1 := ⟨_, rfl, rfl, rfl, rfl⟩
  obtain ⟨av, cv, rfl, hkc⟩ := hr.slice
  show SW Try.prog 70 (Code.region 9 _ false) _ _ _
  refine sw_region ?_
  refine ow_val (val_fieldAddr (b := sb) (o := 0) (e := 3) rfl Try.underlying35 rfl rfl Try.sizeOf31 rfl) rfl ?_
  refine ow_val (val_load_at (v := .slice av m cv) 0 rfl rfl Try.isAgg31 rfl) rfl ?_
  refine ow_make (acts_buildSlice (cs := [.bool false]) Try.underlying31 Try.sizeOf4 Try.zeroValue4 rfl rfl (by kernel_rfl)) rfl (fun bb hbb => ?_)
  refine ow_append' (k := m + 1) (acts_append (size := 1) (bytes := 1) (ys := [.bool false]) 4 rfl rfl rfl hr rfl Try.underlying31 hi hz hsz hby rfl (by decide) (fun w hm => Rd.own hm (i := 0) rfl rfl) rfl (by intro u hu; simp only [List.mem_cons, List.not_mem_nil, or_false] at hu; subst hu; rfl) (by omega) (by omega)) rfl (fun a5 c5 e5 hr5 => ?_)
  refine ow_val (val_fieldAddr (b := sb) (o := 0) (e := 3) rfl Try.underlying35 rfl rfl Try.sizeOf31 rfl) rfl ?_
  refine ow_do_eq (does_store_to [pv, s1, s2, .slice a5 (m + 1) c5, bs, ms] 1 rfl rfl rfl rfl Try.sizeOf31 (by simp) rfl) ?_
  exact ow_nil fun w hw => ⟨rfl, ⟨rfl, rfl, rfl, rfl, rfl, rfl, rfl, rfl, trivial⟩, _, e5, hr5, hw.forget⟩
noncomputable def c16_3 : Code := match Try.f16.body with | some (.seq _ (.seq _ (.seq _ (.seq (.seq c _) _)))) => c | _ => .skip
set_option maxRecDepth 100000 in
set_option maxHeartbeats 4000000 in
theorem sw_16_3 {M : World → Prop} [Stb M] {sb n t6 : Nat} {calm : Bool} {pv qv : Value} : SW Try.prog 70 c16_3 [(7, vPtr sb), (0, pv), (1, qv), (2, .bool calm), (6, vPtr t6), (8, vInt n)] M (fun ex F' w => ex = .normal ∧ Sub ((22, .bool (decide (n < 1 ∨ 1000 < n))) :: [(7, vPtr sb), (0, pv), (1, qv), (2, .bool calm), (6, vPtr t6), (8, vInt n)]) F' ∧ M w) := by
  show SW Try.prog 70 (Code.region 3 _ false) _ _ _
  refine sw_region ?_
  refine ow_val (val_move (v := vInt n) rfl) rfl ?_
  refine ow_val (val_lss_int (a := (n : Int)) (b := 1) rfl rfl) rfl ?_ (tame_int rfl rfl)
  refine ow_val (val_move (v := .bool (decide ((n : Int) < 1))) rfl) rfl ?_
  by_cases h : n < 1
  · rw [decide_eq_true (show (n : Int) < 1 by omega)]
    refine ow_guard_no (t := 19) rfl rfl rfl rfl rfl ?_
    refine ow_guard_no (t := 19) rfl rfl rfl rfl rfl ?_
    refine ow_val (val_pick_true (v := .bool true) rfl rfl) rfl ?_
    exact ow_nil fun w hw => ⟨rfl, ⟨by show some (Value.bool _) = _; simp [h], rfl, rfl, rfl, rfl, rfl, rfl, trivial⟩, hw⟩
  · rw [decide_eq_false (show ¬ (n : Int) < 1 by omega)]
    refine ow_guard_yes (t := 19) rfl rfl rfl (ow_val (val_move (v := vInt n) rfl) rfl ?_)
    refine ow_guard_yes (t := 19) rfl rfl rfl (ow_val (val_gtr_int (a := (n : Int)) (b := 1000) rfl rfl) rfl ?_ (tame_int rfl rfl))
    refine ow_val (val_pick_false (v := .bool (decide ((n : Int) > 1000))) rfl rfl) rfl ?_
    exact ow_nil fun w hw => ⟨rfl, ⟨by show some (Value.bool _) = _; simp [h]; omega, rfl, rfl, rfl, rfl, rfl, rfl, trivial⟩, hw⟩
noncomputable def c16l : Code := match Try.f16.body with | some (.seq _ (.seq _ (.seq _ (.seq _ (.seq _ (.seq _ (.seq (.seq _ (.cond _ (.seq _ (.seq _ (.block _ (.loop c)))) _)) _))))))) => c | _ => .skip
set_option maxRecDepth 100000 in
set_option maxHeartbeats 4000000 in
theorem sw_16_19 {M : World → Prop} [Stb M] {sb n t6 q j : Nat} : SW Try.prog 70 (cL (cL c16l)) [(7, vPtr sb), (6, vPtr t6), (8, vInt n), (11, vInt q), (12, vInt j)] M (fun ex F' w => ex = .normal ∧ Sub ((60, .bool (decide (j < 100000 ∧ q < n))) :: [(7, vPtr sb), (6, vPtr t6), (8, vInt n), (11, vInt q), (12, vInt j)]) F' ∧ M w) := by
  show SW Try.prog 70 (Code.region 19 _ false) _ _ _
  refine sw_region ?_
  refine ow_val (val_move (v := vInt j) rfl) rfl ?_
  refine ow_val (val_lss_int (a := (j : Int)) (b := 100000) rfl rfl) rfl ?_ (tame_int rfl rfl)
  refine ow_val (val_move (v := .bool (decide ((j : Int) < 100000))) rfl) rfl ?_
  by_cases h : j < 100000
  · rw [decide_eq_true (show (j : Int) < 100000 by omega)]
    refine ow_guard_yes (t := 56) rfl rfl rfl (ow_val (val_move (v := vInt q) rfl) rfl ?_)
    refine ow_guard_yes (t := 56) rfl rfl rfl (ow_val (val_move (v := vInt n) rfl) rfl ?_)
    refine ow_guard_yes (t := 56) rfl rfl rfl (ow_val (val_lss_int (a := (q : Int)) (b := (n : Int)) rfl rfl) rfl ?_ (tame_int rfl rfl))
    refine ow_val (val_pick_true (v := .bool (decide ((q : Int) < n))) rfl rfl) rfl ?_
    exact ow_nil fun w hw => ⟨rfl, ⟨by show some (Value.bool _) = _; simp [h], rfl, rfl, rfl, rfl, rfl, trivial⟩, hw⟩
  · rw [decide_eq_false (show ¬ (j : Int) < 100000 by omega)]
    refine ow_guard_no (t := 56) rfl rfl rfl rfl rfl ?_
    refine ow_guard_no (t := 56) rfl rfl rfl rfl rfl ?_
    refine ow_guard_no (t := 56) rfl rfl rfl rfl rfl ?_
    refine ow_val (val_pick_false (v := .bool false) rfl rfl) rfl ?_
    exact ow_nil fun w hw => ⟨rfl, ⟨by show some (Value.bool _) = _; simp [h], rfl, rfl, rfl, rfl, rfl, trivial⟩, hw⟩
end
end Go.Sx
end
