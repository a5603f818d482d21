/- A PLAY OF THE BATON: what the row rests on. -/
import Derived.Test.YtjiajflhfnmkmaaPq
set_option linter.unusedVariables false
set_option linter.unusedSimpArgs false
set_option linter.unusedSectionVars false
section
namespace Go.Sx
variable [Gnd]
open Go.Conc Go.Proofs
theorem val_rem_to {P : Program} {n : Nat} {F : Fr} {S : World → Prop} {ty T V : TypeId} {x y : Operand} {a b r : Int} (hx : ev F x = some (vInt a)) (hy : ev F y = some (vInt b)) (hb : b ≠ 0) (h : a.tmod b = r) : Val P n F S (.binOp .rem T x y V) ty (vInt r) := h ▸ val_rem_int hx hy hb
open Go.Bt
set_option maxRecDepth 100000 in
set_option maxHeartbeats 4000000 in
/-- The moves grow. -/
theorem rmove_sw [C : Co Try.prog] {v0 : World} {sb : Nat} {pv s1 s2 s3 bs ms : Value} {a : Nat} {x : Bool} {xs : List Value} {m : Nat} {e1 e2 e3 eb em : Ent} (hr : RowE ms 66 2 m xs em) (hk : m + 1 ≤ 8796093022208) :
    SW Try.prog 110 (match Try.f26.body with | some (.seq _ (.seq _ (.seq _ (.seq _ (.seq _ (.seq _ (.seq c _))))))) => c | _ => .skip) [(0, vPtr sb), (6, vInt a), (8, .bool x)] (Mem v0 [] [some (sb, blk [pv, s1, s2, s3, bs, ms] 35), e1, e2, e3, eb, em]) (fun ex F' w => ex = .normal ∧ Sub [(8, .bool x)] F' ∧ ∃ ms' em', RowE ms' 66 2 (m + 1) (xs ++ [vInt a, .bool x]) em' ∧ Mem v0 [] [some (sb, blk [pv, s1, s2, s3, bs, ms'] 35), e1, e2, e3, eb, em'] w) := by
  obtain ⟨ti, hi, hz, hsz, hby⟩ : ∃ i, Try.prog.info? 66 = some i ∧ i.zero = some (.agg #[vInt 0, .bool false]) ∧ i.size = 2 ∧ i.bytes = 16 := ⟨_, rfl, rfl, rfl, rfl⟩
  obtain ⟨av, cv, rfl, hkc⟩ := hr.slice
  show SW Try.prog 110 (Code.region 21 _ false) _ _ _
  refine sw_region ?_
  refine ow_val (val_move (v := vPtr sb) rfl) rfl ?_
  refine ow_val (val_move (v := vPtr sb) rfl) rfl ?_
  refine ow_val (val_nilCheck (a := ⟨sb, 0, none⟩) rfl) rfl ?_ (tame_nilCheck rfl)
  refine ow_val (val_fieldAddr (b := sb) (o := 0) (e := 5) rfl Try.underlying35 rfl rfl Try.sizeOf33 rfl) rfl ?_
  refine ow_val (val_load_at (v := .slice av m cv) 0 rfl rfl Try.isAgg33 rfl) rfl ?_
  refine ow_val (val_move (v := vInt (a : Nat)) rfl) rfl ?_
  refine ow_val (val_move (v := .bool x) rfl) rfl ?_
  refine ow_val (val_build' (parts := _) (vs := [(0, vInt a), (1, .bool x)]) (cs := [vInt a, .bool x]) rfl (by kernel_rfl)) rfl ?_
  refine ow_make (acts_buildSlice (cs := [vInt a, .bool x]) Try.underlying33 Try.sizeOf66 Try.zeroValue66 rfl rfl (by kernel_rfl)) rfl (fun bb hbb => ?_)
  refine ow_append' (k := m + 1) (acts_append (size := 2) (bytes := 16) (ys := [vInt a, .bool x]) 6 rfl rfl rfl hr rfl Try.underlying33 hi hz hsz hby rfl (by decide) (fun w hm => Rd.own hm (i := 0) rfl rfl) rfl (by intro u hu; simp only [List.mem_cons, List.not_mem_nil, or_false] at hu; rcases hu with rfl | rfl <;> rfl) (by omega) (by omega)) rfl (fun a5 c5 e5 hr5 => ?_)
  refine ow_val (val_nilCheck (a := ⟨sb, 0, none⟩) rfl) rfl ?_ (tame_nilCheck rfl)
  refine ow_val (val_fieldAddr (b := sb) (o := 0) (e := 5) rfl Try.underlying35 rfl rfl Try.sizeOf33 rfl) rfl ?_
  refine ow_do_eq (does_store_to [pv, s1, s2, s3, bs, .slice a5 (m + 1) c5] 1 rfl rfl rfl rfl Try.sizeOf33 (by simp) rfl) ?_
  exact ow_nil fun w hw => ⟨rfl, ⟨rfl, trivial⟩, _, e5, hr5, hw.forget⟩
end Go.Sx
namespace Go.Bt
variable [Gnd]
open Go.Conc Go.ConcN Go.RowKit Go.Proofs
open Go.Sx (Rly RV pz pzo pz_heap spec isWg Gud Co blk RowE Rd Mem CallV vInt SW Sub callV_of_callI callI_of_pt CallI Pt pt_seq pt_sw pt_back pt_ret pt_region pt_regionEnd pt_val pt_block pt_inBlock pt_exit pt_if pt_cond pt_skip pt_do pt_draw pt_call pt_act pt_loop_inv val_assign val_move val_load val_nilCheck val_fieldAddr val_len val_geq_int val_lss_int val_eql_int val_add_int val_rem_int val_rem_to val_load_elem val_load_at val_indexAddr_slice val_pick_true val_pick_false acts_alloc does_store_all does_store_to tame_nilCheck tame_int callsTo res_nothing res_slot Lf ReI Stb re_fall pick_v slots rnote_sw rend_sw rowE_set rmove_sw look upd pick keys sw_region sw_region_lex lw_pure lw_held lw_nil lw_do lw_call_pure lw_new mem_of_rv ow_val ow_nil ow_guard_yes ow_guard_no)
/-- The machine is well made. -/
structure WM (ps : List (List Ins)) (m : Mac) : Prop where
  len : m.acs.length = ps.length
  fresh : ∀ (i : Nat) (c : Ac), m.acs[i]? = some c → c.pl < 0 → c = ⟨-1, false, false⟩
  le : ∀ (i : Nat) (c : Ac), m.acs[i]? = some c → c.pl ≤ ((ps.getD i []).length : Int)
  waits : ∀ (i : Nat) (c : Ac), m.acs[i]? = some c → c.waits = true → c.over = false → c.pl < ((ps.getD i []).length : Int)
theorem ov_at {acs : List Ac} {a : Nat} {c : Ac} {rest : List Value} (ha : acs[a]? = some c) : (ovL acs ++ rest)[a]? = some (.bool c.over) := by
  rw [List.getElem?_append_left (by unfold ovL; rw [List.length_map]; exact (List.getElem?_eq_some_iff.1 ha).1)]
  unfold ovL; rw [List.getElem?_map, ha, Option.map_some]
theorem wt_at {acs : List Ac} {a : Nat} {c : Ac} {rest : List Value} (ha : acs[a]? = some c) : (wtL acs ++ rest)[a]? = some (.bool c.waits) := by
  rw [List.getElem?_append_left (by unfold wtL; rw [List.length_map]; exact (List.getElem?_eq_some_iff.1 ha).1)]
  unfold wtL; rw [List.getElem?_map, ha, Option.map_some]
theorem plx_at {acs : List Ac} {a : Nat} {c : Ac} {rest : List Value} (ha : acs[a]? = some c) : (plL acs ++ rest)[a]? = some (vI c.pl) := by
  rw [List.getElem?_append_left (by unfold plL; rw [List.length_map]; exact (List.getElem?_eq_some_iff.1 ha).1)]
  unfold plL; rw [List.getElem?_map, ha, Option.map_some]
section
variable [C : Co Try.prog]
noncomputable def c26e : Code := cR (cR (cR (cR (cR (cR (Try.f26.body.getD .skip))))))
set_option maxRecDepth 100000 in
set_option maxHeartbeats 16000000 in
/-- A pick. -/
theorem rpick_v {v0 v : World} {sb a : Nat} {q : Int} {pv : Value} {ps : List (List Ins)} {m : Mac} (hn0 : 0 < ps.length) (hn1 : ps.length ≤ 4611686018427387904) (hG : PrgV v0 pv ps) (hW : WM ps m) (ha' : q % (ps.length : Int) = (a : Int)) (hB : m.bd.notes.length + (ps.getD a []).length + 1 ≤ 8796093022207) (hmv : m.moves.length + 1 ≤ 8796093022208) (hM : MAt v0 sb pv m.acs m.bd m.moves v) :
    CallV Try.prog 26 #[vPtr sb, vI q] v (fun r u => r = .returned (.bool (acPick a m.moves.length (ps.getD a []) (m.acs[a]?.getD ⟨-1, false, false⟩) m.bd).2.2) ∧ MAt v0 sb pv (m.pick ps a).acs (m.pick ps a).bd (m.pick ps a).moves u) := by
  have hGG := hG
  have hplen := hG.len
  obtain ⟨pa, pc, rfl, hp⟩ := hG.ex
  have hlt : a < ps.length := by
    have h1 : q % (ps.length : Int) < ps.length := Int.emod_lt_of_pos q (by omega)
    omega
  have han : a < m.acs.length := by rw [hW.len]; exact hlt
  obtain ⟨c, hca⟩ : ∃ c, m.acs[a]? = some c := ⟨_, List.getElem?_eq_getElem han⟩
  have hl1 : (ps.getD a []).length ≤ 4611686018427387904 := hplen _ (by rw [List.getD_eq_getElem?_getD, List.getElem?_eq_getElem hlt]; exact List.getElem_mem hlt)
  obtain ⟨pb, po, a', qc, rfl, hc, hrd⟩ := prog_at hp (i := a) hlt
  have hself : ∀ c : Ac, (m.acs.set a c)[a]? = some c := fun c => List.getElem?_set_self han
  have hset : ∀ c c' : Ac, (m.acs.set a c).set a c' = m.acs.set a c' := fun c c' => List.set_set ..
  have hsl : ∀ c : Ac, (m.acs.set a c).length = ps.length := fun c => by rw [List.length_set]; exact hW.len
  have hr1 : Int.tmod q ps.length < ps.length := Int.tmod_lt_of_pos q (by omega)
  have hr2 : -(ps.length : Int) < Int.tmod q ps.length := Int.lt_tmod_of_pos q (by omega)
  have hpk : ∀ (r : Ac × Bd × Bool), acPick a m.moves.length (ps.getD a []) c m.bd = r → m.pick ps a = ⟨m.acs.set a r.1, r.2.1, m.moves ++ [((a : Int), r.2.2)]⟩ := fun r hr => by
    unfold Mac.pick; rw [hca]; simp only [hr]
  rw [hca, Option.getD_some]
  obtain ⟨s1, s2, s3, bs, ms, e1, e2, e3, eb, em, h1, h2, h3, h4, h5, hm⟩ := hM.ex
  obtain ⟨b1, c1, rest1, rfl, rfl, hlt1, hset1⟩ := rowE_set h1 han
  obtain ⟨b2, c2, rest2, rfl, rfl, hlt2, hset2⟩ := rowE_set h2 han
  obtain ⟨b3, c3, rest3, rfl, rfl, hlt3, hset3⟩ := rowE_set h3 han
  obtain ⟨av, cv, rfl, hkc⟩ := h5.slice
  refine callV_of_callI (callI_of_pt (vs := [vPtr sb, vI q]) Try.func26 rfl rfl fun cf cs g1 g2 => ?_)
  -- behind it
  have hend : ∀ (x : Bool) (c' : Ac) (B' : Bd) (F : Go.Sx.Fr), Sub [(0, vPtr sb), (6, vInt a), (8, .bool x)] F → acPick a m.moves.length (ps.getD a []) c m.bd = (c', B', x) → Pt (fun _ : Unit => C) 110 (Go.Sx.fr0 26) (cf :: cs) () [.inBlock 0, .code c26e] F (fun w => MAt v0 sb (.slice (some ⟨pb, po, none⟩) ps.length pc) (m.acs.set a c') B' m.moves w) := by
    intro x c' B' F hF hx
    refine Pt.weaken hF (fun _ h => h) (pt_inBlock (Pt.world fun w hM => ?_))
    obtain ⟨s1, s2, s3, bs, ms, e1, e2, e3, eb, em, h1, h2, h3, h4, h5, hm⟩ := hM.ex
    refine Pt.imp (fun u hu => hu ▸ hm) (pt_seq ?_)
    refine pt_sw (by decide) (rmove_sw (a := a) (x := x) h5 hmv) (fun F' z hq => ?_) (fun ex F' z hne hq => hne hq.1)
    obtain ⟨-, hF, ms', em', hr', hz⟩ := hq
    refine Pt.weaken hF (M' := fun u => MAt v0 sb (.slice (some ⟨pb, po, none⟩) ps.length pc) (m.pick ps a).acs (m.pick ps a).bd (m.pick ps a).moves u) (fun u hu => ?_) (pt_seq (pt_region ?_))
    · subst hu
      rw [hpk _ hx]
      refine ⟨_, _, _, _, _, _, _, _, _, _, h1, h2, h3, h4, ?_, hz⟩
      rw [List.length_append]
      have : flatM (m.moves ++ [((a : Int), x)]) = flatM m.moves ++ [vInt a, .bool x] := by unfold flatM; rw [List.flatMap_append]; rfl
      rw [this]; exact hr'
    refine pt_val (by decide) rfl (val_move (v := .bool x) rfl) rfl ?_
    refine pt_val (by decide) rfl (val_assign (v := .bool x) rfl) rfl ?_
    exact pt_regionEnd (pt_ret (fn := Try.f26) (v := .bool x) Try.func26 rfl (fun a hf => res_slot rfl rfl hf) fun w hw => g1 _ () w (hw.mono fun z hz => ⟨by rw [hx], hz⟩))
  have hback : ∀ u, Mem v0 [] [some (sb, blk [.slice (some ⟨pb, po, none⟩) ps.length pc, .slice (some ⟨b1, 0, none⟩) m.acs.length c1, .slice (some ⟨b2, 0, none⟩) m.acs.length c2, .slice (some ⟨b3, 0, none⟩) m.acs.length c3, bs, .slice av m.moves.length cv] 35), some (b1, blk (plL m.acs ++ rest1) 3), some (b2, blk (wtL m.acs ++ rest2) 4), some (b3, blk (ovL m.acs ++ rest3) 4), eb, em] u → MAt v0 sb (.slice (some ⟨pb, po, none⟩) ps.length pc) m.acs m.bd m.moves u := fun u hu => ⟨_, _, _, _, _, _, _, _, _, _, h1, h2, h3, h4, h5, hu⟩
  refine Pt.imp (M' := Mem v0 [] [some (sb, blk [.slice (some ⟨pb, po, none⟩) ps.length pc, .slice (some ⟨b1, 0, none⟩) m.acs.length c1, .slice (some ⟨b2, 0, none⟩) m.acs.length c2, .slice (some ⟨b3, 0, none⟩) m.acs.length c3, bs, .slice av m.moves.length cv] 35), some (b1, blk (plL m.acs ++ rest1) 3), some (b2, blk (wtL m.acs ++ rest2) 4), some (b3, blk (ovL m.acs ++ rest3) 4), eb, em]) (fun w hw => hw ▸ hm) (pt_seq (pt_region ?_))
  refine pt_val (by decide) rfl (val_assign (v := .bool false) rfl) rfl ?_
  refine pt_regionEnd (pt_seq (pt_region ?_))
  refine pt_val (by decide) rfl (val_move (v := vPtr sb) rfl) rfl ?_
  refine pt_val (by decide) rfl (val_nilCheck (a := ⟨sb, 0, none⟩) rfl) rfl ?_ (tame_nilCheck rfl)
  refine pt_val (by decide) rfl (val_fieldAddr (b := sb) (o := 0) (e := 0) rfl Try.underlying35 rfl rfl Try.sizeOf22 rfl) rfl ?_
  refine pt_val (by decide) rfl (val_load_at (v := .slice (some ⟨pb, po, none⟩) ps.length pc) 0 rfl rfl Try.isAgg22 rfl) rfl ?_
  refine pt_val (by decide) rfl (val_len (len := ps.length) rfl Try.underlying22) rfl ?_
  refine pt_val (by decide) rfl (val_assign (v := vInt (ps.length : Nat)) rfl) rfl ?_
  refine pt_regionEnd (pt_seq (pt_region ?_))
  refine pt_val (by decide) rfl (val_move (v := vI q) rfl) rfl ?_
  refine pt_val (by decide) rfl (val_move (v := vInt (ps.length : Nat)) rfl) rfl ?_
  refine pt_val (by decide) rfl (val_rem_int (a := q) (b := (ps.length : Nat)) rfl rfl (by omega)) rfl ?_ (tame_int rfl rfl)
  refine pt_val (by decide) rfl (val_move (v := vInt (ps.length : Nat)) rfl) rfl ?_
  refine pt_val (by decide) rfl (val_add_int (a := Int.tmod q ps.length) (b := (ps.length : Nat)) (Int.tmod q ps.length + ps.length) rfl rfl rfl (by omega)) rfl ?_ (tame_int rfl rfl)
  refine pt_val (by decide) rfl (val_move (v := vInt (ps.length : Nat)) rfl) rfl ?_
  refine pt_val (by decide) rfl (val_rem_to (a := Int.tmod q ps.length + ps.length) (b := (ps.length : Nat)) (r := (a : Nat)) rfl rfl (by omega) (by rw [tmod_pick q hn0, ha'])) rfl ?_ (tame_int rfl rfl)
  refine pt_val (by decide) rfl (val_assign (v := vInt (a : Nat)) rfl) rfl ?_
  refine pt_regionEnd (pt_seq (pt_region ?_))
  refine pt_val (by decide) rfl (val_move (v := vPtr sb) rfl) rfl ?_
  refine pt_val (by decide) rfl (val_nilCheck (a := ⟨sb, 0, none⟩) rfl) rfl ?_ (tame_nilCheck rfl)
  refine pt_val (by decide) rfl (val_fieldAddr (b := sb) (o := 0) (e := 5) rfl Try.underlying35 rfl rfl Try.sizeOf33 rfl) rfl ?_
  refine pt_val (by decide) rfl (val_load_at (v := .slice av m.moves.length cv) 0 rfl rfl Try.isAgg33 rfl) rfl ?_
  refine pt_val (by decide) rfl (val_len (len := m.moves.length) rfl Try.underlying33) rfl ?_
  refine pt_val (by decide) rfl (val_assign (v := vInt (m.moves.length : Nat)) rfl) rfl ?_
  refine pt_regionEnd (pt_seq (pt_region ?_))
  refine pt_val (by decide) rfl (val_assign (v := .bool true) rfl) rfl ?_
  refine pt_regionEnd (pt_seq (pt_block ?_))
  refine Pt.weaken (F' := [(0, vPtr sb), (6, vInt a), (7, vInt m.moves.length), (8, .bool true)]) ⟨rfl, rfl, rfl, rfl, trivial⟩ (fun _ h => h) ?_
  refine pt_seq (pt_region ?_)
  refine pt_val (by decide) rfl (val_move (v := vPtr sb) rfl) rfl ?_
  refine pt_val (by decide) rfl (val_nilCheck (a := ⟨sb, 0, none⟩) rfl) rfl ?_ (tame_nilCheck rfl)
  refine pt_val (by decide) rfl (val_fieldAddr (b := sb) (o := 0) (e := 3) rfl Try.underlying35 rfl rfl Try.sizeOf31 rfl) rfl ?_
  refine pt_val (by decide) rfl (val_load_at (v := .slice (some ⟨b3, 0, none⟩) m.acs.length c3) 0 rfl rfl Try.isAgg31 rfl) rfl ?_
  refine pt_val (by decide) rfl (val_move (v := vInt (a : Nat)) rfl) rfl ?_
  refine pt_val (by decide) rfl (val_indexAddr_slice (m := 1) a a rfl rfl Try.underlying31 Try.sizeOf4 rfl han (by omega)) rfl ?_
  refine pt_val (by decide) rfl (val_load_at (v := .bool c.over) 3 rfl rfl Try.isAgg4 (ov_at hca)) rfl ?_
  refine pt_val (by decide) rfl (val_assign (v := .bool c.over) rfl) rfl ?_
  refine pt_regionEnd (pt_cond rfl (fun hov => ?_) (fun hov => ?_))
  · -- over
    refine pt_region ?_
    refine pt_val (by decide) rfl (val_assign (v := .bool false) rfl) rfl (pt_regionEnd ?_)
    refine Pt.imp (fun w hw => ?_) (hend false c m.bd _ ⟨rfl, rfl, rfl, trivial⟩ (pick_over hov))
    rw [set_same hca]; exact hback w hw
  refine pt_seq (pt_region ?_)
  refine pt_val (by decide) rfl (val_move (v := vPtr sb) rfl) rfl ?_
  refine pt_val (by decide) rfl (val_nilCheck (a := ⟨sb, 0, none⟩) rfl) rfl ?_ (tame_nilCheck rfl)
  refine pt_val (by decide) rfl (val_fieldAddr (b := sb) (o := 0) (e := 1) rfl Try.underlying35 rfl rfl Try.sizeOf23 rfl) rfl ?_
  refine pt_val (by decide) rfl (val_load_at (v := .slice (some ⟨b1, 0, none⟩) m.acs.length c1) 0 rfl rfl Try.isAgg23 rfl) rfl ?_
  refine pt_val (by decide) rfl (val_move (v := vInt (a : Nat)) rfl) rfl ?_
  refine pt_val (by decide) rfl (val_indexAddr_slice (m := 1) a a rfl rfl Try.underlying23 Try.sizeOf3 rfl han (by omega)) rfl ?_
  refine pt_val (by decide) rfl (val_load_at (v := vI c.pl) 1 rfl rfl Try.isAgg3 (plx_at hca)) rfl ?_
  refine pt_val (by decide) rfl (val_lss_int (a := c.pl) (b := 0) rfl rfl) rfl ?_ (tame_int rfl rfl)
  refine pt_val (by decide) rfl (val_assign (v := .bool (decide (c.pl < 0))) rfl) rfl ?_
  refine pt_regionEnd (pt_if rfl (fun hneg => ?_) (fun hneg => ?_))
  · -- it begins
    have hc0 := hW.fresh a c hca hneg
    subst hc0
    have hs1 := hset1 (vI 0)
    refine pt_seq (pt_region ?_)
    refine pt_val (by decide) rfl (val_move (v := vPtr sb) rfl) rfl ?_
    refine pt_val (by decide) rfl (val_nilCheck (a := ⟨sb, 0, none⟩) rfl) rfl ?_ (tame_nilCheck rfl)
    refine pt_val (by decide) rfl (val_fieldAddr (b := sb) (o := 0) (e := 1) rfl Try.underlying35 rfl rfl Try.sizeOf23 rfl) rfl ?_
    refine pt_val (by decide) rfl (val_load_at (v := .slice (some ⟨b1, 0, none⟩) m.acs.length c1) 0 rfl rfl Try.isAgg23 rfl) rfl ?_
    refine pt_val (by decide) rfl (val_move (v := vInt (a : Nat)) rfl) rfl ?_
    refine pt_val (by decide) rfl (val_indexAddr_slice (m := 1) a a rfl rfl Try.underlying23 Try.sizeOf3 rfl han (by omega)) rfl ?_
    refine pt_do (by decide) rfl (does_store_to (v := vI 0) _ 1 rfl rfl rfl rfl Try.sizeOf3 hlt1 rfl) fun _ _ => ?_
    refine pt_regionEnd (Pt.weaken (F' := [(0, vPtr sb), (6, vInt a), (7, vInt m.moves.length), (8, .bool true)]) (M' := fun w => MAt v0 sb (.slice (some ⟨pb, po, none⟩) ps.length pc) (m.acs.set a ⟨((0 : Nat) : Int), false, false⟩) m.bd m.moves w) ⟨rfl, rfl, rfl, rfl, trivial⟩ (fun w hw => ?_) ?_)
    · exact mat_pl (x := 0) hca hs1 h2 h3 h4 h5 hw
    refine pt_region ?_
    refine pt_val (by decide) rfl (val_move (v := vPtr sb) rfl) rfl ?_
    refine pt_val (by decide) rfl (val_move (v := vInt (a : Nat)) rfl) rfl ?_
    refine pt_val (by decide) rfl (val_move (v := vInt (m.moves.length : Nat)) rfl) rfl ?_
    refine pt_call (T := fun w r _ u => r = .returned (.tuple #[]) ∧ MAt v0 sb (.slice (some ⟨pb, po, none⟩) ps.length pc) (m.acs.set a (runL a m.moves.length (ps.getD a []) 0 m.bd).1) (runL a m.moves.length (ps.getD a []) 0 m.bd).2 m.moves u) (by decide) rfl (callsTo (xs := [.tmp 53, .tmp 54, .tmp 55]) (vs := [vPtr sb, vInt a, vInt m.moves.length]) Try.func37 rfl (by decide) rfl) (by infer_instance) (fun w hw => callI_of_v ((rrun_v hGG (hsl _) (hself _) (Nat.zero_le _) hl1 (by omega) hw).mono fun r u hu => ⟨hu.1, by rw [← hset ⟨((0 : Nat) : Int), false, false⟩]; exact hu.2⟩)) (fun t' ht => by cases ht; rfl) (fun w r x' hw => ?_) (fun w ch x' hw a w' hf hl => ?_)
    · refine Pt.imp (fun u hu => hu.2) (pt_regionEnd (hend true _ _ _ ⟨rfl, rfl, rfl, trivial⟩ ?_))
      unfold acPick; rw [if_neg (by decide), if_pos (by decide)]
    · obtain ⟨z, ⟨hz, _⟩, _⟩ := hl; cases hz
  obtain ⟨j, hj⟩ : ∃ j : Nat, c.pl = (j : Int) := ⟨c.pl.toNat, by omega⟩
  have hjt : c.pl.toNat = j := by omega
  have hjl := hW.le a c hca
  refine pt_seq (pt_region ?_)
  refine pt_val (by decide) rfl (val_move (v := vPtr sb) rfl) rfl ?_
  refine pt_val (by decide) rfl (val_nilCheck (a := ⟨sb, 0, none⟩) rfl) rfl ?_ (tame_nilCheck rfl)
  refine pt_val (by decide) rfl (val_fieldAddr (b := sb) (o := 0) (e := 2) rfl Try.underlying35 rfl rfl Try.sizeOf31 rfl) rfl ?_
  refine pt_val (by decide) rfl (val_load_at (v := .slice (some ⟨b2, 0, none⟩) m.acs.length c2) 0 rfl rfl Try.isAgg31 rfl) rfl ?_
  refine pt_val (by decide) rfl (val_move (v := vInt (a : Nat)) rfl) rfl ?_
  refine pt_val (by decide) rfl (val_indexAddr_slice (m := 1) a a rfl rfl Try.underlying31 Try.sizeOf4 rfl han (by omega)) rfl ?_
  refine pt_val (by decide) rfl (val_load_at (v := .bool c.waits) 2 rfl rfl Try.isAgg4 (wt_at hca)) rfl ?_
  refine pt_val (by decide) rfl (val_assign (v := .bool c.waits) rfl) rfl ?_
  refine pt_regionEnd (pt_cond rfl (fun hwt => ?_) (fun hwt => ?_))
  · -- it waits
    have hjw := hW.waits a c hca hwt hov
    have hgo : (ps.getD a [])[j]? = some ((ps.getD a []).getD j default) := get_getD (by omega)
    generalize (ps.getD a []).getD j default = o at hgo
    have hbl : (rdyB a m.moves.length o m.bd).notes.length ≤ m.bd.notes.length + 1 := by
      unfold rdyB; split
      · simp [Bd.note]
      · omega
    have hacp : ∀ r, (match rdyA a m.moves.length o m.bd with
      | .no => (c, rdyB a m.moves.length o m.bd, false)
      | .broken => (⟨c.pl, true, true⟩, rdyB a m.moves.length o m.bd, true)
      | .yes => let r := runL a m.moves.length ((ps.getD a []).drop (j + 1)) (j + 1) (rdyB a m.moves.length o m.bd); (r.1, r.2, true)) = r → acPick a m.moves.length (ps.getD a []) c m.bd = r := fun r hr => by
      unfold acPick; rw [if_neg (by rw [hov]; simp), if_neg hneg, if_pos hwt, hjt, hgo]; exact hr
    refine pt_seq (pt_region ?_)
    refine pt_val (by decide) rfl (val_move (v := vPtr sb) rfl) rfl ?_
    refine pt_val (by decide) rfl (val_move (v := vInt (a : Nat)) rfl) rfl ?_
    refine pt_val (by decide) rfl (val_move (v := vInt (m.moves.length : Nat)) rfl) rfl ?_
    refine pt_call (T := fun w r _ u => r = .returned (vI (ansN (rdyA a m.moves.length o m.bd))) ∧ MAt v0 sb (.slice (some ⟨pb, po, none⟩) ps.length pc) m.acs (rdyB a m.moves.length o m.bd) m.moves u) (by decide) rfl (callsTo (xs := [.tmp 65, .tmp 66, .tmp 67]) (vs := [vPtr sb, vInt a, vInt m.moves.length]) Try.func38 rfl (by decide) rfl) (by infer_instance) (fun w hw => callI_of_v (rready_v hGG hW.len hca hj hgo (by omega) (hback _ hw))) (fun t' ht => by cases ht; rfl) (fun w r x' hw => ?_) (fun w ch x' hw a w' hf hl => ?_)
    rotate_left
    · obtain ⟨z, ⟨hz, _⟩, _⟩ := hl; cases hz
    refine Pt.world fun z hz => ?_
    obtain ⟨hr, hz⟩ := hz
    obtain rfl : r = vI (ansN (rdyA a m.moves.length o m.bd)) := by cases hr; rfl
    clear hr hw
    refine pt_regionEnd (Pt.weaken (F' := (68, vI (ansN (rdyA a m.moves.length o m.bd))) :: [(0, vPtr sb), (6, vInt a), (7, vInt m.moves.length), (8, .bool true)]) (M' := fun u => MAt v0 sb (.slice (some ⟨pb, po, none⟩) ps.length pc) m.acs (rdyB a m.moves.length o m.bd) m.moves u) ⟨rfl, rfl, rfl, rfl, rfl, trivial⟩ (fun u hu => hu ▸ hz) (pt_block (pt_seq (pt_region ?_))))
    refine pt_val (by decide) rfl (val_eql_int (a := (ansN (rdyA a m.moves.length o m.bd))) (b := 0) rfl rfl) rfl ?_ (tame_int rfl rfl)
    refine pt_val (by decide) rfl (val_assign (v := .bool (decide ((ansN (rdyA a m.moves.length o m.bd)) = 0))) rfl) rfl ?_
    refine pt_regionEnd (pt_if rfl (fun hno => ?_) (fun hno => ?_))
    · have hans : rdyA a m.moves.length o m.bd = .no := by cases e : rdyA a m.moves.length o m.bd <;> rw [e] at hno <;> first | rfl | cases hno
      refine pt_region ?_
      refine pt_val (by decide) rfl (val_assign (v := .bool false) rfl) rfl (pt_regionEnd (pt_inBlock ?_))
      refine Pt.imp (fun w hw => ?_) (hend false c (rdyB a m.moves.length o m.bd) _ ⟨rfl, rfl, rfl, trivial⟩ (hacp _ (by rw [hans])))
      rw [set_same hca]; exact hw
    refine pt_seq (pt_region ?_)
    refine pt_val (by decide) rfl (val_eql_int (a := (ansN (rdyA a m.moves.length o m.bd))) (b := 2) rfl rfl) rfl ?_ (tame_int rfl rfl)
    refine pt_val (by decide) rfl (val_assign (v := .bool (decide ((ansN (rdyA a m.moves.length o m.bd)) = 2))) rfl) rfl ?_
    refine pt_regionEnd (pt_if rfl (fun hbr => ?_) (fun hbr => ?_))
    · have hans : rdyA a m.moves.length o m.bd = .broken := by cases e : rdyA a m.moves.length o m.bd <;> rw [e] at hbr <;> first | rfl | cases hbr
      refine pt_region ?_
      refine pt_val (by decide) rfl (val_move (v := vPtr sb) rfl) rfl ?_
      refine pt_val (by decide) rfl (val_move (v := vInt (a : Nat)) rfl) rfl ?_
      refine pt_call (T := fun w r _ u => r = .returned (.tuple #[]) ∧ MAt v0 sb (.slice (some ⟨pb, po, none⟩) ps.length pc) (m.acs.set a { c with over := true }) (rdyB a m.moves.length o m.bd) m.moves u) (by decide) rfl (callsTo (xs := [.tmp 73, .tmp 74]) (vs := [vPtr sb, vInt a]) Try.func39 rfl (by decide) rfl) (by infer_instance) (fun w hw => callI_of_v (rend_v hca hw)) (fun t' ht => by cases ht; rfl) (fun w r x' hw => ?_) (fun w ch x' hw a w' hf hl => ?_)
      · refine Pt.imp (fun u hu => hu.2) (pt_regionEnd (pt_inBlock (hend true _ _ _ ⟨rfl, rfl, rfl, trivial⟩ (hacp _ (by rw [hans]; simp [hwt])))))
      · obtain ⟨z, ⟨hz, _⟩, _⟩ := hl; cases hz
    have hans : rdyA a m.moves.length o m.bd = .yes := by cases e : rdyA a m.moves.length o m.bd <;> rw [e] at hbr hno <;> first | rfl | exact absurd rfl hbr | exact absurd rfl hno
    refine pt_seq (pt_region ?_)
    refine pt_val (by decide) rfl (val_eql_int (a := (ansN (rdyA a m.moves.length o m.bd))) (b := 1) rfl rfl) rfl ?_ (tame_int rfl rfl)
    refine pt_val (by decide) rfl (val_assign (v := .bool (decide ((ansN (rdyA a m.moves.length o m.bd)) = 1))) rfl) rfl ?_
    refine pt_regionEnd (Go.Sx.pt_true (by show some (Value.bool _) = _; rw [hans]; rfl) ?_)
    clear hz
    refine Pt.world fun w hM => ?_
    obtain ⟨s1, s2, s3, bs, ms, e1, e2, e3, eb, em, h1, h2, h3, h4, h5, hm⟩ := hM.ex
    obtain ⟨b2, c2, rest2, rfl, rfl, hlt2, hset2⟩ := rowE_set h2 han
    have hs2 := hset2 (.bool false)
    refine Pt.imp (fun u hu => hu ▸ hm) (pt_seq (pt_region ?_))
    refine pt_val (by decide) rfl (val_move (v := vPtr sb) rfl) rfl ?_
    refine pt_val (by decide) rfl (val_nilCheck (a := ⟨sb, 0, none⟩) rfl) rfl ?_ (tame_nilCheck rfl)
    refine pt_val (by decide) rfl (val_fieldAddr (b := sb) (o := 0) (e := 2) rfl Try.underlying35 rfl rfl Try.sizeOf31 rfl) rfl ?_
    refine pt_val (by decide) rfl (val_load_at (v := .slice (some ⟨b2, 0, none⟩) m.acs.length c2) 0 rfl rfl Try.isAgg31 rfl) rfl ?_
    refine pt_val (by decide) rfl (val_move (v := vInt (a : Nat)) rfl) rfl ?_
    refine pt_val (by decide) rfl (val_indexAddr_slice (m := 1) a a rfl rfl Try.underlying31 Try.sizeOf4 rfl han (by omega)) rfl ?_
    refine pt_do (by decide) rfl (does_store_to (v := .bool false) _ 2 rfl rfl rfl rfl Try.sizeOf4 hlt2 rfl) fun _ _ => ?_
    refine pt_regionEnd (Pt.weaken (F' := [(0, vPtr sb), (6, vInt a), (7, vInt m.moves.length), (8, .bool true)]) (M' := fun w => MAt v0 sb (.slice (some ⟨pb, po, none⟩) ps.length pc) (m.acs.set a ⟨(j : Int), false, false⟩) (rdyB a m.moves.length o m.bd) m.moves w) ⟨rfl, rfl, rfl, rfl, trivial⟩ (fun w hw => ?_) ?_)
    · have := mat_wt (x := false) hca h1 hs2 h3 h4 h5 hw
      have e : ({ c with waits := false } : Ac) = ⟨(j : Int), false, false⟩ := by obtain ⟨p1, p2, p3⟩ := c; simp only at hj hov; subst hj hov; rfl
      rw [e] at this; exact this
    clear hm hset2 hs2 hlt2 h1 h2 h3 h4 h5 hM
    refine Pt.world fun w hM => ?_
    obtain ⟨s1, s2, s3, bs, ms, e1, e2, e3, eb, em, h1, h2, h3, h4, h5, hm⟩ := hM.ex
    rw [List.length_set] at h1
    obtain ⟨b1, c1, rest1, rfl, rfl, hlt1, hset1⟩ := rowE_set h1 han
    have hs1 := hset1 (vInt (j + 1 : Nat))
    have hx := pl_at (rest := rest1) (hself ⟨(j : Int), false, false⟩) rfl
    refine Pt.imp (fun u hu => hu ▸ hm) (pt_seq (pt_region ?_))
    refine pt_val (by decide) rfl (val_move (v := vPtr sb) rfl) rfl ?_
    refine pt_val (by decide) rfl (val_nilCheck (a := ⟨sb, 0, none⟩) rfl) rfl ?_ (tame_nilCheck rfl)
    refine pt_val (by decide) rfl (val_fieldAddr (b := sb) (o := 0) (e := 1) rfl Try.underlying35 rfl rfl Try.sizeOf23 rfl) rfl ?_
    refine pt_val (by decide) rfl (val_load_at (v := .slice (some ⟨b1, 0, none⟩) m.acs.length c1) 0 rfl rfl Try.isAgg23 rfl) rfl ?_
    refine pt_val (by decide) rfl (val_move (v := vInt (a : Nat)) rfl) rfl ?_
    refine pt_val (by decide) rfl (val_indexAddr_slice (m := 1) a a rfl rfl Try.underlying23 Try.sizeOf3 rfl han (by omega)) rfl ?_
    refine pt_val (by decide) rfl (val_load_at (v := vInt (j : Nat)) 1 rfl rfl Try.isAgg3 hx) rfl ?_
    refine pt_val (by decide) rfl (val_add_int (a := (j : Int)) (b := 1) _ rfl rfl rfl (by omega)) rfl ?_ (tame_int rfl rfl)
    refine pt_val (by decide) rfl (val_indexAddr_slice (m := 1) a a rfl rfl Try.underlying23 Try.sizeOf3 rfl han (by omega)) rfl ?_
    refine pt_do (by decide) rfl (does_store_to (v := vInt (j + 1 : Nat)) _ 1 rfl rfl rfl rfl Try.sizeOf3 hlt1 rfl) fun _ _ => ?_
    refine pt_regionEnd (Pt.weaken (F' := [(0, vPtr sb), (6, vInt a), (7, vInt m.moves.length), (8, .bool true)]) (M' := fun w => MAt v0 sb (.slice (some ⟨pb, po, none⟩) ps.length pc) (m.acs.set a ⟨((j + 1 : Nat) : Int), false, false⟩) (rdyB a m.moves.length o m.bd) m.moves w) ⟨rfl, rfl, rfl, rfl, trivial⟩ (fun w hw => ?_) ?_)
    · have := mat_pl (x := (j + 1 : Nat)) (hself ⟨(j : Int), false, false⟩) (by rw [List.length_set]; exact hs1) h2 h3 h4 h5 hw
      rw [hset] at this
      exact this
    refine pt_region ?_
    refine pt_val (by decide) rfl (val_move (v := vPtr sb) rfl) rfl ?_
    refine pt_val (by decide) rfl (val_move (v := vInt (a : Nat)) rfl) rfl ?_
    refine pt_val (by decide) rfl (val_move (v := vInt (m.moves.length : Nat)) rfl) rfl ?_
    refine pt_call (T := fun w r _ u => r = .returned (.tuple #[]) ∧ MAt v0 sb (.slice (some ⟨pb, po, none⟩) ps.length pc) (m.acs.set a (runL a m.moves.length ((ps.getD a []).drop (j + 1)) (j + 1) (rdyB a m.moves.length o m.bd)).1) (runL a m.moves.length ((ps.getD a []).drop (j + 1)) (j + 1) (rdyB a m.moves.length o m.bd)).2 m.moves u) (by decide) rfl (callsTo (xs := [.tmp 93, .tmp 94, .tmp 95]) (vs := [vPtr sb, vInt a, vInt m.moves.length]) Try.func37 rfl (by decide) rfl) (by infer_instance) (fun w hw => callI_of_v ((rrun_v hGG (hsl _) (hself _) (by omega) hl1 (by omega) hw).mono fun r u hu => ⟨hu.1, by rw [← hset ⟨((j + 1 : Nat) : Int), false, false⟩]; exact hu.2⟩)) (fun t' ht => by cases ht; rfl) (fun w r x' hw => ?_) (fun w ch x' hw a w' hf hl => ?_)
    · exact Pt.imp (fun u hu => hu.2) (pt_regionEnd (pt_inBlock (hend true _ _ _ ⟨rfl, rfl, rfl, trivial⟩ (hacp _ (by rw [hans])))))
    · obtain ⟨z, ⟨hz, _⟩, _⟩ := hl; cases hz
  · -- it goes on
    have hcc : c = ⟨(j : Int), false, false⟩ := by obtain ⟨p1, p2, p3⟩ := c; simp only at hj hov hwt; subst hj hov hwt; rfl
    refine pt_region ?_
    refine pt_val (by decide) rfl (val_move (v := vPtr sb) rfl) rfl ?_
    refine pt_val (by decide) rfl (val_move (v := vInt (a : Nat)) rfl) rfl ?_
    refine pt_val (by decide) rfl (val_move (v := vInt (m.moves.length : Nat)) rfl) rfl ?_
    refine pt_call (T := fun w r _ u => r = .returned (.tuple #[]) ∧ MAt v0 sb (.slice (some ⟨pb, po, none⟩) ps.length pc) (m.acs.set a (runL a m.moves.length ((ps.getD a []).drop j) j m.bd).1) (runL a m.moves.length ((ps.getD a []).drop j) j m.bd).2 m.moves u) (by decide) rfl (callsTo (xs := [.tmp 26, .tmp 27, .tmp 28]) (vs := [vPtr sb, vInt a, vInt m.moves.length]) Try.func37 rfl (by decide) rfl) (by infer_instance) (fun w hw => callI_of_v (rrun_v hGG hW.len (hcc ▸ hca) (by omega) hl1 (by omega) (hback _ hw))) (fun t' ht => by cases ht; rfl) (fun w r x' hw => ?_) (fun w ch x' hw a w' hf hl => ?_)
    · refine Pt.imp (fun u hu => hu.2) (pt_regionEnd (hend true _ _ _ ⟨rfl, rfl, rfl, trivial⟩ ?_))
      unfold acPick; rw [if_neg (by rw [hov]; simp), if_neg hneg, if_neg (by rw [hwt]; simp), hjt]
    · obtain ⟨z, ⟨hz, _⟩, _⟩ := hl; cases hz
end
end Go.Bt
end
section
namespace Go.Bt
variable [Gnd]
open Go.Conc Go.ConcN Go.RowKit Go.Proofs
theorem rdyB_len (a k : Int) (o : Ins) (B : Bd) : (rdyB a k o B).notes.length ≤ B.notes.length + 1 := by
  unfold rdyB; split
  · simp [Bd.note]
  · omega
theorem rdyB_pks (a k : Int) (o : Ins) (B : Bd) (h : B.pks.length = B.notes.length) : (rdyB a k o B).pks.length = (rdyB a k o B).notes.length := by
  unfold rdyB; split
  · simp [Bd.note, h]
  · exact h
theorem runL_len (a k : Int) : ∀ (l : List Ins) (j : Nat) (B : Bd), (runL a k l j B).2.notes.length ≤ B.notes.length + l.length
  | [], j, B => by simp [runL]
  | o :: r, j, B => by
    have hn : ∀ x, (B.note a x k).notes.length = B.notes.length + 1 := fun x => by simp [Bd.note]
    have hb := rdyB_len a k o B
    unfold runL
    split
    · have := runL_len a k r (j + 1) (B.note a o.2 k); rw [hn] at this; simp only [List.length_cons]; omega
    split
    · have := runL_len a k r (j + 1) (B.note a k k); rw [hn] at this; simp only [List.length_cons]; omega
    split
    · simp only [List.length_cons]; omega
    split
    · split
      · simp only [List.length_cons]; omega
      · simp only [List.length_cons]; omega
      · have := runL_len a k r (j + 1) (rdyB a k o B); simp only [List.length_cons]; omega
    split
    · simp only [List.length_cons]; omega
    · have := runL_len a k r (j + 1) B; simp only [List.length_cons]; omega
theorem runL_pks (a k : Int) : ∀ (l : List Ins) (j : Nat) (B : Bd), B.pks.length = B.notes.length → (runL a k l j B).2.pks.length = (runL a k l j B).2.notes.length
  | [], j, B, h => by simpa [runL] using h
  | o :: r, j, B, h => by
    have hn : ∀ x, (B.note a x k).pks.length = (B.note a x k).notes.length := fun x => by simp [Bd.note, h]
    have hb := rdyB_pks a k o B h
    unfold runL
    split
    · exact runL_pks a k r (j + 1) _ (hn _)
    split
    · exact runL_pks a k r (j + 1) _ (hn _)
    split
    · exact h
    split
    · split
      · exact hb
      · exact hb
      · exact runL_pks a k r (j + 1) _ hb
    split
    · exact h
    · exact runL_pks a k r (j + 1) _ h
theorem runL_le (a k : Int) : ∀ (l : List Ins) (j : Nat) (B : Bd), (runL a k l j B).1.pl ≤ (j : Int) + l.length ∧ ((runL a k l j B).1.waits = true → (runL a k l j B).1.pl < (j : Int) + l.length)
  | [], j, B => ⟨by simp [runL], fun h => by simp [runL] at h⟩
  | o :: r, j, B => by
    have hr : ∀ B', (runL a k r (j + 1) B').1.pl ≤ (j : Int) + (o :: r).length ∧ ((runL a k r (j + 1) B').1.waits = true → (runL a k r (j + 1) B').1.pl < (j : Int) + (o :: r).length) := fun B' => by
      have := runL_le a k r (j + 1) B'
      simp only [List.length_cons]
      exact ⟨by have := this.1; omega, fun h => by have := this.2 h; omega⟩
    unfold runL
    split
    · exact hr _
    split
    · exact hr _
    split
    · exact ⟨by simp only [List.length_cons]; omega, fun h => by cases h⟩
    split
    · split
      · exact ⟨by simp only [List.length_cons]; omega, fun _ => by simp only [List.length_cons]; omega⟩
      · exact ⟨by simp only [List.length_cons]; omega, fun h => by cases h⟩
      · exact hr _
    split
    · exact ⟨by simp only [List.length_cons]; omega, fun h => by cases h⟩
    · exact hr _
/-- What is asked of an actor. -/
structure AcOk (p : List Ins) (c : Ac) : Prop where
  fresh : c.pl < 0 → c = ⟨-1, false, false⟩
  le : c.pl ≤ (p.length : Int)
  waits : c.waits = true → c.over = false → c.pl < (p.length : Int)
theorem runL_ok (a k : Int) (p : List Ins) {j : Nat} (hj : j ≤ p.length) (B : Bd) : AcOk p (runL a k (p.drop j) j B).1 := by
  have h1 := runL_le a k (p.drop j) j B
  have h2 := (runL_pl a k (p.drop j) j B).1
  rw [List.length_drop] at h1
  exact ⟨fun h => by omega, by have := h1.1; omega, fun h _ => by have := h1.2 h; omega⟩
theorem acPick_ok (a k : Int) (p : List Ins) (c : Ac) (B : Bd) (h : AcOk p c) : AcOk p (acPick a k p c B).1 := by
  unfold acPick
  split
  · exact h
  split
  · exact runL_ok a k p (Nat.zero_le _) B
  rename_i hneg
  have hl := h.le
  split
  · rename_i hw
    split
    · exact h
    · rename_i o ho
      have hlt := (List.getElem?_eq_some_iff.1 ho).1
      split
      · exact h
      · exact ⟨fun h' => absurd h' hneg, h.le, fun _ h' => by cases h'⟩
      · exact runL_ok a k p (by omega) _
  · exact runL_ok a k p (by omega) B
theorem acPick_len (a k : Int) (p : List Ins) (c : Ac) (B : Bd) : (acPick a k p c B).2.1.notes.length ≤ B.notes.length + p.length := by
  unfold acPick
  split
  · simp only; omega
  split
  · exact runL_len a k p 0 B
  split
  · split
    · simp only; omega
    · rename_i o ho
      have hlt := (List.getElem?_eq_some_iff.1 ho).1
      have hb := rdyB_len a k o B
      split
      · simp only; omega
      · simp only; omega
      · have := runL_len a k (p.drop (c.pl.toNat + 1)) (c.pl.toNat + 1) (rdyB a k o B)
        rw [List.length_drop] at this
        simp only; omega
  · have := runL_len a k (p.drop c.pl.toNat) c.pl.toNat B
    rw [List.length_drop] at this
    simp only; omega
theorem acPick_pks (a k : Int) (p : List Ins) (c : Ac) (B : Bd) (h : B.pks.length = B.notes.length) : (acPick a k p c B).2.1.pks.length = (acPick a k p c B).2.1.notes.length := by
  unfold acPick
  split
  · exact h
  split
  · exact runL_pks a k p 0 B h
  split
  · split
    · exact h
    · have hb := rdyB_pks a k ‹_› B h
      split
      · exact hb
      · exact hb
      · exact runL_pks a k _ _ _ hb
  · exact runL_pks a k _ _ B h
section
variable {ps : List (List Ins)} {qs : List Int}
theorem mac_ok (hn : 0 < ps.length) : ∀ k, WM ps (macN ps qs k)
  | 0 => ⟨List.length_replicate, fun i c h _ => by
      simp only [macN, mac0, List.getElem?_replicate] at h; split at h <;> cases h; rfl, fun i c h => by
      simp only [macN, mac0, List.getElem?_replicate] at h; split at h <;> cases h; show (-1 : Int) ≤ _; omega, fun i c h hw => by
      simp only [macN, mac0, List.getElem?_replicate] at h; split at h <;> cases h; cases hw⟩
  | k + 1 => by
    have ih := mac_ok hn k
    have hc : ∀ i c, (macN ps qs (k + 1)).acs[i]? = some c → AcOk (ps.getD i []) c := by
      intro i c h
      have hold : ∀ i c, (macN ps qs k).acs[i]? = some c → AcOk (ps.getD i []) c := fun i c h => ⟨ih.fresh i c h, ih.le i c h, ih.waits i c h⟩
      rw [mac_step hn k] at h
      simp only at h
      rw [List.getElem?_set] at h
      split at h
      · rename_i e
        subst e
        split at h
        · rename_i hlt
          cases h
          refine acPick_ok _ _ _ _ _ (hold _ _ ?_)
          unfold acN; rw [List.getElem?_eq_getElem hlt]; rfl
        · cases h
      · exact hold i c h
    exact ⟨(mac_len hn (k + 1)).1, fun i c h => (hc i c h).fresh, fun i c h => (hc i c h).le, fun i c h => (hc i c h).waits⟩
theorem mac_notes (hn : 0 < ps.length) {L : Nat} (hL : ∀ p ∈ ps, p.length ≤ L) : ∀ k, (macN ps qs k).bd.notes.length ≤ k * L
  | 0 => by simp [macN, mac0]
  | k + 1 => by
    have h1 := mac_notes hn hL k
    have h2 := acPick_len (whoOf ps.length qs k) k (ps.getD (whoOf ps.length qs k) []) (acN ps qs (whoOf ps.length qs k) k) (macN ps qs k).bd
    have hlt := whoOf_lt hn qs k
    have h3 : (ps.getD (whoOf ps.length qs k) []).length ≤ L := hL _ (by rw [List.getD_eq_getElem?_getD, List.getElem?_eq_getElem hlt]; exact List.getElem_mem hlt)
    rw [bd_step hn k, Nat.succ_mul]
    omega
theorem mac_pks (hn : 0 < ps.length) : ∀ k, (macN ps qs k).bd.pks.length = (macN ps qs k).bd.notes.length
  | 0 => rfl
  | k + 1 => by rw [bd_step hn k]; exact acPick_pks _ _ _ _ _ (mac_pks hn k)
theorem len_le_sum : ∀ {ps : List (List Ins)} {p : List Ins}, p ∈ ps → p.length ≤ (ps.map List.length).sum
  | a :: l, p, h => by
    rw [List.map_cons, List.sum_cons]
    rcases List.mem_cons.1 h with rfl | h
    · omega
    · have := len_le_sum h; omega
theorem mac_nil : ∀ k, macN [] qs k = mac0 0
  | 0 => rfl
  | k + 1 => by
    rw [macN, mac_nil k]; unfold Mac.pick mac0; simp
/-- Behind all picks. -/
def finM (ps : List (List Ins)) (qs : List Int) (calm : Bool) : Mac := macN ps qs (qs.length + calmJ ps qs calm)
structure Fit (ps : List (List Ins)) (qs : List Int) : Prop where
  n : ps.length ≤ 40
  s : (ps.map List.length).sum ≤ 2000
  q : qs.length ≤ 4000
theorem fit_iff : isFit ps qs = true ↔ Fit ps qs := by
  unfold isFit; rw [decide_eq_true_iff]; exact ⟨fun ⟨a, b, c⟩ => ⟨a, b, c⟩, fun ⟨a, b, c⟩ => ⟨a, b, c⟩⟩
theorem Fit.notes (h : Fit ps qs) (hn : 0 < ps.length) {k : Nat} (hk : k ≤ 104000) : (macN ps qs k).bd.notes.length ≤ 208000000 := by
  have := mac_notes (qs := qs) hn (L := 2000) (fun p hp => Nat.le_trans (len_le_sum hp) h.s) k
  omega
theorem Fit.pre (h : Fit ps qs) (hn : 0 < ps.length) {K : Nat} (hK : K ≤ 104000) : Pre ps qs K where
  n := hn
  big := fun k hk => by
    have h1 := h.notes hn (k := k) (by omega)
    have h2 := mac_pks (qs := qs) hn k
    omega
theorem Fit.pl (h : Fit ps qs) (a : Nat) : (ps.getD a []).length ≤ 2000 := by
  rw [List.getD_eq_getElem?_getD]
  cases e : ps[a]? with
  | none => simp
  | some p => exact Nat.le_trans (len_le_sum (List.mem_of_getElem? e)) h.s
end
end Go.Bt
end
section
namespace Go.Sx
variable [Gnd]
open Go.Conc Go.Proofs
section
variable {P : Program} {X : Type} {R : X → Co P} {b : Frame} {cs : List Frame} {x : X} {k : List Item} {F : Fr} {M : World → Prop}
theorem pt_retM {fn : Func} {c : Frame} {v : Value} [hS : Stb M] (hf : P.funcs[b.fn]? = some fn) (hk : b.kind = .normal) (hv : ∀ a w, Fits fn.ntmps F a → M w → (results fn a.tmps).Pl P ∧ (results fn a.tmps).run P w = .ok v w)
    (h : ∀ w, Lf M w → ReI R x (G (c.finish v) cs) w) : Pt R fn.ntmps b (c :: cs) x (.code .ret :: k) F M := fun a w hfit hm =>
  reI_go rfl (fun _ => stepG_ret) (@re_back _ P (R x) a w b fn _ c cs v hf hk hfit.defers (fun w₁ h₁ => let ⟨es, h2, h3⟩ := pl_ok_same (hv a (pz w₁) hfit (hm.rely h₁).here).1 (hv a (pz w₁) hfit (hm.rely h₁).here).2; ⟨es, h2, @DD.good _ P (R x) _ _ _ h3⟩) (h w hm))
theorem res_cell {fn : Func} {a : Act} {w : World} {t : Nat} {T U : TypeId} {b m : Nat} {w0 : World} {olds : List Nat} {l : List Ent} {xs : List Value} (i : Nat) (hr : fn.results = #[.cell t T]) (hf : Fits fn.ntmps F a) (hv : look F t = some (.pointer (some ⟨b, 0, none⟩)))
    (hm : Mem w0 olds l w) (hp : pick l i = some (b, blk xs U)) (hA : ∀ w, (isAgg T).run P w = .ok true w) (hS : ∀ w, (sizeOf T).run P w = .ok m w) (hl : xs.length = m) : (results fn a.tmps).Pl P ∧ (results fn a.tmps).run P w = .ok (.agg xs.toArray) w := by
  refine ⟨?_, ?_⟩
  · unfold results
    rw [hr]
    simp only [List.mapM_toArray, List.mapM_cons, List.mapM_nil]
    exact pl_bind (pl_bind (pl_bind (pl_bind (by unfold asAddr; split <;> trivial) fun _ => pl_loadVar _ _) fun _ => pl_bind (s := pure _) trivial fun _ => trivial) fun _ => trivial) fun _ => trivial
  · have h1 := loadVar_agg (P := P) (b := b) (o := 0) (hA w) (hS w) hl (fun j v hj => by rw [Nat.zero_add, hm.cellAt hp]; exact hj)
    have h2 : a.tmps[t]?.getD undef = .pointer (some ⟨b, 0, none⟩) := by
      rw [hf.has t _ hv]; rfl
    simp only [results, hr]
    simp [h2, asAddr, h1]
end
open Go.Bt
section
variable [C : Co Try.prog]
noncomputable def c16b : Code := match Try.f16.body with | some (.seq _ (.seq _ (.seq _ (.seq _ (.seq (.seq _ (.block _ (.loop (.seq _ (.seq _ (.seq (.block _ c) _)))))) _))))) => c | _ => .skip
set_option maxRecDepth 100000 in
set_option maxHeartbeats 4000000 in
theorem sw_16_7 {v0 : World} {sb n i t6 m : Nat} {calm : Bool} {pv qv s1 s2 s3 bs ms : Value} {xs : List Value} {e1 e2 e3 eb em : Ent} (hr : RowE s1 3 1 m xs e1) (hk : m + 1 ≤ 8796093022208) :
    SW Try.prog 70 (cL c16b) [(7, vPtr sb), (25, vInt n), (26, vInt i), (0, pv), (1, qv), (2, .bool calm), (6, vPtr t6), (8, vInt n)] (Mem v0 [] [some (sb, blk [pv, s1, s2, s3, bs, ms] 35), e1, e2, e3, eb, em]) (fun ex F' w => ex = .normal ∧ Sub [(7, vPtr sb), (25, vInt n), (26, vInt i), (0, pv), (1, qv), (2, .bool calm), (6, vPtr t6), (8, vInt n)] F' ∧ ∃ s1' e1', RowE s1' 3 1 (m + 1) (xs ++ [vI (-1)]) e1' ∧ Mem v0 [] [some (sb, blk [pv, s1', s2, s3, bs, ms] 35), e1', e2, e3, eb, em] w) := by
  obtain ⟨ti, hi, hz, hsz, hby⟩ : ∃ i, Try.prog.info? 3 = some i ∧ i.zero = some (vInt 0) ∧ i.size = 1 ∧ i.bytes = 8 := ⟨_, rfl, rfl, rfl, rfl⟩
  obtain ⟨av, cv, rfl, hkc⟩ := hr.slice
  show SW Try.prog 70 (Code.region 7 _ false) _ _ _
  refine sw_region ?_
  refine ow_val (val_fieldAddr (b := sb) (o := 0) (e := 1) rfl Try.underlying35 rfl rfl Try.sizeOf23 rfl) rfl ?_
  refine ow_val (val_load_at (v := .slice av m cv) 0 rfl rfl Try.isAgg23 rfl) rfl ?_
  refine ow_make (acts_buildSlice (cs := [vI (-1)]) Try.underlying23 Try.sizeOf3 Try.zeroValue3 rfl rfl (by kernel_rfl)) rfl (fun bb hbb => ?_)
  refine ow_append' (k := m + 1) (acts_append (size := 1) (bytes := 8) (ys := [vI (-1)]) 2 rfl rfl rfl hr rfl Try.underlying23 hi hz hsz hby rfl (by decide) (fun w hm => Rd.own hm (i := 0) rfl rfl) rfl (by intro u hu; simp only [List.mem_cons, List.not_mem_nil, or_false] at hu; subst hu; rfl) (by omega) (by omega)) rfl (fun a5 c5 e5 hr5 => ?_)
  refine ow_val (val_fieldAddr (b := sb) (o := 0) (e := 1) rfl Try.underlying35 rfl rfl Try.sizeOf23 rfl) rfl ?_
  refine ow_do_eq (does_store_to [pv, .slice a5 (m + 1) c5, s2, s3, bs, ms] 1 rfl rfl rfl rfl Try.sizeOf23 (by simp) rfl) ?_
  exact ow_nil fun w hw => ⟨rfl, ⟨rfl, rfl, rfl, rfl, rfl, rfl, rfl, rfl, trivial⟩, _, e5, hr5, hw.forget⟩
set_option maxRecDepth 100000 in
set_option maxHeartbeats 4000000 in
theorem sw_16_8 {v0 : World} {sb n i t6 m : Nat} {calm : Bool} {pv qv s1 s2 s3 bs ms : Value} {xs : List Value} {e1 e2 e3 eb em : Ent} (hr : RowE s2 4 1 m xs e2) (hk : m + 1 ≤ 8796093022208) :
    SW Try.prog 70 (cL (cR c16b)) [(7, vPtr sb), (25, vInt n), (26, vInt i), (0, pv), (1, qv), (2, .bool calm), (6, vPtr t6), (8, vInt n)] (Mem v0 [] [some (sb, blk [pv, s1, s2, s3, bs, ms] 35), e1, e2, e3, eb, em]) (fun ex F' w => ex = .normal ∧ Sub [(7, vPtr sb), (25, vInt n), (26, vInt i), (0, pv), (1, qv), (2, .bool calm), (6, vPtr t6), (8, vInt n)] F' ∧ ∃ s2' e2', RowE s2' 4 1 (m + 1) (xs ++ [.bool false]) e2' ∧ Mem v0 [] [some (sb, blk [pv, s1, s2', s3, bs, ms] 35), e1, e2', e3, eb, em] w) := by
  obtain ⟨ti, hi, hz, hsz, hby⟩ : ∃ i, Try.prog.info? 4 = some i ∧ i.zero = some (.bool false) ∧ i.size = 1 ∧ i.bytes = 1 := ⟨_, rfl, rfl, rfl, rfl⟩
  obtain ⟨av, cv, rfl, hkc⟩ := hr.slice
  show SW Try.prog 70 (Code.region 8 _ false) _ _ _
  refine sw_region ?_
  refine ow_val (val_fieldAddr (b := sb) (o := 0) (e := 2) rfl Try.underlying35 rfl rfl Try.sizeOf31 rfl) rfl ?_
  refine ow_val (val_load_at (v := .slice av m cv) 0 rfl rfl Try.isAgg31 rfl) rfl ?_
  refine ow_make (acts_buildSlice (cs := [.bool false]) Try.underlying31 Try.sizeOf4 Try.zeroValue4 rfl rfl (by kernel_rfl)) rfl (fun bb hbb => ?_)
  refine ow_append' (k := m + 1) (acts_append (size := 1) (bytes := 1) (ys := [.bool false]) 3 rfl rfl rfl hr rfl Try.underlying31 hi hz hsz hby rfl (by decide) (fun w hm => Rd.own hm (i := 0) rfl rfl) rfl (by intro u hu; simp only [List.mem_cons, List.not_mem_nil, or_false] at hu; subst hu; rfl) (by omega) (by omega)) rfl (fun a5 c5 e5 hr5 => ?_)
  refine ow_val (val_fieldAddr (b := sb) (o := 0) (e := 2) rfl Try.underlying35 rfl rfl Try.sizeOf31 rfl) rfl ?_
  refine ow_do_eq (does_store_to [pv, s1, .slice a5 (m + 1) c5, s3, bs, ms] 1 rfl rfl rfl rfl Try.sizeOf31 (by simp) rfl) ?_
  exact ow_nil fun w hw => ⟨rfl, ⟨rfl, rfl, rfl, rfl, rfl, rfl, rfl, rfl, trivial⟩, _, e5, hr5, hw.forget⟩
set_option maxRecDepth 100000 in
set_option maxHeartbeats 4000000 in
theorem sw_16_9 {v0 : World} {sb n i t6 m : Nat} {calm : Bool} {pv qv s1 s2 s3 bs ms : Value} {xs : List Value} {e1 e2 e3 eb em : Ent} (hr : RowE s3 4 1 m xs e3) (hk : m + 1 ≤ 8796093022208) :
    SW Try.prog 70 (cR (cR c16b)) [(7, vPtr sb), (25, vInt n), (26, vInt i), (0, pv), (1, qv), (2, .bool calm), (6, vPtr t6), (8, vInt n)] (Mem v0 [] [some (sb, blk [pv, s1, s2, s3, bs, ms] 35), e1, e2, e3, eb, em]) (fun ex F' w => ex = .normal ∧ Sub [(7, vPtr sb), (25, vInt n), (26, vInt i), (0, pv), (1, qv), (2, .bool calm), (6, vPtr t6), (8, vInt n)] F' ∧ ∃ s3' e3', RowE s3' 4 1 (m + 1) (xs ++ [.bool false]) e3' ∧ Mem v0 [] [some (sb, blk [pv, s1, s2, s3', bs, ms] 35), e1, e2, e3', eb, em] w) := by
  obtain ⟨ti, hi, hz, hsz, hby⟩ : ∃ i, Try.prog.info? 4 = some i ∧ i.zero = some (.bool false) ∧ i.size = 1 ∧ i.bytes = 1 := ⟨_, rfl, rfl, rfl, rfl⟩
  obtain ⟨av, cv, rfl, hkc⟩ := hr.slice
  show SW Try.prog 70 (Code.region 9 _ false) _ _ _
  refine sw_region ?_
  refine ow_val (val_fieldAddr (b := sb) (o := 0) (e := 3) rfl Try.underlying35 rfl rfl Try.sizeOf31 rfl) rfl ?_
  refine ow_val (val_load_at (v := .slice av m cv) 0 rfl rfl Try.isAgg31 rfl) rfl ?_
  refine ow_make (acts_buildSlice (cs := [.bool false]) Try.underlying31 Try.sizeOf4 Try.zeroValue4 rfl rfl (by kernel_rfl)) rfl (fun bb hbb => ?_)
  refine ow_append' (k := m + 1) (acts_append (size := 1) (bytes := 1) (ys := [.bool false]) 4 rfl rfl rfl hr rfl Try.underlying31 hi hz hsz hby rfl (by decide) (fun w hm => Rd.own hm (i := 0) rfl rfl) rfl (by intro u hu; simp only [List.mem_cons, List.not_mem_nil, or_false] at hu; subst hu; rfl) (by omega) (by omega)) rfl (fun a5 c5 e5 hr5 => ?_)
  refine ow_val (val_fieldAddr (b := sb) (o := 0) (e := 3) rfl Try.underlying35 rfl rfl Try.sizeOf31 rfl) rfl ?_
  refine ow_do_eq (does_store_to [pv, s1, s2, .slice a5 (m + 1) c5, bs, ms] 1 rfl rfl rfl rfl Try.sizeOf31 (by simp) rfl) ?_
  exact ow_nil fun w hw => ⟨rfl, ⟨rfl, rfl, rfl, rfl, rfl, rfl, rfl, rfl, trivial⟩, _, e5, hr5, hw.forget⟩
noncomputable def c16_3 : Code := match Try.f16.body with | some (.seq _ (.seq _ (.seq _ (.seq (.seq c _) _)))) => c | _ => .skip
set_option maxRecDepth 100000 in
set_option maxHeartbeats 4000000 in
theorem sw_16_3 {M : World → Prop} [Stb M] {sb n t6 : Nat} {calm : Bool} {pv qv : Value} : SW Try.prog 70 c16_3 [(7, vPtr sb), (0, pv), (1, qv), (2, .bool calm), (6, vPtr t6), (8, vInt n)] M (fun ex F' w => ex = .normal ∧ Sub ((22, .bool (decide (n < 1 ∨ 1000 < n))) :: [(7, vPtr sb), (0, pv), (1, qv), (2, .bool calm), (6, vPtr t6), (8, vInt n)]) F' ∧ M w) := by
  show SW Try.prog 70 (Code.region 3 _ false) _ _ _
  refine sw_region ?_
  refine ow_val (val_move (v := vInt n) rfl) rfl ?_
  refine ow_val (val_lss_int (a := (n : Int)) (b := 1) rfl rfl) rfl ?_ (tame_int rfl rfl)
  refine ow_val (val_move (v := .bool (decide ((n : Int) < 1))) rfl) rfl ?_
  by_cases h : n < 1
  · rw [decide_eq_true (show (n : Int) < 1 by omega)]
    refine ow_guard_no (t := 19) rfl rfl rfl rfl rfl ?_
    refine ow_guard_no (t := 19) rfl rfl rfl rfl rfl ?_
    refine ow_val (val_pick_true (v := .bool true) rfl rfl) rfl ?_
    exact ow_nil fun w hw => ⟨rfl, ⟨by show some (Value.bool _) = _; simp [h], rfl, rfl, rfl, rfl, rfl, rfl, trivial⟩, hw⟩
  · rw [decide_eq_false (show ¬ (n : Int) < 1 by omega)]
    refine ow_guard_yes (t := 19) rfl rfl rfl (ow_val (val_move (v := vInt n) rfl) rfl ?_)
    refine ow_guard_yes (t := 19) rfl rfl rfl (ow_val (val_gtr_int (a := (n : Int)) (b := 1000) rfl rfl) rfl ?_ (tame_int rfl rfl))
    refine ow_val (val_pick_false (v := .bool (decide ((n : Int) > 1000))) rfl rfl) rfl ?_
    exact ow_nil fun w hw => ⟨rfl, ⟨by show some (Value.bool _) = _; simp [h]; omega, rfl, rfl, rfl, rfl, rfl, rfl, trivial⟩, hw⟩
noncomputable def c16l : Code := match Try.f16.body with | some (.seq _ (.seq _ (.seq _ (.seq _ (.seq _ (.seq _ (.seq (.seq _ (.cond _ (.seq _ (.seq _ (.block _ (.loop c)))) _)) _))))))) => c | _ => .skip
set_option maxRecDepth 100000 in
set_option maxHeartbeats 4000000 in
theorem sw_16_19 {M : World → Prop} [Stb M] {sb n t6 q j : Nat} : SW Try.prog 70 (cL (cL c16l)) [(7, vPtr sb), (6, vPtr t6), (8, vInt n), (11, vInt q), (12, vInt j)] M (fun ex F' w => ex = .normal ∧ Sub ((60, .bool (decide (j < 100000 ∧ q < n))) :: [(7, vPtr sb), (6, vPtr t6), (8, vInt n), (11, vInt q), (12, vInt j)]) F' ∧ M w) := by
  show SW Try.prog 70 (Code.region 19 _ false) _ _ _
  refine sw_region ?_
  refine ow_val (val_move (v := vInt j) rfl) rfl ?_
  refine ow_val (val_lss_int (a := (j : Int)) (b := 100000) rfl rfl) rfl ?_ (tame_int rfl rfl)
  refine ow_val (val_move (v := .bool (decide ((j : Int) < 100000))) rfl) rfl ?_
  by_cases h : j < 100000
  · rw [decide_eq_true (show (j : Int) < 100000 by omega)]
    refine ow_guard_yes (t := 56) rfl rfl rfl (ow_val (val_move (v := vInt q) rfl) rfl ?_)
    refine ow_guard_yes (t := 56) rfl rfl rfl (ow_val (val_move (v := vInt n) rfl) rfl ?_)
    refine ow_guard_yes (t := 56) rfl rfl rfl (ow_val (val_lss_int (a := (q : Int)) (b := (n : Int)) rfl rfl) rfl ?_ (tame_int rfl rfl))
    refine ow_val (val_pick_true (v := .bool (decide ((q : Int) < n))) rfl rfl) rfl ?_
    exact ow_nil fun w hw => ⟨rfl, ⟨by show some (Value.bool _) = _; simp [h], rfl, rfl, rfl, rfl, rfl, trivial⟩, hw⟩
  · rw [decide_eq_false (show ¬ (j : Int) < 100000 by omega)]
    refine ow_guard_no (t := 56) rfl rfl rfl rfl rfl ?_
    refine ow_guard_no (t := 56) rfl rfl rfl rfl rfl ?_
    refine ow_guard_no (t := 56) rfl rfl rfl rfl rfl ?_
    refine ow_val (val_pick_false (v := .bool false) rfl rfl) rfl ?_
    exact ow_nil fun w hw => ⟨rfl, ⟨by show some (Value.bool _) = _; simp [h], rfl, rfl, rfl, rfl, rfl, trivial⟩, hw⟩
end
end Go.Sx
end
section
namespace Go.Bt
variable [Gnd]
open Go.Conc Go.ConcN Go.RowKit Go.Proofs
open Go.Sx (Rly RV pz pzo pz_heap spec isWg Gud Co blk RowE Rd Mem CallV vInt SW Sub callV_of_callI callI_of_pt CallI Pt pt_seq pt_sw pt_back pt_ret pt_retM pt_region pt_regionEnd pt_val pt_block pt_inBlock pt_exit pt_if pt_cond pt_skip pt_do pt_draw pt_call pt_act pt_loop_inv val_assign val_move val_build' val_load val_nilCheck val_fieldAddr val_len val_geq_int val_lss_int val_eql_int val_add_int val_rem_int val_rem_to val_load_elem val_load_at val_load_all val_indexAddr_slice val_pick_true val_pick_false acts_alloc does_store_all does_store_to tame_nilCheck tame_int callsTo res_nothing res_slot res_cell Lf ReI Stb re_fall pick_v slots rowE_set look upd pick keys mem_of_rv sw_16_3 sw_16_7 sw_16_8 sw_16_9 sw_16_19)
section
variable {v z : World} {pv : Value} {ps : List (List Ins)} {qs : List Int}
theorem OrdV.grow {b : Nat} (h : OrdV v b) (hr : RV v z) : OrdV z b := let ⟨o, h1, h2⟩ := h; ⟨o, hr.heap b o h1, h2⟩
theorem VRd.grow {a : Option Addr} {xs : List Value} (h : VRd v a xs) (hr : RV v z) : VRd z a xs := fun j y hy => let ⟨b, o, e1, e2, e3⟩ := h j y hy; ⟨b, o, e1, cell_rv' e2 hr, e3.grow hr⟩
theorem PrgV.grow (h : PrgV v pv ps) (hr : RV v z) : PrgV z pv ps where
  ex := let ⟨pa, pc, h1, h2⟩ := h.ex; ⟨pa, pc, h1, fun i p hp => let ⟨b, o, a, c, g1, g2, g3, g4⟩ := h2 i p hp; ⟨b, o, a, c, g1, cell_rv' g2 hr, g3.grow hr, g4.grow hr⟩⟩
  len := h.len
theorem MAt.rv {sb : Nat} {acs : List Ac} {B : Bd} {mv : List (Int × Bool)} {w : World} (h : MAt v sb pv acs B mv w) : RV v w :=
  let ⟨_, _, _, _, _, _, _, _, _, _, _, _, _, _, _, h6⟩ := h.ex; Mem.rv h6
/-- The machine that Play hands back. -/
structure RefM (v : World) (pv : Value) (m : Mac) (r : Value) (u : World) : Prop where
  ex : ∃ s1 s2 s3 bs ms eb em, r = .agg #[pv, s1, s2, s3, bs, ms] ∧ (s1.oneCell' = true ∧ s2.oneCell' = true ∧ s3.oneCell' = true) ∧ RowE bs 56 2 m.bd.notes.length (flatB m.bd.notes) eb ∧ RowE ms 66 2 m.moves.length (flatM m.moves) em ∧ Mem v [] [eb, em] u
variable [C : Co Try.prog]
/-- A pick of the machine that is played. -/
theorem rstep_v {sb k : Nat} {q : Int} (hF : Fit ps qs) (hn : 0 < ps.length) (hG : PrgV z pv ps) (hk : k + 1 ≤ 104000) (hw : (whoOf ps.length qs k : Int) = q % (ps.length : Int)) (hM : MAt z sb pv (macN ps qs k).acs (macN ps qs k).bd (macN ps qs k).moves v) :
    CallV Try.prog 26 #[vPtr sb, vI q] v (fun r u => r = .returned (.bool (movedN ps qs k)) ∧ MAt z sb pv (macN ps qs (k + 1)).acs (macN ps qs (k + 1)).bd (macN ps qs (k + 1)).moves u) := by
  have h1 := (mac_len (qs := qs) hn k).2
  have h2 := hF.notes hn (k := k) (by omega)
  have h3 := hF.pl (whoOf ps.length qs k)
  have h4 := hF.n
  refine (rpick_v (a := whoOf ps.length qs k) hn (by omega) hG (mac_ok hn k) hw.symm (by omega) (by omega) hM).mono fun r u hu => ⟨?_, hu.2⟩
  rw [hu.1, h1]; rfl
theorem repl_pl (i : Nat) : plL (List.replicate (i + 1) ⟨-1, false, false⟩) = plL (List.replicate i ⟨-1, false, false⟩) ++ [vI (-1)] := by
  unfold plL; rw [List.replicate_succ', List.map_append]; rfl
theorem repl_wt (i : Nat) : wtL (List.replicate (i + 1) ⟨-1, false, false⟩) = wtL (List.replicate i ⟨-1, false, false⟩) ++ [.bool false] := by
  unfold wtL; rw [List.replicate_succ', List.map_append]; rfl
theorem repl_ov (i : Nat) : ovL (List.replicate (i + 1) ⟨-1, false, false⟩) = ovL (List.replicate i ⟨-1, false, false⟩) ++ [.bool false] := by
  unfold ovL; rw [List.replicate_succ', List.map_append]; rfl
set_option maxRecDepth 100000 in
set_option maxHeartbeats 16000000 in
/-- The document's Play. -/
theorem rplay_v {qa : Option Addr} {cap : Nat} {calm : Bool} (hF : Fit ps qs) (hG : PrgV v pv ps) (hQ : QV v qa qs) :
    CallV Try.prog 16 #[pv, .slice qa qs.length cap, .bool calm] v (fun r u => ∃ x, r = .returned x ∧ RefM v pv (finM ps qs calm) x u) := by
  have hf1 := hF.n
  have hf3 := hF.q
  obtain ⟨pa, pc, hpv, _⟩ := hG.ex
  have hone : pv.oneCell' = true := by rw [hpv]; rfl
  refine callV_of_callI (callI_of_pt (vs := [pv, .slice qa qs.length cap, .bool calm]) Try.func16 rfl rfl fun cf cs g1 g2 => ?_)
  refine Pt.imp (M' := Mem v [] []) (fun w hw => hw ▸ Mem.refl v) (pt_seq (pt_region ?_))
  refine pt_new (by decide) rfl (acts_alloc Try.zeroValue35) rfl fun t6 ht6 => ?_
  refine pt_regionEnd (pt_seq (Pt.world fun z hz => ?_))
  have hGz := hG.grow (Mem.rv hz)
  refine Pt.imp (M' := Mem z [] []) (fun w hw => hw ▸ Mem.refl z) (pt_region ?_)
  refine pt_val (by decide) rfl (val_move (v := pv) rfl) rfl ?_
  refine pt_val (by decide) rfl (val_build' (parts := _) (vs := [(0, pv)]) (cs := [pv, .slice none 0 0, .slice none 0 0, .slice none 0 0, .slice none 0 0, .slice none 0 0]) rfl (by rw [hpv]; kernel_rfl)) rfl ?_
  refine pt_new (by decide) rfl (acts_alloc Try.zeroValue35) rfl fun sb hsb => ?_
  refine pt_do (by decide) rfl (does_store_all 0 (cs := [pv, .slice none 0 0, .slice none 0 0, .slice none 0 0, .slice none 0 0, .slice none 0 0]) rfl rfl rfl (by intro x hx; simp only [List.mem_cons, List.not_mem_nil, or_false] at hx; rcases hx with rfl | rfl | rfl | rfl | rfl | rfl <;> first | exact hone | rfl) Try.sizeOf35 rfl rfl) fun _ _ => ?_
  refine Pt.imp (M' := Mem z [] [some (sb, blk [pv, .slice none 0 0, .slice none 0 0, .slice none 0 0, .slice none 0 0, .slice none 0 0] 35)]) (fun _ h => h) ?_
  refine pt_regionEnd (pt_seq (pt_region ?_))
  refine pt_val (by decide) rfl (val_move (v := pv) rfl) rfl ?_
  refine pt_val (by decide) rfl (val_len (a := pa) (len := ps.length) (cap := pc) (by rw [← hpv]; rfl) Try.underlying22) rfl ?_
  refine pt_val (by decide) rfl (val_assign (v := vInt ps.length) rfl) rfl ?_
  refine pt_regionEnd (pt_seq (pt_seq ?_))
  refine Pt.weaken (F' := [(7, vPtr sb), (0, pv), (1, .slice qa qs.length cap), (2, .bool calm), (6, vPtr t6), (8, vInt ps.length)]) ⟨rfl, rfl, rfl, rfl, rfl, rfl, trivial⟩ (fun _ h => h) ?_
  refine pt_sw (by decide) (sw_16_3 (M := Mem z [] [some (sb, blk [pv, .slice none 0 0, .slice none 0 0, .slice none 0 0, .slice none 0 0, .slice none 0 0] 35)])) (fun F' y hq => ?_) (fun ex F' y hne hq => hne hq.1)
  obtain ⟨-, hFs, hy⟩ := hq
  refine Pt.weaken hFs (M' := Mem z [] [some (sb, blk [pv, .slice none 0 0, .slice none 0 0, .slice none 0 0, .slice none 0 0, .slice none 0 0] 35)]) (fun w hw => hw ▸ hy) ?_
  clear hFs hy
  refine pt_if rfl (fun hbad => ?_) (fun hok => pt_skip ?_)
  · -- nobody
    have h0 : ps.length = 0 := by omega
    obtain rfl : ps = [] := List.length_eq_zero_iff.1 h0
    refine Pt.world fun w hm => ?_
    have hmc := hz.call hm
    refine Pt.imp (fun u hu => hu ▸ hmc) (pt_seq (pt_region ?_))
    refine pt_val (by decide) rfl (val_load_all 0 rfl rfl Try.isAgg35 Try.sizeOf35 rfl) rfl ?_
    refine pt_do (by decide) rfl (does_store_all 1 (cs := [pv, .slice none 0 0, .slice none 0 0, .slice none 0 0, .slice none 0 0, .slice none 0 0]) rfl rfl rfl (by intro x hx; simp only [List.mem_cons, List.not_mem_nil, or_false] at hx; rcases hx with rfl | rfl | rfl | rfl | rfl | rfl <;> first | exact hone | rfl) Try.sizeOf35 rfl rfl) fun _ _ => ?_
    refine pt_regionEnd (pt_retM (fn := Try.f16) (v := .agg #[pv, .slice none 0 0, .slice none 0 0, .slice none 0 0, .slice none 0 0, .slice none 0 0]) Try.func16 rfl (fun a w hf hw => res_cell 1 rfl hf rfl hw rfl Try.isAgg35 Try.sizeOf35 rfl) fun w hw => g1 _ () w (hw.mono fun u hu => ⟨_, rfl, ?_⟩))
    refine ⟨_, _, _, _, _, none, none, rfl, ⟨rfl, rfl, rfl⟩, ?_, ?_, hu.forgetAll.place.place⟩
    · unfold finM; rw [mac_nil]; exact RowE.nil 56 2
    · unfold finM; rw [mac_nil]; exact RowE.nil 66 2
  have hn : 0 < ps.length := by omega
  -- the end
  have hfin : ∀ (m : Mac) (F : Go.Sx.Fr), Sub [(7, vPtr sb), (6, vPtr t6)] F → m = finM ps qs calm → Pt (fun _ : Unit => C) 70 (Go.Sx.fr0 16) (cf :: cs) () [.code (cR (cR (cR (cR (cR (cR (cR (Try.f16.body.getD .skip))))))))] F (fun w => MAt z sb pv m.acs m.bd m.moves w) := by
    intro m F hFs hm
    subst hm
    refine Pt.weaken hFs (fun _ h => h) (Pt.world fun w hM => ?_)
    obtain ⟨s1, s2, s3, bs, ms, e1, e2, e3, eb, em, h1, h2, h3, h4, h5, hm⟩ := hM.ex
    obtain ⟨a1, c1, rfl, _⟩ := h1.slice
    obtain ⟨a2, c2, rfl, _⟩ := h2.slice
    obtain ⟨a3, c3, rfl, _⟩ := h3.slice
    obtain ⟨a4, c4, rfl, _⟩ := h4.slice
    obtain ⟨a5, c5, rfl, _⟩ := h5.slice
    have hmc := hz.call hm
    refine Pt.imp (fun u hu => hu ▸ hmc) (pt_seq (pt_region ?_))
    refine pt_val (by decide) rfl (val_load_all 0 rfl rfl Try.isAgg35 Try.sizeOf35 rfl) rfl ?_
    refine pt_do (by decide) rfl (does_store_all 6 (cs := [pv, _, _, _, _, _]) rfl rfl rfl (by intro x hx; simp only [List.mem_cons, List.not_mem_nil, or_false] at hx; rcases hx with rfl | rfl | rfl | rfl | rfl | rfl <;> first | exact hone | rfl) Try.sizeOf35 rfl rfl) fun _ _ => ?_
    refine pt_regionEnd (pt_retM (fn := Try.f16) (v := .agg #[pv, _, _, _, _, _]) Try.func16 rfl (fun a w hf hw => res_cell 6 rfl hf rfl hw rfl Try.isAgg35 Try.sizeOf35 rfl) fun w hw => g1 _ () w (hw.mono fun u hu => ⟨_, rfl, ?_⟩))
    exact ⟨_, _, _, _, _, eb, em, rfl, ⟨rfl, rfl, rfl⟩, h4, h5, hu.only (((((List.Sublist.refl [eb, em]).trans (List.sublist_append_left [eb, em] _)).cons _).cons _).cons _ |>.cons _)⟩
  refine pt_seq (pt_seq (pt_region ?_))
  refine pt_val (by decide) rfl (val_move (v := pv) rfl) rfl ?_
  refine pt_val (by decide) rfl (val_len (a := pa) (len := ps.length) (cap := pc) (by rw [← hpv]; rfl) Try.underlying22) rfl ?_
  refine pt_val (by decide) rfl (val_move (v := vInt (0 : Nat)) rfl) rfl ?_
  refine pt_regionEnd (pt_block ?_)
  refine pt_loop_inv (fun i : Nat => i ≤ ps.length) (fun i => [(7, vPtr sb), (25, vInt ps.length), (26, vInt i), (0, pv), (1, .slice qa qs.length cap), (2, .bool calm), (6, vPtr t6), (8, vInt ps.length)]) (fun _ => ()) (fun i w => MAt z sb pv (List.replicate i ⟨-1, false, false⟩) ⟨[], []⟩ [] w) (fun i => ps.length - i) 0 (Nat.zero_le _) ⟨rfl, rfl, rfl, rfl, rfl, rfl, rfl, rfl, trivial⟩ rfl (fun w hw => ⟨_, _, _, _, _, none, none, none, none, none, RowE.nil 3 1, RowE.nil 4 1, RowE.nil 4 1, RowE.nil 56 2, RowE.nil 66 2, hw.place.place.place.place.place.perm (by simpa using List.perm_append_comm (l₂ := [none, none, none, none, none]) (l₁ := [some (sb, blk [pv, .slice none 0 0, .slice none 0 0, .slice none 0 0, .slice none 0 0, .slice none 0 0] 35)]))⟩) ?_
  rintro i hle hloop
  refine pt_seq (pt_region ?_)
  refine pt_val (by decide) rfl (val_lss_int (a := (i : Int)) (b := (ps.length : Int)) rfl rfl) rfl ?_ (tame_int rfl rfl)
  refine pt_regionEnd (pt_seq (pt_if rfl (fun hlt => ?_) (fun hge => ?_)))
  · refine pt_skip (pt_seq (pt_block (Pt.world fun w hM => ?_)))
    obtain ⟨s1, s2, s3, bs, ms, e1, e2, e3, eb, em, h1, h2, h3, h4, h5, hm⟩ := hM.ex
    rw [List.length_replicate] at h1 h2 h3
    refine Pt.weaken (F' := [(7, vPtr sb), (25, vInt ps.length), (26, vInt i), (0, pv), (1, .slice qa qs.length cap), (2, .bool calm), (6, vPtr t6), (8, vInt ps.length)]) ⟨rfl, rfl, rfl, rfl, rfl, rfl, rfl, rfl, trivial⟩ (fun u hu => hu ▸ hm) (pt_seq ?_)
    refine pt_sw (by decide) (sw_16_7 h1 (by omega)) (fun F' y hq => ?_) (fun ex F' y hne hq => hne hq.1)
    obtain ⟨-, hFs, s1', e1', h1, hy⟩ := hq
    refine Pt.weaken hFs (fun u hu => hu ▸ hy) (pt_seq ?_)
    refine pt_sw (by decide) (sw_16_8 h2 (by omega)) (fun F' y hq => ?_) (fun ex F' y hne hq => hne hq.1)
    obtain ⟨-, hFs, s2', e2', h2, hy⟩ := hq
    refine Pt.weaken hFs (fun u hu => hu ▸ hy) ?_
    refine pt_sw (by decide) (sw_16_9 h3 (by omega)) (fun F' y hq => ?_) (fun ex F' y hne hq => hne hq.1)
    obtain ⟨-, hFs, s3', e3', h3, hy⟩ := hq
    refine Pt.weaken hFs (M' := fun w => MAt z sb pv (List.replicate (i + 1) ⟨-1, false, false⟩) ⟨[], []⟩ [] w) (fun u hu => hu ▸ ⟨_, _, _, _, _, _, _, _, _, _, by rw [List.length_replicate, repl_pl]; exact h1, by rw [List.length_replicate, repl_wt]; exact h2, by rw [List.length_replicate, repl_ov]; exact h3, h4, h5, hy⟩) (pt_inBlock (pt_region ?_))
    refine pt_val (by decide) rfl (val_add_int (a := (i : Int)) (b := 1) _ rfl rfl rfl (by omega)) rfl ?_ (tame_int rfl rfl)
    refine pt_val (by decide) rfl (val_move (v := vInt (i + 1 : Nat)) rfl) rfl ?_
    refine pt_regionEnd (Pt.weaken ?_ (fun _ h => h) (hloop (i + 1) (by omega) (by omega)))
    exact ⟨rfl, rfl, rfl, rfl, rfl, rfl, rfl, rfl, trivial⟩
  have hi : i = ps.length := by omega
  subst hi
  clear hloop hle hge
  refine pt_exit rfl (Pt.imp (M' := fun w => MAt z sb pv (macN ps qs 0).acs (macN ps qs 0).bd (macN ps qs 0).moves w) (fun _ h => h) (pt_seq (pt_seq (pt_region ?_))))
  refine pt_val (by decide) rfl (val_move (v := .slice qa qs.length cap) rfl) rfl ?_
  refine pt_val (by decide) rfl (val_len (len := qs.length) rfl Try.underlying23) rfl ?_
  refine pt_val (by decide) rfl (val_move (v := vInt (0 : Nat)) rfl) rfl ?_
  refine pt_regionEnd (pt_block ?_)
  refine pt_loop_inv (fun j : Nat => j ≤ qs.length) (fun j => [(44, .slice qa qs.length cap), (45, vInt qs.length), (46, vInt j), (7, vPtr sb), (6, vPtr t6), (8, vInt ps.length), (2, .bool calm)]) (fun _ => ()) (fun j w => MAt z sb pv (macN ps qs j).acs (macN ps qs j).bd (macN ps qs j).moves w) (fun j => qs.length - j) 0 (Nat.zero_le _) ⟨rfl, rfl, rfl, rfl, rfl, rfl, rfl, trivial⟩ rfl (fun _ h => h) ?_
  rintro j hle hloop
  refine pt_seq (pt_region ?_)
  refine pt_val (by decide) rfl (val_lss_int (a := (j : Int)) (b := (qs.length : Int)) rfl rfl) rfl ?_ (tame_int rfl rfl)
  refine pt_regionEnd (pt_seq (pt_if rfl (fun hlt => ?_) (fun hge => ?_)))
  · have hj : j < qs.length := by omega
    have hq : qs[j]? = some qs[j] := List.getElem?_eq_getElem hj
    generalize qs[j] = q at hq
    obtain ⟨qb, qo, rfl, _, hqc⟩ := hQ.cells j q hq
    refine pt_skip (pt_seq (pt_block (pt_seq (pt_region ?_))))
    refine pt_val (by decide) rfl (val_indexAddr_slice (m := 1) j (qo + j) rfl rfl Try.underlying23 Try.sizeOf3 rfl hj (by omega)) rfl ?_
    refine pt_val (by decide) rfl (val_load rfl Try.isAgg3 (v := vI q) (fun w h => cell_rv' (cell_rv' hqc (Mem.rv hz)) h.rv)) rfl ?_
    refine pt_val (by decide) rfl (val_assign (v := vI q) rfl) rfl ?_
    refine pt_regionEnd (pt_region ?_)
    refine pt_val (by decide) rfl (val_move (v := vI q) rfl) rfl ?_
    refine pt_call (T := fun w r _ u => r = .returned (.bool (movedN ps qs j)) ∧ MAt z sb pv (macN ps qs (j + 1)).acs (macN ps qs (j + 1)).bd (macN ps qs (j + 1)).moves u) (by decide) rfl (callsTo (xs := [.tmp 7, .tmp 50]) (vs := [vPtr sb, vI q]) Try.func26 rfl (by decide) rfl) (by infer_instance) (fun w hw => callI_of_v (rstep_v hF hn hGz (by omega) (by
        have : 0 ≤ q % (ps.length : Int) := Int.emod_nonneg q (by omega)
        unfold whoOf; rw [hq]; simp only; omega) hw)) (fun t' ht => by cases ht; rfl) (fun w r x' hw => ?_) (fun w ch x' hw a w' hf hl => ?_)
    · refine Pt.imp (fun u hu => hu.2) (pt_regionEnd (pt_inBlock (pt_region ?_)))
      haveI : Stb (fun w => MAt z sb pv (macN ps qs (j + 1)).acs (macN ps qs (j + 1)).bd (macN ps qs (j + 1)).moves w) := inferInstance
      refine pt_val (by decide) rfl (val_add_int (a := (j : Int)) (b := 1) _ rfl rfl rfl (by omega)) rfl ?_ (tame_int rfl rfl)
      refine pt_val (by decide) rfl (val_move (v := vInt (j + 1 : Nat)) rfl) rfl ?_
      refine pt_regionEnd (Pt.weaken ?_ (fun _ h => h) (hloop (j + 1) (by omega) (by omega)))
      exact ⟨rfl, rfl, rfl, rfl, rfl, rfl, rfl, trivial⟩
    · obtain ⟨y, ⟨hy, _⟩, _⟩ := hl; cases hy
  have hjq : j = qs.length := by omega
  subst hjq
  clear hloop hle hge
  refine pt_exit rfl (pt_seq (pt_seq (pt_region ?_)))
  refine pt_val (by decide) rfl (val_move (v := .bool calm) rfl) rfl ?_
  refine pt_regionEnd (pt_cond rfl (fun hc => ?_) (fun hc => ?_))
  rotate_left
  · refine pt_skip (hfin (macN ps qs qs.length) _ ⟨rfl, rfl, trivial⟩ ?_)
    unfold finM calmJ; rw [hc]; simp
  refine pt_seq (pt_region (pt_val (by decide) rfl (val_assign (v := vInt (0 : Nat)) rfl) rfl (pt_regionEnd ?_)))
  refine pt_seq (pt_region (pt_val (by decide) rfl (val_assign (v := vInt (0 : Nat)) rfl) rfl (pt_regionEnd (pt_block ?_))))
  have h00 : stopJ (fun j => movedN ps qs (qs.length + j)) ps.length (100000 - 0) 0 0 = calmJ ps qs calm := by
    rw [Nat.sub_zero]; unfold calmJ; rw [if_pos hc]
  refine pt_loop_inv (σ := Nat × Nat) (fun y => stopJ (fun j => movedN ps qs (qs.length + j)) ps.length (100000 - y.1) y.1 y.2 = calmJ ps qs calm ∧ y.1 ≤ 100000 ∧ y.2 ≤ y.1) (fun y => [(7, vPtr sb), (6, vPtr t6), (8, vInt ps.length), (11, vInt y.2), (12, vInt y.1)]) (fun _ => ()) (fun y w => MAt z sb pv (macN ps qs (qs.length + y.1)).acs (macN ps qs (qs.length + y.1)).bd (macN ps qs (qs.length + y.1)).moves w) (fun y => 100000 - y.1) (0, 0) ⟨h00, Nat.zero_le _, Nat.zero_le _⟩ ⟨rfl, rfl, rfl, rfl, rfl, trivial⟩ rfl (fun _ h => h) ?_
  rintro ⟨j, q⟩ ⟨hJ, hle, hqj⟩ hloop
  simp only at hJ hle hqj
  refine pt_seq (pt_seq ?_)
  refine pt_sw (by decide) (sw_16_19 (M := fun w => MAt z sb pv (macN ps qs (qs.length + j)).acs (macN ps qs (qs.length + j)).bd (macN ps qs (qs.length + j)).moves w)) (fun F' y hq => ?_) (fun ex F' y hne hq => hne hq.1)
  obtain ⟨-, hFs, hy⟩ := hq
  refine Pt.weaken hFs (M' := fun w => MAt z sb pv (macN ps qs (qs.length + j)).acs (macN ps qs (qs.length + j)).bd (macN ps qs (qs.length + j)).moves w) (fun w hw => hw ▸ hy) ?_
  clear hFs hy
  refine pt_if rfl (fun hgo => ?_) (fun hst => ?_)
  · obtain ⟨hj, hqn⟩ := hgo
    refine pt_skip (pt_seq (pt_block (pt_seq (pt_region ?_))))
    refine pt_val (by decide) rfl (val_move (v := vInt q) rfl) rfl ?_
    refine pt_val (by decide) rfl (val_add_int (a := (q : Int)) (b := 1) _ rfl rfl rfl (by omega)) rfl ?_ (tame_int rfl rfl)
    refine pt_val (by decide) rfl (val_assign (v := vInt (q + 1 : Nat)) rfl) rfl ?_
    refine pt_regionEnd (pt_seq (pt_region ?_))
    refine pt_val (by decide) rfl (val_move (v := vInt j) rfl) rfl ?_
    refine pt_val (by decide) rfl (val_move (v := vInt ps.length) rfl) rfl ?_
    refine pt_val (by decide) rfl (val_rem_to (a := (j : Int)) (b := (ps.length : Int)) (r := ((j % ps.length : Nat) : Int)) rfl rfl (by omega) (by rw [Int.tmod_eq_emod_of_nonneg (by omega)]; rfl)) rfl ?_ (tame_int rfl rfl)
    refine pt_call (T := fun w r _ u => r = .returned (.bool (movedN ps qs (qs.length + j))) ∧ MAt z sb pv (macN ps qs (qs.length + j + 1)).acs (macN ps qs (qs.length + j + 1)).bd (macN ps qs (qs.length + j + 1)).moves u) (by decide) rfl (callsTo (xs := [.tmp 7, .tmp 67]) (vs := [vPtr sb, vI (j % ps.length : Nat)]) Try.func26 rfl (by decide) rfl) (by infer_instance) (fun w hw => callI_of_v (rstep_v hF hn hGz (by omega) (by
        unfold whoOf; rw [List.getElem?_eq_none (by omega)]; simp only
        rw [show qs.length + j - qs.length = j by omega]
        have hlt := Nat.mod_lt j hn
        exact (Int.emod_eq_of_lt (by omega) (by omega)).symm) hw)) (fun t' ht => by cases ht; rfl) (fun w r x' hw => ?_) (fun w ch x' hw a w' hf hl => ?_)
    rotate_left
    · obtain ⟨y, ⟨hy, _⟩, _⟩ := hl; cases hy
    refine Pt.world fun y hy => ?_
    obtain ⟨hr, hy⟩ := hy
    obtain rfl : r = .bool (movedN ps qs (qs.length + j)) := by cases hr; rfl
    clear hr
    have hst : stopJ (fun j => movedN ps qs (qs.length + j)) ps.length (100000 - (j + 1)) (j + 1) (if movedN ps qs (qs.length + j) then 0 else q + 1) = calmJ ps qs calm := by
      rw [← hJ, show 100000 - j = (100000 - (j + 1)) + 1 by omega]
      conv => rhs; rw [stopJ]
      rw [if_pos hqn]
    have hnext : ∀ (q' : Nat) (F : Go.Sx.Fr), Sub [(7, vPtr sb), (6, vPtr t6), (8, vInt ps.length), (11, vInt q'), (12, vInt j)] F → q' = (if movedN ps qs (qs.length + j) then 0 else q + 1) → Pt (fun _ : Unit => C) 70 (Go.Sx.fr0 16) (cf :: cs) () [.inBlock 5, .code (cR (cR Go.Sx.c16l)), .inLoop Go.Sx.c16l, .inBlock 4, .code (cR (cR (cR (cR (cR (cR (cR (Try.f16.body.getD .skip))))))))] F (fun w => MAt z sb pv (macN ps qs (qs.length + j + 1)).acs (macN ps qs (qs.length + j + 1)).bd (macN ps qs (qs.length + j + 1)).moves w) := by
      intro q' F hFs hq'
      refine Pt.weaken hFs (fun _ h => h) (pt_inBlock (pt_region ?_))
      refine pt_val (by decide) rfl (val_move (v := vInt j) rfl) rfl ?_
      refine pt_val (by decide) rfl (val_add_int (a := (j : Int)) (b := 1) _ rfl rfl rfl (by omega)) rfl ?_ (tame_int rfl rfl)
      refine pt_val (by decide) rfl (val_assign (v := vInt (j + 1 : Nat)) rfl) rfl ?_
      refine pt_regionEnd (Pt.weaken ?_ (fun _ h => h) (hloop (j + 1, q') ⟨by rw [hq']; exact hst, by omega, by simp only; rw [hq']; split <;> omega⟩ (by simp only; omega)))
      exact ⟨rfl, rfl, rfl, rfl, rfl, trivial⟩
    refine Pt.imp (M' := fun w => MAt z sb pv (macN ps qs (qs.length + j + 1)).acs (macN ps qs (qs.length + j + 1)).bd (macN ps qs (qs.length + j + 1)).moves w) (fun w hw => hw ▸ hy) (pt_regionEnd (pt_cond rfl (fun hb => ?_) (fun hb => ?_)))
    · refine pt_region (pt_val (by decide) rfl (val_assign (v := vInt (0 : Nat)) rfl) rfl (pt_regionEnd ?_))
      exact hnext 0 _ ⟨rfl, rfl, rfl, rfl, rfl, trivial⟩ (by rw [hb]; rfl)
    · exact pt_skip (hnext (q + 1) _ ⟨rfl, rfl, rfl, rfl, rfl, trivial⟩ (by rw [hb]; rfl))
  · refine pt_exit rfl (hfin (macN ps qs (qs.length + j)) _ ⟨rfl, rfl, trivial⟩ ?_)
    have : calmJ ps qs calm = j := by
      rw [← hJ]
      by_cases h0 : j = 100000
      · rw [h0, Nat.sub_self, stopJ]
      · rw [show 100000 - j = (100000 - (j + 1)) + 1 by omega]
        simp only [stopJ]
        rw [if_neg (by omega)]
    unfold finM; rw [this]
end
end Go.Bt
end
section
namespace Go.Bt
variable [Gnd]
open Go.Conc Go.ConcN Go.RowKit Go.Proofs
open Go.Sx (Rly RV pz pzo pz_heap spec isWg Gud Co blk RowE Rd Mem CallV vInt CallI SW Sub Pt callV_of_callI callI_of_pt pt_seq pt_sw pt_true pt_region pt_regionEnd pt_val pt_call pt_ret val_assign val_move val_load val_build' val_len val_lss_int val_gtr_int val_pick_true val_pick_false tame_int acts_box callsTo ev_eval res_two res_slot Fits sw_region ow_val ow_nil ow_guard_yes ow_guard_no)
section
variable {v : World} {pv : Value} {ps : List (List Ins)} {qs : List Int} {calm : Bool} {Post : Value → World → Prop}
/-- No Play: too few, too many, no act. -/
def OddP (n : Int) (fv : Value) : Prop := (n < 1 ∨ 1000 < n) ∨ fv = .nilFunc
set_option maxRecDepth 100000 in
set_option maxHeartbeats 4000000 in
theorem sw_guards_odd [C : Co Try.prog] {n : Int} {fv : Value} {tn ba : Nat} (h : OddP n fv) (hf : fv = .nilFunc ∨ ∃ f a k, fv = .func f a k) :
    SW Try.prog 92 (cL (cL (cR c22))) [(4, vPtr tn), (5, vPtr ba)] (Mem v [] [some (ba, blk [fv] 53), some (tn, blk [vI n] 3)]) (fun ex F' w => ex = .normal ∧ Sub [(30, .bool true)] F' ∧ Mem v [] [some (ba, blk [fv] 53), some (tn, blk [vI n] 3)] w) := by
  have hcn : ∀ {w : World}, Mem v [] [some (ba, blk [fv] 53), some (tn, blk [vI n] 3)] w → w.cell? ⟨tn, 0, none⟩ = some (vI n) := fun h => by rw [Go.Sx.cell_of_blk (h.own _ _ (List.mem_cons_of_mem _ (List.mem_cons_self ..)))]; rfl
  have hcf : ∀ {w : World}, Mem v [] [some (ba, blk [fv] 53), some (tn, blk [vI n] 3)] w → w.cell? ⟨ba, 0, none⟩ = some fv := fun h => by rw [Go.Sx.cell_of_blk (h.own _ _ (List.mem_cons_self ..))]; rfl
  show @SW _ Try.prog C 92 (Code.region 1 _ false) _ _ _
  refine sw_region ?_
  refine ow_val (val_load rfl Try.isAgg3 (v := vI n) (fun w h => hcn h)) rfl ?_
  refine ow_val (val_lss_int (a := n) (b := 1) rfl rfl) rfl ?_ (tame_int rfl rfl)
  refine ow_val (val_move (v := .bool (decide (n < 1))) rfl) rfl ?_
  by_cases h1 : n < 1
  · rw [decide_eq_true h1]
    refine ow_guard_no (t := 23) rfl rfl rfl rfl rfl ?_
    refine ow_guard_no (t := 23) rfl rfl rfl rfl rfl ?_
    refine ow_val (val_pick_true (v := .bool true) rfl rfl) rfl ?_
    refine ow_val (val_move (v := .bool true) rfl) rfl ?_
    refine ow_guard_no (t := 27) rfl rfl rfl rfl rfl ?_
    refine ow_guard_no (t := 27) rfl rfl rfl rfl rfl ?_
    refine ow_val (val_pick_true (v := .bool true) rfl rfl) rfl ?_
    exact ow_nil fun w hw => ⟨rfl, ⟨rfl, trivial⟩, hw⟩
  · rw [decide_eq_false h1]
    refine ow_guard_yes (t := 23) rfl rfl rfl (ow_val (val_load rfl Try.isAgg3 (v := vI n) (fun w h => hcn h)) rfl ?_)
    refine ow_guard_yes (t := 23) rfl rfl rfl (ow_val (val_gtr_int (a := n) (b := 1000) rfl rfl) rfl ?_ (tame_int rfl rfl))
    refine ow_val (val_pick_false (v := .bool (decide (n > 1000))) rfl rfl) rfl ?_
    refine ow_val (val_move (v := .bool (decide (n > 1000))) rfl) rfl ?_
    by_cases h2 : n > 1000
    · rw [decide_eq_true h2]
      refine ow_guard_no (t := 27) rfl rfl rfl rfl rfl ?_
      refine ow_guard_no (t := 27) rfl rfl rfl rfl rfl ?_
      refine ow_val (val_pick_true (v := .bool true) rfl rfl) rfl ?_
      exact ow_nil fun w hw => ⟨rfl, ⟨rfl, trivial⟩, hw⟩
    · rw [decide_eq_false h2]
      obtain rfl : fv = .nilFunc := by
        rcases h with (h | h) | h
        · exact absurd h h1
        · exact absurd h h2
        · exact h
      refine ow_guard_yes (t := 27) rfl rfl rfl (ow_val (val_load rfl Try.isAgg53 (v := .nilFunc) (fun w h => hcf h)) rfl ?_)
      refine ow_guard_yes (t := 27) rfl rfl rfl (ow_val (val_eql_nilfunc Try.underlying53 rfl rfl) rfl ?_ (Go.Sx.tame_func rfl (.inl rfl) rfl (.inl rfl)))
      refine ow_val (val_pick_false (v := .bool true) rfl rfl) rfl ?_
      exact ow_nil fun w hw => ⟨rfl, ⟨rfl, trivial⟩, hw⟩
theorem nil_cells {fv : Value} (hf : fv = .nilFunc ∨ ∃ f a k, fv = .func f a k) : fv.cells = #[fv] := by
  rcases hf with rfl | ⟨f, a, k, rfl⟩ <;> rfl
set_option maxRecDepth 100000 in
set_option maxHeartbeats 4000000 in
theorem odd22_v [C : Co Try.prog] {n : Int} {fv qv : Value} (h : OddP n fv) (hf : fv = .nilFunc ∨ ∃ f a k, fv = .func f a k) :
    CallV Try.prog 22 #[vI n, fv, qv, .bool calm] v (fun r u => r = .returned (.slice none 0 0) ∧ RV v u) := by
  refine callV_of_callI (callI_of_pt (vs := [vI n, fv, qv, .bool calm]) Try.func22 rfl rfl fun cf cs g1 g2 => ?_)
  refine Pt.imp (M' := Mem v [] []) (fun w hw => hw ▸ Mem.refl v) ?_
  refine pt_seq (pt_region ?_)
  refine pt_new (by decide) rfl (acts_box (v := vI n) rfl) rfl fun tn htn => ?_
  refine pt_new (by decide) rfl (acts_box (v := fv) rfl) rfl fun ba hba => ?_
  refine pt_val (by decide) rfl (val_assign (v := .slice none 0 0) rfl) rfl ?_
  refine Pt.weaken (F' := [(4, vPtr tn), (5, vPtr ba)]) (M' := Mem v [] [some (ba, blk [fv] 53), some (tn, blk [vI n] 3)]) ⟨rfl, rfl, trivial⟩ (fun w hw => by rw [nil_cells hf] at hw; exact hw) ?_
  refine pt_regionEnd (pt_seq (pt_seq ?_))
  refine pt_sw (by decide) (sw_guards_odd h hf) (fun F' y hq => ?_) (fun ex F' y hne hq => hne hq.1)
  obtain ⟨-, hF, hy⟩ := hq
  refine Pt.weaken hF (M' := fun w => RV v w) (fun w hw => hw ▸ Mem.rv hy) (pt_true rfl (pt_seq (pt_region ?_)))
  refine pt_val (by decide) rfl (val_assign (v := .slice none 0 0) rfl) rfl ?_
  exact pt_regionEnd (pt_ret (fn := Try.f22) (v := .slice none 0 0) Try.func22 rfl (fun a hf => res_slot rfl rfl hf) fun w hw => g1 _ () w (hw.mono fun q hq => ⟨rfl, hq⟩))
/-- What a play of the laws leaves. -/
structure PlayU (pv : Value) (v : World) (sb : Nat) (mv : Value) (m : Mac) (u : World) : Prop where
  ex : ∃ bs pk eb ep er, Mem v [] [some (sb, blk [pv, bs, pk] 40), eb, ep, er] u ∧ RowE bs 56 2 m.bd.notes.length (flatB m.bd.notes) eb ∧ RowE pk 3 1 m.bd.pks.length (m.bd.pks.map vI) ep ∧ RowE mv 43 2 m.moves.length (flatM m.moves) er
set_option maxRecDepth 100000 in
set_option maxHeartbeats 4000000 in
/-- Nobody on the stage. -/
theorem play15_nil (hG : PrgV v pv []) {qv : Value} :
    @CallV _ Try.prog (coLaw Try.prog Post) 15 #[pv, qv, .bool calm] v (fun r u => ∃ sb mv, r = .returned (.tuple #[vPtr sb, mv]) ∧ PlayU pv v sb mv (mac0 0) u) := by
  letI C : Co Try.prog := coLaw Try.prog Post
  obtain ⟨pa, pc, hpv, _⟩ := hG.ex
  refine callV_of_callI (callI_of_pt (vs := [pv, qv, .bool calm]) Try.func15 rfl rfl fun cf cs g1 g2 => ?_)
  refine Pt.imp (M' := Mem v [] []) (fun w hw => hw ▸ Mem.refl v) ?_
  refine pt_seq (pt_region ?_)
  refine pt_val (by decide) rfl (val_assign (v := .pointer none) rfl) rfl ?_
  refine pt_val (by decide) rfl (val_assign (v := .slice none 0 0) rfl) rfl ?_
  refine pt_regionEnd (pt_seq (pt_region ?_))
  refine pt_val (by decide) rfl (val_move (v := pv) rfl) rfl ?_
  refine pt_val (by decide) rfl (val_build' (parts := _) (vs := [(0, pv)]) (cs := [pv, .slice none 0 0, .slice none 0 0]) rfl (by rw [hpv]; kernel_rfl)) rfl ?_
  refine pt_new (by decide) rfl (acts_box (v := .agg #[pv, .slice none 0 0, .slice none 0 0]) rfl) rfl fun sb hsb => ?_
  refine Pt.imp (M' := Mem v [] [some (sb, blk [pv, .slice none 0 0, .slice none 0 0] 40)]) (fun _ h => h) ?_
  refine pt_val (by decide) rfl (val_assign (v := vPtr sb) rfl) rfl ?_
  refine pt_regionEnd (pt_seq (pt_region ?_))
  refine pt_val (by decide) rfl (val_move (v := vPtr sb) rfl) rfl ?_
  refine pt_val (by decide) rfl (val_move (v := pv) rfl) rfl ?_
  refine pt_val (by decide) rfl (val_len (a := pa) (len := 0) (cap := pc) (by rw [show Value.slice pa 0 pc = pv from hpv.symm]; rfl) Try.underlying22) rfl ?_
  refine pt_val (by decide) rfl (val_move (v := vPtr sb) rfl) rfl ?_
  refine pt_val (by decide) rfl (val_makeFunc1 (fs := #[vPtr sb]) (vs := #[]) (fun a hf => ?_) (fun a hf => by simp)) rfl ?_
  · simp only [List.map_toArray, List.map_cons, List.map_nil]
    rw [ev_eval hf (x := .tmp 15) (v := vPtr sb) rfl]
  refine pt_val (by decide) rfl (val_move (v := qv) rfl) rfl ?_
  refine pt_val (by decide) rfl (val_move (v := .bool calm) rfl) rfl ?_
  refine pt_call (T := fun w r _ u => r = .returned (.slice none 0 0) ∧ RV w u) (by decide) rfl (callsTo (xs := [.tmp 14, .tmp 16, .tmp 17, .tmp 18]) (vs := [vI 0, .func (.func 23) #[vPtr sb] #[], qv, .bool calm]) Try.func22 rfl (by decide) rfl) (by infer_instance) (fun w hw => callI_of_v (odd22_v (.inl (.inl (by decide))) (.inr ⟨_, _, _, rfl⟩))) (fun t' ht => by cases ht; rfl) (fun w r x' hw => ?_) (fun w ch x' hw a w' hf hl => ?_)
  · refine Pt.world fun z hz => ?_
    obtain ⟨hr, hz⟩ := hz
    obtain rfl : r = .slice none 0 0 := by cases hr; rfl
    have hw' := hw.grow hz
    refine Pt.imp (M' := Mem v [] [some (sb, blk [pv, .slice none 0 0, .slice none 0 0] 40)]) (fun y hy => hy ▸ hw') ?_
    refine pt_val (by decide) rfl (val_assign (v := vPtr sb) rfl) rfl ?_
    refine pt_val (by decide) rfl (val_assign (v := .slice none 0 0) rfl) rfl ?_
    refine pt_regionEnd (pt_ret (fn := Try.f15) (v := .tuple #[vPtr sb, .slice none 0 0]) Try.func15 rfl (fun a hf => res_two' rfl rfl rfl hf) fun w hw => g1 _ () w (hw.mono fun q hq => ⟨sb, _, rfl, ?_⟩))
    exact ⟨_, _, none, none, none, hq.place.place.place.perm (List.perm_append_comm (l₁ := [some (sb, blk [pv, .slice none 0 0, .slice none 0 0] 40)]) (l₂ := [none, none, none])), RowE.nil 56 2, RowE.nil 3 1, RowE.nil 43 2⟩
  · obtain ⟨z, ⟨hr, _⟩, _⟩ := hl
    cases hr
/-- ████ The laws' play. ████ -/
theorem plU_v {qa : Option Addr} {cap : Nat} (hF : Fit ps qs) (hG : PrgV v pv ps) (hQ : QV v qa qs) :
    @CallV _ Try.prog (coLaw Try.prog Post) 15 #[pv, .slice qa qs.length cap, .bool calm] v (fun r u => ∃ sb mv, r = .returned (.tuple #[vPtr sb, mv]) ∧ PlayU pv v sb mv (finM ps qs calm) u) := by
  have hf1 := hF.n
  have hf3 := hF.q
  rcases Nat.eq_zero_or_pos ps.length with h0 | hn
  · obtain rfl : ps = [] := List.length_eq_zero_iff.1 h0
    have e : finM [] qs calm = mac0 0 := by unfold finM; exact mac_nil _
    rw [e]
    exact play15_nil hG
  · have hJ := calmJ_le ps qs calm
    letI C : Co Try.prog := coLaw Try.prog Post
    refine (play15_v (Post := Post) (cap := cap) (by omega) (hF.pre hn (by omega)) hG (by omega) hQ).mono fun r u ⟨sb, mv, hr, hu⟩ => ⟨sb, mv, hr, ?_⟩
    obtain ⟨bs, pk, eb, ep, er, h1, h2, h3, h4⟩ := hu.ex
    refine ⟨bs, pk, eb, ep, er, h1, h2, h3, ?_⟩
    have e1 : (finM ps qs calm).moves.length = qs.length + calmJ ps qs calm := (mac_len hn _).2
    have e2 : flatM (finM ps qs calm).moves = (List.range (qs.length + calmJ ps qs calm)).flatMap fun m => [vI (whoOf ps.length qs m), .bool (movedN ps qs m)] := by
      unfold finM; rw [movs_mac hn]; unfold flatM; rw [List.flatMap_map]
    rw [e1, e2]; exact h4
end
end Go.Bt
end
