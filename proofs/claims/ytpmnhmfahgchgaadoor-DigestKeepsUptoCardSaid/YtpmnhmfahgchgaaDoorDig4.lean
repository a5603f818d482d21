import Derived.Test.YtpmnhmfahgchgaaDoorDig3
import Derived.Test.YtpmnhmfahgchgaaDoorProg
set_option linter.unusedVariables false
set_option linter.unusedSimpArgs false
namespace Go.Proofs.YtpmnhmfahgchgaaDoor
open Go.Sx Go.Ps
theorem Cop.cells_log {W : World} {o : Cop} (h : o.ok W) : (o.cells.drop 71).take 32 = o.log.map vU8 := by
  have := congrArg (List.drop 4) (Cop.drop67 h)
  rw [List.drop_drop, show (67 + 4 : Nat) = 71 from rfl] at this
  rw [this, List.drop_succ_cons, List.drop_succ_cons, List.drop_succ_cons, rootC, List.drop_succ_cons, List.drop_zero, List.take_left' (by rw [List.length_map]; exact h.gl)]
theorem Cop.cells_map {W : World} {o : Cop} (h : o.ok W) : (o.cells.drop 103).take 32 = o.map.map vU8 := by
  have := congrArg (List.drop 36) (Cop.drop67 h)
  rw [List.drop_drop, show (67 + 36 : Nat) = 103 from rfl] at this
  rw [this, List.drop_succ_cons, List.drop_succ_cons, List.drop_succ_cons, rootC, List.drop_succ_cons, List.drop_left' (by rw [List.length_map]; exact h.gl), List.take_of_length_le (by rw [List.length_map, h.ml]; omega)]

theorem known_any (w : World) (o : Cop) (ho : o.ok w) (hsm : o.small) : Calls Tryd.prog 25 #[.agg o.cells.toArray] w fun e w' => ∃ v, e = .returned v ∧ v = .bool (known o) ∧ Mem w [] [] w' := by
  refine calls_of_sw (vs := [.agg o.cells.toArray]) Tryd.func25 rfl Tryd.ntmps25 rfl (SW.begin ?_)
  refine sw_seq ?_
  refine sw_region ?_
  refine ow_new (acts_box rfl) rfl (fun b1 hb1 => ?_)   -- 1
  refine ow_val (val_assign rfl) rfl ?_   -- 2
  refine ow_nil (into ?_)
  refine sw_seq ?_
  refine sw_region ?_
  refine ow_val (val_fieldAddr (m := 0) (e := 0) rfl Tryd.underlying50 rfl rfl Tryd.sizeOf3 rfl) rfl ?_   -- 3
  refine ow_val (val_load_at 0 rfl rfl Tryd.isAgg3 rfl) rfl ?_   -- 4
  by_cases h1 : 1 ≤ o.kind
  · -- yes
    refine ow_val ((val_geq_int rfl rfl).to (congrArg Value.bool (decide_eq_true (by omega)))) rfl ?_   -- 5
    refine ow_val (val_move rfl) rfl ?_   -- 6
    refine ow_guard_yes rfl rfl rfl ?_
    refine ow_val (val_fieldAddr (m := 0) (e := 0) rfl Tryd.underlying50 rfl rfl Tryd.sizeOf3 rfl) rfl ?_   -- 7
    refine ow_guard_yes rfl rfl rfl ?_
    refine ow_val (val_load_at 0 rfl rfl Tryd.isAgg3 rfl) rfl ?_   -- 8
    refine ow_guard_yes rfl rfl rfl ?_
    refine ow_val (val_leq_int rfl rfl) rfl ?_   -- 9
    refine ow_val (val_pick_true rfl rfl) rfl ?_   -- 10
    refine ow_val (val_assign rfl) rfl ?_   -- 2
    refine ow_nil (into ?_)
    exact sw_ret (fun w hm => ret_one _ rfl rfl ⟨by simp [known, h1] <;> rfl, hm.forgetAll⟩)
  · -- no
    refine ow_val ((val_geq_int rfl rfl).to (congrArg Value.bool (decide_eq_false (by omega)))) rfl ?_   -- 5
    refine ow_val (val_move rfl) rfl ?_   -- 6
    first | refine ow_guard_no rfl rfl rfl rfl rfl ?_ | refine ow_guard_none rfl rfl rfl rfl rfl ?_
    first | refine ow_guard_no rfl rfl rfl rfl rfl ?_ | refine ow_guard_none rfl rfl rfl rfl rfl ?_
    first | refine ow_guard_no rfl rfl rfl rfl rfl ?_ | refine ow_guard_none rfl rfl rfl rfl rfl ?_
    refine ow_val (val_pick_false rfl rfl) rfl ?_   -- 10
    refine ow_val (val_assign rfl) rfl ?_   -- 2
    refine ow_nil (into ?_)
    exact sw_ret (fun w hm => ret_one _ rfl rfl ⟨by simp [known, h1] <;> rfl, hm.forgetAll⟩)

theorem input_1 (w : World) (o : Cop) (ho : o.ok w) (hsm : o.small) (hk : o.kind = 1) : Calls Tryd.prog 26 #[.agg o.cells.toArray] w fun en w' => ∃ u, en = .returned u ∧ ∃ s e', u = .tuple #[s, vInt (((opIn o).2 : Nat) : Int)] ∧ RowE s 5 1 ((opIn o).1).length (((opIn o).1).map vU8) e' ∧ Mem w [] [e'] w' := by
  have hop : opIn o = (leafI o.P.xs, 0) := by simp [opIn, hk]
  have hsm1 := hsm.1
  have hpl := ho.p.2.1
  have hkl := ho.kl
  have hkm := ho.km
  refine calls_of_sw (vs := [.agg o.cells.toArray]) Tryd.func26 rfl Tryd.ntmps26 rfl (SW.begin ?_)
  refine sw_seq ?_
  refine sw_region ?_
  refine ow_new (acts_box rfl) rfl (fun b1 hb1 => ?_)   -- 1
  refine ow_val (val_assign rfl) rfl ?_   -- 2
  refine ow_val (val_assign rfl) rfl ?_   -- 3
  refine ow_nil (into ?_)
  refine sw_seq ?_
  refine sw_seq ?_
  refine sw_region ?_
  refine ow_val (val_fieldAddr (m := 0) (e := 0) rfl Tryd.underlying50 rfl rfl Tryd.sizeOf3 rfl) rfl ?_   -- 4
  refine ow_val (val_load_at 0 rfl rfl Tryd.isAgg3 rfl) rfl ?_   -- 5
  refine ow_nil (into ?_)
  refine sw_block ?_
  refine sw_seq ?_
  refine sw_region ?_
  refine ow_val ((val_eql_int rfl rfl).to (v' := .bool true) (congrArg Value.bool (decide_eq_true (by omega)))) rfl ?_   -- 7
  refine ow_val (val_assign rfl) rfl ?_   -- 6
  refine ow_nil (into ?_)
  refine sw_true rfl rfl ?_
  refine sw_seq ?_
  refine sw_region ?_
  refine ow_val (val_fieldAddr (m := 0) (e := 2) rfl Tryd.underlying50 rfl rfl Tryd.sizeOf25 rfl) rfl ?_   -- 8
  refine ow_val (val_load_at 0 rfl rfl Tryd.isAgg25 rfl) rfl ?_   -- 9
  refine ow_call_row (E := 5) (size := 1) (k := 1 + o.P.xs.length) (xs := (leafI o.P.xs).map vU8) (callsTo Tryd.func52 rfl (by kernel_rfl) rfl) rfl (fun w hm => leafI_any w _ o.P.xs.length _ o.P.xs rfl (ho.p.1.mem hm) (by omega) (by omega)) (fun a10 c10 e10 hr10 => ?_)   -- 10
  refine ow_val (val_assign rfl) rfl ?_   -- 2
  refine ow_val (val_assign rfl) rfl ?_   -- 3
  refine ow_nil (into ?_)
  refine sw_ret (fun w hm => ?_)
  try dsimp only [thenP, blockP, Nat.beq, cond]
  exact ret_two _ _ rfl rfl rfl ⟨_, e10, by rw [hop] <;> rfl, by rw [hop]; exact hr10.cong rfl (by rw [leafI, List.length_append]; rfl) rfl, hm.only (.cons_cons _ (List.nil_sublist _))⟩

theorem input_2 (w : World) (o : Cop) (ho : o.ok w) (hsm : o.small) (hk : o.kind = 2) : Calls Tryd.prog 26 #[.agg o.cells.toArray] w fun en w' => ∃ u, en = .returned u ∧ ∃ s e', u = .tuple #[s, vInt (((opIn o).2 : Nat) : Int)] ∧ RowE s 5 1 ((opIn o).1).length (((opIn o).1).map vU8) e' ∧ Mem w [] [e'] w' := by
  have hop : opIn o = (nodeP o.w o.L o.R, chk o.w [o.L, o.R]) := by simp [opIn, hk]
  have hsm1 := hsm.1
  have hpl := ho.p.2.1
  have hkl := ho.kl
  have hkm := ho.km
  refine calls_of_sw (vs := [.agg o.cells.toArray]) Tryd.func26 rfl Tryd.ntmps26 rfl (SW.begin ?_)
  refine sw_seq ?_
  refine sw_region ?_
  refine ow_new (acts_box rfl) rfl (fun b1 hb1 => ?_)   -- 1
  refine ow_val (val_assign rfl) rfl ?_   -- 2
  refine ow_val (val_assign rfl) rfl ?_   -- 3
  refine ow_nil (into ?_)
  refine sw_seq ?_
  refine sw_seq ?_
  refine sw_region ?_
  refine ow_val (val_fieldAddr (m := 0) (e := 0) rfl Tryd.underlying50 rfl rfl Tryd.sizeOf3 rfl) rfl ?_   -- 4
  refine ow_val (val_load_at 0 rfl rfl Tryd.isAgg3 rfl) rfl ?_   -- 5
  refine ow_nil (into ?_)
  refine sw_block ?_
  refine sw_seq ?_
  refine sw_region ?_
  refine ow_val ((val_eql_int rfl rfl).to (v' := .bool false) (congrArg Value.bool (decide_eq_false (by omega)))) rfl ?_   -- 7
  refine ow_val (val_assign rfl) rfl ?_   -- 6
  refine ow_nil (into ?_)
  refine sw_false rfl rfl ?_
  refine sw_seq ?_
  refine sw_region ?_
  refine ow_val ((val_eql_int rfl rfl).to (v' := .bool true) (congrArg Value.bool (decide_eq_true (by omega)))) rfl ?_   -- 12
  refine ow_val (val_assign rfl) rfl ?_   -- 11
  refine ow_nil (into ?_)
  refine sw_true rfl rfl ?_
  refine sw_seq ?_
  refine sw_region ?_
  refine ow_val (val_fieldAddr (m := 0) (e := 1) rfl Tryd.underlying50 rfl rfl Tryd.sizeOf3 rfl) rfl ?_   -- 13
  refine ow_val (val_load_at 0 rfl rfl Tryd.isAgg3 rfl) rfl ?_   -- 14
  refine ow_val (val_fieldAddr (m := 31) (e := 3) rfl Tryd.underlying50 rfl rfl Tryd.sizeOf27 rfl) rfl ?_   -- 15
  refine ow_val (val_load_part 0 rfl rfl Tryd.isAgg27 Tryd.sizeOf27 (by show (List.map vU8 o.L).length = _; rw [List.length_map]; exact ho.ll) (Cop.cells_L ho)) rfl ?_   -- 16
  refine ow_val (val_fieldAddr (m := 31) (e := 35) rfl Tryd.underlying50 rfl rfl Tryd.sizeOf27 rfl) rfl ?_   -- 17
  refine ow_val (val_load_part 0 rfl rfl Tryd.isAgg27 Tryd.sizeOf27 (by show (List.map vU8 o.R).length = _; rw [List.length_map]; exact ho.rl) (Cop.cells_R ho)) rfl ?_   -- 18
  refine ow_call_row2 (E := 5) (size := 1) (k := (nodeP o.w o.L o.R).length) (xs := (nodeP o.w o.L o.R).map vU8) (x := vInt ((chk o.w [o.L, o.R] : Nat) : Int)) (callsTo Tryd.func53 rfl (by kernel_rfl) rfl) rfl (fun w hm => nodeInput_any w o.w o.L o.R ho.ll ho.rl) (fun a19 c19 e19 hr19 => ?_)   -- 19
  refine ow_val (val_extract rfl rfl) rfl ?_   -- 20
  refine ow_val (val_extract rfl rfl) rfl ?_   -- 21
  refine ow_val (val_assign rfl) rfl ?_   -- 2
  refine ow_val (val_assign rfl) rfl ?_   -- 3
  refine ow_nil (into ?_)
  refine sw_ret (fun w hm => ?_)
  try dsimp only [thenP, blockP, Nat.beq, cond]
  exact ret_two _ _ rfl rfl rfl ⟨_, e19, by rw [hop] <;> rfl, by rw [hop]; exact hr19, hm.only (.cons_cons _ (List.nil_sublist _))⟩

theorem input_3 (w : World) (o : Cop) (ho : o.ok w) (hsm : o.small) (hk : o.kind = 3) : Calls Tryd.prog 26 #[.agg o.cells.toArray] w fun en w' => ∃ u, en = .returned u ∧ ∃ s e', u = .tuple #[s, vInt (((opIn o).2 : Nat) : Int)] ∧ RowE s 5 1 ((opIn o).1).length (((opIn o).1).map vU8) e' ∧ Mem w [] [e'] w' := by
  have hop : opIn o = (keyI o.P.xs, 0) := by simp [opIn, hk]
  have hsm1 := hsm.1
  have hpl := ho.p.2.1
  have hkl := ho.kl
  have hkm := ho.km
  refine calls_of_sw (vs := [.agg o.cells.toArray]) Tryd.func26 rfl Tryd.ntmps26 rfl (SW.begin ?_)
  refine sw_seq ?_
  refine sw_region ?_
  refine ow_new (acts_box rfl) rfl (fun b1 hb1 => ?_)   -- 1
  refine ow_val (val_assign rfl) rfl ?_   -- 2
  refine ow_val (val_assign rfl) rfl ?_   -- 3
  refine ow_nil (into ?_)
  refine sw_seq ?_
  refine sw_seq ?_
  refine sw_region ?_
  refine ow_val (val_fieldAddr (m := 0) (e := 0) rfl Tryd.underlying50 rfl rfl Tryd.sizeOf3 rfl) rfl ?_   -- 4
  refine ow_val (val_load_at 0 rfl rfl Tryd.isAgg3 rfl) rfl ?_   -- 5
  refine ow_nil (into ?_)
  refine sw_block ?_
  refine sw_seq ?_
  refine sw_region ?_
  refine ow_val ((val_eql_int rfl rfl).to (v' := .bool false) (congrArg Value.bool (decide_eq_false (by omega)))) rfl ?_   -- 7
  refine ow_val (val_assign rfl) rfl ?_   -- 6
  refine ow_nil (into ?_)
  refine sw_false rfl rfl ?_
  refine sw_seq ?_
  refine sw_region ?_
  refine ow_val ((val_eql_int rfl rfl).to (v' := .bool false) (congrArg Value.bool (decide_eq_false (by omega)))) rfl ?_   -- 12
  refine ow_val (val_assign rfl) rfl ?_   -- 11
  refine ow_nil (into ?_)
  refine sw_false rfl rfl ?_
  refine sw_seq ?_
  refine sw_region ?_
  refine ow_val ((val_eql_int rfl rfl).to (v' := .bool true) (congrArg Value.bool (decide_eq_true (by omega)))) rfl ?_   -- 23
  refine ow_val (val_assign rfl) rfl ?_   -- 22
  refine ow_nil (into ?_)
  refine sw_true rfl rfl ?_
  refine sw_seq ?_
  refine sw_region ?_
  refine ow_val (val_fieldAddr (m := 0) (e := 2) rfl Tryd.underlying50 rfl rfl Tryd.sizeOf25 rfl) rfl ?_   -- 24
  refine ow_val (val_load_at 0 rfl rfl Tryd.isAgg25 rfl) rfl ?_   -- 25
  refine ow_call_row (E := 5) (size := 1) (k := 1 + o.P.xs.length) (xs := (keyI o.P.xs).map vU8) (callsTo Tryd.func54 rfl (by kernel_rfl) rfl) rfl (fun w hm => keyI_any w _ o.P.xs.length _ o.P.xs rfl (ho.p.1.mem hm) (by omega) (by omega)) (fun a26 c26 e26 hr26 => ?_)   -- 26
  refine ow_val (val_assign rfl) rfl ?_   -- 2
  refine ow_val (val_assign rfl) rfl ?_   -- 3
  refine ow_nil (into ?_)
  refine sw_ret (fun w hm => ?_)
  try dsimp only [thenP, blockP, Nat.beq, cond]
  exact ret_two _ _ rfl rfl rfl ⟨_, e26, by rw [hop] <;> rfl, by rw [hop]; exact hr26.cong rfl (by rw [keyI, List.length_append]; rfl) rfl, hm.only (.cons_cons _ (List.nil_sublist _))⟩

theorem input_4 (w : World) (o : Cop) (ho : o.ok w) (hsm : o.small) (hk : o.kind = 4) : Calls Tryd.prog 26 #[.agg o.cells.toArray] w fun en w' => ∃ u, en = .returned u ∧ ∃ s e', u = .tuple #[s, vInt (((opIn o).2 : Nat) : Int)] ∧ RowE s 5 1 ((opIn o).1).length (((opIn o).1).map vU8) e' ∧ Mem w [] [e'] w' := by
  have hop : opIn o = (bucketI (prs o.pairs.xs), 0) := by simp [opIn, hk]
  have hsm1 := hsm.1
  have hpl := ho.p.2.1
  have hkl := ho.kl
  have hkm := ho.km
  refine calls_of_sw (vs := [.agg o.cells.toArray]) Tryd.func26 rfl Tryd.ntmps26 rfl (SW.begin ?_)
  refine sw_seq ?_
  refine sw_region ?_
  refine ow_new (acts_box rfl) rfl (fun b1 hb1 => ?_)   -- 1
  refine ow_val (val_assign rfl) rfl ?_   -- 2
  refine ow_val (val_assign rfl) rfl ?_   -- 3
  refine ow_nil (into ?_)
  refine sw_seq ?_
  refine sw_seq ?_
  refine sw_region ?_
  refine ow_val (val_fieldAddr (m := 0) (e := 0) rfl Tryd.underlying50 rfl rfl Tryd.sizeOf3 rfl) rfl ?_   -- 4
  refine ow_val (val_load_at 0 rfl rfl Tryd.isAgg3 rfl) rfl ?_   -- 5
  refine ow_nil (into ?_)
  refine sw_block ?_
  refine sw_seq ?_
  refine sw_region ?_
  refine ow_val ((val_eql_int rfl rfl).to (v' := .bool false) (congrArg Value.bool (decide_eq_false (by omega)))) rfl ?_   -- 7
  refine ow_val (val_assign rfl) rfl ?_   -- 6
  refine ow_nil (into ?_)
  refine sw_false rfl rfl ?_
  refine sw_seq ?_
  refine sw_region ?_
  refine ow_val ((val_eql_int rfl rfl).to (v' := .bool false) (congrArg Value.bool (decide_eq_false (by omega)))) rfl ?_   -- 12
  refine ow_val (val_assign rfl) rfl ?_   -- 11
  refine ow_nil (into ?_)
  refine sw_false rfl rfl ?_
  refine sw_seq ?_
  refine sw_region ?_
  refine ow_val ((val_eql_int rfl rfl).to (v' := .bool false) (congrArg Value.bool (decide_eq_false (by omega)))) rfl ?_   -- 23
  refine ow_val (val_assign rfl) rfl ?_   -- 22
  refine ow_nil (into ?_)
  refine sw_false rfl rfl ?_
  refine sw_seq ?_
  refine sw_region ?_
  refine ow_val ((val_eql_int rfl rfl).to (v' := .bool true) (congrArg Value.bool (decide_eq_true (by omega)))) rfl ?_   -- 28
  refine ow_val (val_assign rfl) rfl ?_   -- 27
  refine ow_nil (into ?_)
  refine sw_true rfl rfl ?_
  refine sw_seq ?_
  refine sw_region ?_
  refine ow_val (val_fieldAddr (m := 0) (e := 67) rfl Tryd.underlying50 rfl rfl Tryd.sizeOf43 rfl) rfl ?_   -- 29
  refine ow_val (val_load_at 0 rfl rfl Tryd.isAgg43 (Cop.c67 ho)) rfl ?_   -- 30
  refine ow_call_row (E := 5) (size := 1) (k := (bucketI (prs o.pairs.xs)).length) (xs := (bucketI (prs o.pairs.xs)).map vU8) (callsTo Tryd.func55 rfl (by kernel_rfl) rfl) rfl (fun w hm => bucketI_any w o.pairs.a o.pairs.c o.pairs.xs (ho.pr.mem hm) (fun s hs => ⟨(ho.pe s hs).1.mem hm, (ho.pe s hs).2.mem hm⟩) ho.pl ho.pm hsm.2.1) (fun a31 c31 e31 hr31 => ?_)   -- 31
  refine ow_val (val_assign rfl) rfl ?_   -- 2
  refine ow_val (val_assign rfl) rfl ?_   -- 3
  refine ow_nil (into ?_)
  refine sw_ret (fun w hm => ?_)
  try dsimp only [thenP, blockP, Nat.beq, cond]
  exact ret_two _ _ rfl rfl rfl ⟨_, e31, by rw [hop] <;> rfl, by rw [hop]; exact hr31, hm.only (.cons_cons _ (List.nil_sublist _))⟩

theorem input_5 (w : World) (o : Cop) (ho : o.ok w) (hsm : o.small) (hk : o.kind = 5) : Calls Tryd.prog 26 #[.agg o.cells.toArray] w fun en w' => ∃ u, en = .returned u ∧ ∃ s e', u = .tuple #[s, vInt (((opIn o).2 : Nat) : Int)] ∧ RowE s 5 1 ((opIn o).1).length (((opIn o).1).map vU8) e' ∧ Mem w [] [e'] w' := by
  have hop : opIn o = (branchP o.w o.bm o.kids.xs, chkB o.w o.bm o.kids.xs) := by simp [opIn, hk]
  have hsm1 := hsm.1
  have hpl := ho.p.2.1
  have hkl := ho.kl
  have hkm := ho.km
  refine calls_of_sw (vs := [.agg o.cells.toArray]) Tryd.func26 rfl Tryd.ntmps26 rfl (SW.begin ?_)
  refine sw_seq ?_
  refine sw_region ?_
  refine ow_new (acts_box rfl) rfl (fun b1 hb1 => ?_)   -- 1
  refine ow_val (val_assign rfl) rfl ?_   -- 2
  refine ow_val (val_assign rfl) rfl ?_   -- 3
  refine ow_nil (into ?_)
  refine sw_seq ?_
  refine sw_seq ?_
  refine sw_region ?_
  refine ow_val (val_fieldAddr (m := 0) (e := 0) rfl Tryd.underlying50 rfl rfl Tryd.sizeOf3 rfl) rfl ?_   -- 4
  refine ow_val (val_load_at 0 rfl rfl Tryd.isAgg3 rfl) rfl ?_   -- 5
  refine ow_nil (into ?_)
  refine sw_block ?_
  refine sw_seq ?_
  refine sw_region ?_
  refine ow_val ((val_eql_int rfl rfl).to (v' := .bool false) (congrArg Value.bool (decide_eq_false (by omega)))) rfl ?_   -- 7
  refine ow_val (val_assign rfl) rfl ?_   -- 6
  refine ow_nil (into ?_)
  refine sw_false rfl rfl ?_
  refine sw_seq ?_
  refine sw_region ?_
  refine ow_val ((val_eql_int rfl rfl).to (v' := .bool false) (congrArg Value.bool (decide_eq_false (by omega)))) rfl ?_   -- 12
  refine ow_val (val_assign rfl) rfl ?_   -- 11
  refine ow_nil (into ?_)
  refine sw_false rfl rfl ?_
  refine sw_seq ?_
  refine sw_region ?_
  refine ow_val ((val_eql_int rfl rfl).to (v' := .bool false) (congrArg Value.bool (decide_eq_false (by omega)))) rfl ?_   -- 23
  refine ow_val (val_assign rfl) rfl ?_   -- 22
  refine ow_nil (into ?_)
  refine sw_false rfl rfl ?_
  refine sw_seq ?_
  refine sw_region ?_
  refine ow_val ((val_eql_int rfl rfl).to (v' := .bool false) (congrArg Value.bool (decide_eq_false (by omega)))) rfl ?_   -- 28
  refine ow_val (val_assign rfl) rfl ?_   -- 27
  refine ow_nil (into ?_)
  refine sw_false rfl rfl ?_
  refine sw_seq ?_
  refine sw_region ?_
  refine ow_val ((val_eql_int rfl rfl).to (v' := .bool true) (congrArg Value.bool (decide_eq_true (by omega)))) rfl ?_   -- 33
  refine ow_val (val_assign rfl) rfl ?_   -- 32
  refine ow_nil (into ?_)
  refine sw_true rfl rfl ?_
  refine sw_seq ?_
  refine sw_region ?_
  refine ow_val (val_fieldAddr (m := 0) (e := 1) rfl Tryd.underlying50 rfl rfl Tryd.sizeOf3 rfl) rfl ?_   -- 34
  refine ow_val (val_load_at 0 rfl rfl Tryd.isAgg3 rfl) rfl ?_   -- 35
  refine ow_val (val_fieldAddr (m := 0) (e := 68) rfl Tryd.underlying50 rfl rfl Tryd.sizeOf44 rfl) rfl ?_   -- 36
  refine ow_val (val_load_at 0 rfl rfl Tryd.isAgg44 (Cop.c68 ho)) rfl ?_   -- 37
  refine ow_val (val_fieldAddr (m := 0) (e := 69) rfl Tryd.underlying50 rfl rfl Tryd.sizeOf45 rfl) rfl ?_   -- 38
  refine ow_val (val_load_at 0 rfl rfl Tryd.isAgg45 (Cop.c69 ho)) rfl ?_   -- 39
  refine ow_call_row2 (E := 5) (size := 1) (k := (branchP o.w o.bm o.kids.xs).length) (xs := (branchP o.w o.bm o.kids.xs).map vU8) (x := vInt ((chkB o.w o.bm o.kids.xs : Nat) : Int)) (callsTo Tryd.func56 rfl (by kernel_rfl) rfl) rfl (fun w hm => branchInput_any w o.w o.bm o.kids.a o.kids.c o.kids.xs ho.ke (ho.kr.mem hm) (by omega) (by omega)) (fun a40 c40 e40 hr40 => ?_)   -- 40
  refine ow_val (val_extract rfl rfl) rfl ?_   -- 41
  refine ow_val (val_extract rfl rfl) rfl ?_   -- 42
  refine ow_val (val_assign rfl) rfl ?_   -- 2
  refine ow_val (val_assign rfl) rfl ?_   -- 3
  refine ow_nil (into ?_)
  refine sw_ret (fun w hm => ?_)
  try dsimp only [thenP, blockP, Nat.beq, cond]
  exact ret_two _ _ rfl rfl rfl ⟨_, e40, by rw [hop] <;> rfl, by rw [hop]; exact hr40, hm.only (.cons_cons _ (List.nil_sublist _))⟩

theorem input_other (w : World) (o : Cop) (ho : o.ok w) (hsm : o.small) (hk1 : ¬ o.kind = 1) (hk2 : ¬ o.kind = 2) (hk3 : ¬ o.kind = 3) (hk4 : ¬ o.kind = 4) (hk5 : ¬ o.kind = 5) : Calls Tryd.prog 26 #[.agg o.cells.toArray] w fun en w' => ∃ u, en = .returned u ∧ ∃ s e', u = .tuple #[s, vInt (((opIn o).2 : Nat) : Int)] ∧ RowE s 5 1 ((opIn o).1).length (((opIn o).1).map vU8) e' ∧ Mem w [] [e'] w' := by
  have hop : opIn o = (rootP o.w o.size o.log o.map, chk o.w [o.log, o.map]) := by simp [opIn, hk1, hk2, hk3, hk4, hk5]
  have hsm1 := hsm.1
  have hpl := ho.p.2.1
  have hkl := ho.kl
  have hkm := ho.km
  refine calls_of_sw (vs := [.agg o.cells.toArray]) Tryd.func26 rfl Tryd.ntmps26 rfl (SW.begin ?_)
  refine sw_seq ?_
  refine sw_region ?_
  refine ow_new (acts_box rfl) rfl (fun b1 hb1 => ?_)   -- 1
  refine ow_val (val_assign rfl) rfl ?_   -- 2
  refine ow_val (val_assign rfl) rfl ?_   -- 3
  refine ow_nil (into ?_)
  refine sw_seq ?_
  refine sw_seq ?_
  refine sw_region ?_
  refine ow_val (val_fieldAddr (m := 0) (e := 0) rfl Tryd.underlying50 rfl rfl Tryd.sizeOf3 rfl) rfl ?_   -- 4
  refine ow_val (val_load_at 0 rfl rfl Tryd.isAgg3 rfl) rfl ?_   -- 5
  refine ow_nil (into ?_)
  refine sw_block ?_
  refine sw_seq ?_
  refine sw_region ?_
  refine ow_val ((val_eql_int rfl rfl).to (v' := .bool false) (congrArg Value.bool (decide_eq_false (by omega)))) rfl ?_   -- 7
  refine ow_val (val_assign rfl) rfl ?_   -- 6
  refine ow_nil (into ?_)
  refine sw_false rfl rfl ?_
  refine sw_seq ?_
  refine sw_region ?_
  refine ow_val ((val_eql_int rfl rfl).to (v' := .bool false) (congrArg Value.bool (decide_eq_false (by omega)))) rfl ?_   -- 12
  refine ow_val (val_assign rfl) rfl ?_   -- 11
  refine ow_nil (into ?_)
  refine sw_false rfl rfl ?_
  refine sw_seq ?_
  refine sw_region ?_
  refine ow_val ((val_eql_int rfl rfl).to (v' := .bool false) (congrArg Value.bool (decide_eq_false (by omega)))) rfl ?_   -- 23
  refine ow_val (val_assign rfl) rfl ?_   -- 22
  refine ow_nil (into ?_)
  refine sw_false rfl rfl ?_
  refine sw_seq ?_
  refine sw_region ?_
  refine ow_val ((val_eql_int rfl rfl).to (v' := .bool false) (congrArg Value.bool (decide_eq_false (by omega)))) rfl ?_   -- 28
  refine ow_val (val_assign rfl) rfl ?_   -- 27
  refine ow_nil (into ?_)
  refine sw_false rfl rfl ?_
  refine sw_seq ?_
  refine sw_region ?_
  refine ow_val ((val_eql_int rfl rfl).to (v' := .bool false) (congrArg Value.bool (decide_eq_false (by omega)))) rfl ?_   -- 33
  refine ow_val (val_assign rfl) rfl ?_   -- 32
  refine ow_nil (into ?_)
  refine sw_false rfl rfl ?_
  refine sw_skip (into ?_)
  refine sw_seq ?_
  refine sw_region ?_
  refine ow_val (val_fieldAddr (m := 0) (e := 1) rfl Tryd.underlying50 rfl rfl Tryd.sizeOf3 rfl) rfl ?_   -- 43
  refine ow_val (val_load_at 0 rfl rfl Tryd.isAgg3 rfl) rfl ?_   -- 44
  refine ow_val (val_fieldAddr (m := 64) (e := 70) rfl Tryd.underlying50 rfl rfl Tryd.sizeOf48 rfl) rfl ?_   -- 45
  refine ow_val (val_load_part 0 rfl rfl Tryd.isAgg48 Tryd.sizeOf48 (rootC_len ho.gl ho.ml) (Cop.cells_root ho)) rfl ?_   -- 46
  refine ow_call_row2 (E := 5) (size := 1) (k := (rootP o.w o.size o.log o.map).length) (xs := (rootP o.w o.size o.log o.map).map vU8) (x := vInt ((chk o.w [o.log, o.map] : Nat) : Int)) (callsTo Tryd.func43 rfl (by kernel_rfl) rfl) rfl (fun w hm => rootInput_any w o.w o.size o.log o.map ho.gl ho.ml) (fun a47 c47 e47 hr47 => ?_)   -- 47
  refine ow_val (val_extract rfl rfl) rfl ?_   -- 48
  refine ow_val (val_extract rfl rfl) rfl ?_   -- 49
  refine ow_val (val_assign rfl) rfl ?_   -- 2
  refine ow_val (val_assign rfl) rfl ?_   -- 3
  refine ow_nil (into ?_)
  exact sw_ret (fun w hm => ret_two _ _ rfl rfl rfl ⟨_, e47, by rw [hop] <;> rfl, by rw [hop]; exact hr47, hm.only (.cons_cons _ (List.nil_sublist _))⟩)

theorem input_any (w : World) (o : Cop) (ho : o.ok w) (hsm : o.small) : Calls Tryd.prog 26 #[.agg o.cells.toArray] w fun en w' => ∃ u, en = .returned u ∧ ∃ s e', u = .tuple #[s, vInt (((opIn o).2 : Nat) : Int)] ∧ RowE s 5 1 ((opIn o).1).length (((opIn o).1).map vU8) e' ∧ Mem w [] [e'] w' := by
  by_cases hk1 : o.kind = 1
  · exact input_1 w o ho hsm hk1
  by_cases hk2 : o.kind = 2
  · exact input_2 w o ho hsm hk2
  by_cases hk3 : o.kind = 3
  · exact input_3 w o ho hsm hk3
  by_cases hk4 : o.kind = 4
  · exact input_4 w o ho hsm hk4
  by_cases hk5 : o.kind = 5
  · exact input_5 w o ho hsm hk5
  exact input_other w o ho hsm hk1 hk2 hk3 hk4 hk5

theorem doc_1 (w : World) (o : Cop) (ho : o.ok w) (hsm : o.small) (hk : o.kind = 1) : Calls Tryd.prog 27 #[.agg o.cells.toArray] w fun en w' => ∃ u, en = .returned u ∧ ∃ s e', u = .tuple #[s, vInt (((opIn o).2 : Nat) : Int)] ∧ RowE s 5 1 ((opIn o).1).length (((opIn o).1).map vU8) e' ∧ Mem w [] [e'] w' := by
  have hop : opIn o = (leafI o.P.xs, 0) := by simp [opIn, hk]
  have hsm1 := hsm.1
  have hpl := ho.p.2.1
  have hkl := ho.kl
  have hkm := ho.km
  refine calls_of_sw (vs := [.agg o.cells.toArray]) Tryd.func27 rfl Tryd.ntmps27 rfl (SW.begin ?_)
  refine sw_seq ?_
  refine sw_region ?_
  refine ow_new (acts_box rfl) rfl (fun b1 hb1 => ?_)   -- 1
  refine ow_val (val_assign rfl) rfl ?_   -- 2
  refine ow_val (val_assign rfl) rfl ?_   -- 3
  refine ow_nil (into ?_)
  refine sw_seq ?_
  refine sw_region ?_
  refine ow_val (val_assign rfl) rfl ?_   -- 4
  refine ow_nil (into ?_)
  refine sw_seq ?_
  refine sw_seq ?_
  refine sw_region ?_
  refine ow_val (val_fieldAddr (m := 0) (e := 0) rfl Tryd.underlying50 rfl rfl Tryd.sizeOf3 rfl) rfl ?_   -- 5
  refine ow_val (val_load_at 0 rfl rfl Tryd.isAgg3 rfl) rfl ?_   -- 6
  refine ow_nil (into ?_)
  refine sw_block ?_
  refine sw_seq ?_
  refine sw_region ?_
  refine ow_val ((val_eql_int rfl rfl).to (v' := .bool true) (congrArg Value.bool (decide_eq_true (by omega)))) rfl ?_   -- 18
  refine ow_val (val_assign rfl) rfl ?_   -- 17
  refine ow_nil (into ?_)
  refine sw_true rfl rfl ?_
  refine sw_seq ?_
  refine sw_region ?_
  refine ow_val (val_fieldAddr (m := 0) (e := 2) rfl Tryd.underlying50 rfl rfl Tryd.sizeOf25 rfl) rfl ?_   -- 19
  refine ow_val (val_load_at 0 rfl rfl Tryd.isAgg25 rfl) rfl ?_   -- 20
  refine ow_call_row (E := 5) (size := 1) (k := 1 + o.P.xs.length) (xs := (leafI o.P.xs).map vU8) (callsTo Tryd.func57 rfl (by kernel_rfl) rfl) rfl (fun w hm => rleafI_any w o.P.a o.P.xs.length _ o.P.xs rfl (ho.p.1.mem hm) (by omega)) (fun a21 c21 e21 hr21 => ?_)   -- 21
  refine ow_val (val_assign rfl) rfl ?_   -- 2
  refine ow_val (val_assign rfl) rfl ?_   -- 3
  refine ow_nil (into ?_)
  refine sw_ret (fun w hm => ?_)
  try dsimp only [thenP, blockP, Nat.beq, cond]
  exact ret_two _ _ rfl rfl rfl ⟨_, e21, by rw [hop] <;> rfl, by rw [hop]; exact hr21.cong rfl (by rw [leafI, List.length_append]; rfl) rfl, hm.only (.cons_cons _ (List.nil_sublist _))⟩

theorem doc_2_err (w : World) (o : Cop) (ho : o.ok w) (hsm : o.small) (hk : o.kind = 2) (he : ¬ chk o.w [o.L, o.R] = 0) : Calls Tryd.prog 27 #[.agg o.cells.toArray] w fun en w' => ∃ u, en = .returned u ∧ ∃ s e', u = .tuple #[s, vInt (((opIn o).2 : Nat) : Int)] ∧ RowE s 5 1 ((opIn o).1).length (((opIn o).1).map vU8) e' ∧ Mem w [] [e'] w' := by
  have hop : opIn o = (nodeP o.w o.L o.R, chk o.w [o.L, o.R]) := by simp [opIn, hk]
  have hsm1 := hsm.1
  have hpl := ho.p.2.1
  have hkl := ho.kl
  have hkm := ho.km
  refine calls_of_sw (vs := [.agg o.cells.toArray]) Tryd.func27 rfl Tryd.ntmps27 rfl (SW.begin ?_)
  refine sw_seq ?_
  refine sw_region ?_
  refine ow_new (acts_box rfl) rfl (fun b1 hb1 => ?_)   -- 1
  refine ow_val (val_assign rfl) rfl ?_   -- 2
  refine ow_val (val_assign rfl) rfl ?_   -- 3
  refine ow_nil (into ?_)
  refine sw_seq ?_
  refine sw_region ?_
  refine ow_val (val_assign rfl) rfl ?_   -- 4
  refine ow_nil (into ?_)
  refine sw_seq ?_
  refine sw_seq ?_
  refine sw_region ?_
  refine ow_val (val_fieldAddr (m := 0) (e := 0) rfl Tryd.underlying50 rfl rfl Tryd.sizeOf3 rfl) rfl ?_   -- 5
  refine ow_val (val_load_at 0 rfl rfl Tryd.isAgg3 rfl) rfl ?_   -- 6
  refine ow_nil (into ?_)
  refine sw_block ?_
  refine sw_seq ?_
  refine sw_region ?_
  refine ow_val ((val_eql_int rfl rfl).to (v' := .bool false) (congrArg Value.bool (decide_eq_false (by omega)))) rfl ?_   -- 18
  refine ow_val (val_assign rfl) rfl ?_   -- 17
  refine ow_nil (into ?_)
  refine sw_false rfl rfl ?_
  refine sw_seq ?_
  refine sw_region ?_
  refine ow_val ((val_eql_int rfl rfl).to (v' := .bool false) (congrArg Value.bool (decide_eq_false (by omega)))) rfl ?_   -- 23
  refine ow_val (val_assign rfl) rfl ?_   -- 22
  refine ow_nil (into ?_)
  refine sw_false rfl rfl ?_
  refine sw_seq ?_
  refine sw_region ?_
  refine ow_val ((val_eql_int rfl rfl).to (v' := .bool false) (congrArg Value.bool (decide_eq_false (by omega)))) rfl ?_   -- 28
  refine ow_val (val_assign rfl) rfl ?_   -- 27
  refine ow_nil (into ?_)
  refine sw_false rfl rfl ?_
  refine sw_seq ?_
  refine sw_region ?_
  refine ow_val ((val_eql_int rfl rfl).to (v' := .bool true) (congrArg Value.bool (decide_eq_true (by omega)))) rfl ?_   -- 33
  refine ow_val (val_assign rfl) rfl ?_   -- 32
  refine ow_nil (into ?_)
  refine sw_true rfl rfl ?_
  refine sw_region ?_
  refine ow_val (val_fieldAddr (m := 0) (e := 1) rfl Tryd.underlying50 rfl rfl Tryd.sizeOf3 rfl) rfl ?_   -- 34
  refine ow_val (val_load_at 0 rfl rfl Tryd.isAgg3 rfl) rfl ?_   -- 35
  refine ow_val (val_fieldAddr (m := 31) (e := 3) rfl Tryd.underlying50 rfl rfl Tryd.sizeOf27 rfl) rfl ?_   -- 36
  refine ow_val (val_load_part 0 rfl rfl Tryd.isAgg27 Tryd.sizeOf27 (by show (List.map vU8 o.L).length = _; rw [List.length_map]; exact ho.ll) (Cop.cells_L ho)) rfl ?_   -- 37
  refine ow_val (val_fieldAddr (m := 31) (e := 35) rfl Tryd.underlying50 rfl rfl Tryd.sizeOf27 rfl) rfl ?_   -- 38
  refine ow_val (val_load_part 0 rfl rfl Tryd.isAgg27 Tryd.sizeOf27 (by show (List.map vU8 o.R).length = _; rw [List.length_map]; exact ho.rl) (Cop.cells_R ho)) rfl ?_   -- 39
  refine ow_make (acts_buildSlice (cs := [o.L.map vU8, o.R.map vU8].flatten) Tryd.underlying45 Tryd.sizeOf27 zD rfl rfl (fill_aggs [o.L.map vU8, o.R.map vU8] (by decide) rfl (by simp only [List.forall_mem_cons, List.length_map]; exact ⟨ho.ll, ho.rl, fun _ h => by cases h⟩))) rfl (fun b40 hb40 => ?_)   -- 40
  refine ow_call_pure (callsTo Tryd.func60 rfl (by kernel_rfl) rfl) rfl (fun w hm => rcheck_any o.w w (some ⟨b40, 0, none⟩) 2 [o.L, o.R] (by simp only [List.forall_mem_cons]; exact ⟨ho.ll, ho.rl, fun _ h => by cases h⟩) (Rd.blk (hm.at (i := 0) rfl)) (by simp) (by simp)) ?_   -- 41
  refine ow_val (val_assign rfl) rfl ?_   -- 4
  refine ow_nil (into ?_)
  refine sw_seq ?_
  refine sw_seq ?_
  refine sw_region ?_
  refine ow_val (val_move rfl) rfl ?_   -- 51
  refine ow_val ((val_neq_int rfl rfl).to (v' := .bool true) (congrArg Value.bool (decide_eq_true (by omega)))) rfl ?_   -- 52
  refine ow_nil (into ?_)
  refine sw_true rfl rfl ?_
  refine sw_seq ?_
  refine sw_region ?_
  refine ow_val (val_move rfl) rfl ?_   -- 53
  refine ow_val (val_assign rfl) rfl ?_   -- 2
  refine ow_val (val_assign rfl) rfl ?_   -- 3
  refine ow_nil (into ?_)
  refine sw_ret (fun w hm => ?_)
  try dsimp only [thenP, blockP, Nat.beq, cond]
  exact ret_two _ _ rfl rfl rfl ⟨_, none, by rw [hop] <;> rfl, by rw [hop]; rw [show (nodeP o.w o.L o.R, chk o.w [o.L, o.R]).1 = [] from by simp [nodeP, he]]; exact RowE.nil _ _, hm.forgetAll.place⟩

theorem doc_2_ok (w : World) (o : Cop) (ho : o.ok w) (hsm : o.small) (hk : o.kind = 2) (he : chk o.w [o.L, o.R] = 0) (k : Nat) (hwk : o.w = (k : Int)) (h1 : 1 ≤ k) (h2 : k ≤ 32) : Calls Tryd.prog 27 #[.agg o.cells.toArray] w fun en w' => ∃ u, en = .returned u ∧ ∃ s e', u = .tuple #[s, vInt (((opIn o).2 : Nat) : Int)] ∧ RowE s 5 1 ((opIn o).1).length (((opIn o).1).map vU8) e' ∧ Mem w [] [e'] w' := by
  have hop : opIn o = (nodeP o.w o.L o.R, chk o.w [o.L, o.R]) := by simp [opIn, hk]
  have hsm1 := hsm.1
  have hpl := ho.p.2.1
  have hkl := ho.kl
  have hkm := ho.km
  have hw1 : o.w.toNat = k := by omega
  refine calls_of_sw (vs := [.agg o.cells.toArray]) Tryd.func27 rfl Tryd.ntmps27 rfl (SW.begin ?_)
  refine sw_seq ?_
  refine sw_region ?_
  refine ow_new (acts_box rfl) rfl (fun b1 hb1 => ?_)   -- 1
  refine ow_val (val_assign rfl) rfl ?_   -- 2
  refine ow_val (val_assign rfl) rfl ?_   -- 3
  refine ow_nil (into ?_)
  refine sw_seq ?_
  refine sw_region ?_
  refine ow_val (val_assign rfl) rfl ?_   -- 4
  refine ow_nil (into ?_)
  refine sw_seq ?_
  refine sw_seq ?_
  refine sw_region ?_
  refine ow_val (val_fieldAddr (m := 0) (e := 0) rfl Tryd.underlying50 rfl rfl Tryd.sizeOf3 rfl) rfl ?_   -- 5
  refine ow_val (val_load_at 0 rfl rfl Tryd.isAgg3 rfl) rfl ?_   -- 6
  refine ow_nil (into ?_)
  refine sw_block ?_
  refine sw_seq ?_
  refine sw_region ?_
  refine ow_val ((val_eql_int rfl rfl).to (v' := .bool false) (congrArg Value.bool (decide_eq_false (by omega)))) rfl ?_   -- 18
  refine ow_val (val_assign rfl) rfl ?_   -- 17
  refine ow_nil (into ?_)
  refine sw_false rfl rfl ?_
  refine sw_seq ?_
  refine sw_region ?_
  refine ow_val ((val_eql_int rfl rfl).to (v' := .bool false) (congrArg Value.bool (decide_eq_false (by omega)))) rfl ?_   -- 23
  refine ow_val (val_assign rfl) rfl ?_   -- 22
  refine ow_nil (into ?_)
  refine sw_false rfl rfl ?_
  refine sw_seq ?_
  refine sw_region ?_
  refine ow_val ((val_eql_int rfl rfl).to (v' := .bool false) (congrArg Value.bool (decide_eq_false (by omega)))) rfl ?_   -- 28
  refine ow_val (val_assign rfl) rfl ?_   -- 27
  refine ow_nil (into ?_)
  refine sw_false rfl rfl ?_
  refine sw_seq ?_
  refine sw_region ?_
  refine ow_val ((val_eql_int rfl rfl).to (v' := .bool true) (congrArg Value.bool (decide_eq_true (by omega)))) rfl ?_   -- 33
  refine ow_val (val_assign rfl) rfl ?_   -- 32
  refine ow_nil (into ?_)
  refine sw_true rfl rfl ?_
  refine sw_region ?_
  refine ow_val (val_fieldAddr (m := 0) (e := 1) rfl Tryd.underlying50 rfl rfl Tryd.sizeOf3 rfl) rfl ?_   -- 34
  refine ow_val (val_load_at 0 rfl rfl Tryd.isAgg3 rfl) rfl ?_   -- 35
  refine ow_val (val_fieldAddr (m := 31) (e := 3) rfl Tryd.underlying50 rfl rfl Tryd.sizeOf27 rfl) rfl ?_   -- 36
  refine ow_val (val_load_part 0 rfl rfl Tryd.isAgg27 Tryd.sizeOf27 (by show (List.map vU8 o.L).length = _; rw [List.length_map]; exact ho.ll) (Cop.cells_L ho)) rfl ?_   -- 37
  refine ow_val (val_fieldAddr (m := 31) (e := 35) rfl Tryd.underlying50 rfl rfl Tryd.sizeOf27 rfl) rfl ?_   -- 38
  refine ow_val (val_load_part 0 rfl rfl Tryd.isAgg27 Tryd.sizeOf27 (by show (List.map vU8 o.R).length = _; rw [List.length_map]; exact ho.rl) (Cop.cells_R ho)) rfl ?_   -- 39
  refine ow_make (acts_buildSlice (cs := [o.L.map vU8, o.R.map vU8].flatten) Tryd.underlying45 Tryd.sizeOf27 zD rfl rfl (fill_aggs [o.L.map vU8, o.R.map vU8] (by decide) rfl (by simp only [List.forall_mem_cons, List.length_map]; exact ⟨ho.ll, ho.rl, fun _ h => by cases h⟩))) rfl (fun b40 hb40 => ?_)   -- 40
  refine ow_call_pure (callsTo Tryd.func60 rfl (by kernel_rfl) rfl) rfl (fun w hm => rcheck_any o.w w (some ⟨b40, 0, none⟩) 2 [o.L, o.R] (by simp only [List.forall_mem_cons]; exact ⟨ho.ll, ho.rl, fun _ h => by cases h⟩) (Rd.blk (hm.at (i := 0) rfl)) (by simp) (by simp)) ?_   -- 41
  refine ow_val (val_assign rfl) rfl ?_   -- 4
  refine ow_nil (into ?_)
  refine sw_seq ?_
  refine sw_seq ?_
  refine sw_region ?_
  refine ow_val (val_move rfl) rfl ?_   -- 51
  refine ow_val ((val_neq_int rfl rfl).to (v' := .bool false) (congrArg Value.bool (decide_eq_false (fun h => h (by omega))))) rfl ?_   -- 52
  refine ow_nil (into ?_)
  refine sw_false rfl rfl ?_
  refine sw_skip (into ?_)
  refine sw_seq ?_
  refine sw_seq ?_
  refine sw_region ?_
  refine ow_val (val_fieldAddr (m := 0) (e := 0) rfl Tryd.underlying50 rfl rfl Tryd.sizeOf3 rfl) rfl ?_   -- 54
  refine ow_val (val_load_at 1 rfl rfl Tryd.isAgg3 rfl) rfl ?_   -- 55
  refine ow_nil (into ?_)
  refine sw_block ?_
  refine sw_seq ?_
  refine sw_region ?_
  refine ow_val ((val_eql_int rfl rfl).to (v' := .bool true) (congrArg Value.bool (decide_eq_true (by omega)))) rfl ?_   -- 57
  refine ow_val (val_assign rfl) rfl ?_   -- 56
  refine ow_nil (into ?_)
  refine sw_true rfl rfl ?_
  refine sw_seq ?_
  refine sw_region ?_
  refine ow_val (val_fieldAddr (m := 0) (e := 1) rfl Tryd.underlying50 rfl rfl Tryd.sizeOf3 rfl) rfl ?_   -- 58
  refine ow_val (val_load_at 1 rfl rfl Tryd.isAgg3 rfl) rfl ?_   -- 59
  refine ow_val (val_fieldAddr (m := 31) (e := 3) rfl Tryd.underlying50 rfl rfl Tryd.sizeOf27 rfl) rfl ?_   -- 60
  refine ow_val (val_load_part 1 rfl rfl Tryd.isAgg27 Tryd.sizeOf27 (by show (List.map vU8 o.L).length = _; rw [List.length_map]; exact ho.ll) (Cop.cells_L ho)) rfl ?_   -- 61
  refine ow_val (val_fieldAddr (m := 31) (e := 35) rfl Tryd.underlying50 rfl rfl Tryd.sizeOf27 rfl) rfl ?_   -- 62
  refine ow_val (val_load_part 1 rfl rfl Tryd.isAgg27 Tryd.sizeOf27 (by show (List.map vU8 o.R).length = _; rw [List.length_map]; exact ho.rl) (Cop.cells_R ho)) rfl ?_   -- 63
  refine ow_call_row (E := 5) (size := 1) (k := (nodeI k o.L o.R).length) (xs := (nodeI k o.L o.R).map vU8) (callsTo Tryd.func62 rfl (by kernel_rfl) rfl) rfl (fun w hm => (by rw [hwk]; exact rnodeI_any w k (by omega) (by omega) o.L o.R ho.ll ho.rl)) (fun a64 c64 e64 hr64 => ?_)   -- 64
  refine ow_val (val_assign rfl) rfl ?_   -- 2
  refine ow_val (val_assign rfl) rfl ?_   -- 3
  refine ow_nil (into ?_)
  refine sw_ret (fun w hm => ?_)
  try dsimp only [thenP, blockP, Nat.beq, cond]
  exact ret_two _ _ rfl rfl rfl ⟨_, e64, by rw [hop, he] <;> rfl, by rw [hop]; exact hr64.cong rfl (by rw [show (nodeP o.w o.L o.R, chk o.w [o.L, o.R]).1 = _ from by simp [nodeP, he, hw1] <;> rfl]) (by rw [show (nodeP o.w o.L o.R, chk o.w [o.L, o.R]).1 = _ from by simp [nodeP, he, hw1] <;> rfl]), hm.only (.cons_cons _ (List.nil_sublist _))⟩

theorem chkB_wd {w : Int} {bm : UInt16} {ks : List (List UInt8)} (h : chkB w bm ks = 0) : wd w = true := by
  cases hc : chk w ks with
  | zero => exact chk_wd hc
  | succ n => simp [chkB, hc] at h

theorem doc_2 (w : World) (o : Cop) (ho : o.ok w) (hsm : o.small) (hk : o.kind = 2) : Calls Tryd.prog 27 #[.agg o.cells.toArray] w fun en w' => ∃ u, en = .returned u ∧ ∃ s e', u = .tuple #[s, vInt (((opIn o).2 : Nat) : Int)] ∧ RowE s 5 1 ((opIn o).1).length (((opIn o).1).map vU8) e' ∧ Mem w [] [e'] w' := by
  by_cases he : chk o.w [o.L, o.R] = 0
  · obtain ⟨k, hwk, h1, h2⟩ := wd_nat (chk_wd he)
    exact doc_2_ok w o ho hsm hk he k hwk h1 h2
  · exact doc_2_err w o ho hsm hk he

theorem doc_3 (w : World) (o : Cop) (ho : o.ok w) (hsm : o.small) (hk : o.kind = 3) : Calls Tryd.prog 27 #[.agg o.cells.toArray] w fun en w' => ∃ u, en = .returned u ∧ ∃ s e', u = .tuple #[s, vInt (((opIn o).2 : Nat) : Int)] ∧ RowE s 5 1 ((opIn o).1).length (((opIn o).1).map vU8) e' ∧ Mem w [] [e'] w' := by
  have hop : opIn o = (keyI o.P.xs, 0) := by simp [opIn, hk]
  have hsm1 := hsm.1
  have hpl := ho.p.2.1
  have hkl := ho.kl
  have hkm := ho.km
  refine calls_of_sw (vs := [.agg o.cells.toArray]) Tryd.func27 rfl Tryd.ntmps27 rfl (SW.begin ?_)
  refine sw_seq ?_
  refine sw_region ?_
  refine ow_new (acts_box rfl) rfl (fun b1 hb1 => ?_)   -- 1
  refine ow_val (val_assign rfl) rfl ?_   -- 2
  refine ow_val (val_assign rfl) rfl ?_   -- 3
  refine ow_nil (into ?_)
  refine sw_seq ?_
  refine sw_region ?_
  refine ow_val (val_assign rfl) rfl ?_   -- 4
  refine ow_nil (into ?_)
  refine sw_seq ?_
  refine sw_seq ?_
  refine sw_region ?_
  refine ow_val (val_fieldAddr (m := 0) (e := 0) rfl Tryd.underlying50 rfl rfl Tryd.sizeOf3 rfl) rfl ?_   -- 5
  refine ow_val (val_load_at 0 rfl rfl Tryd.isAgg3 rfl) rfl ?_   -- 6
  refine ow_nil (into ?_)
  refine sw_block ?_
  refine sw_seq ?_
  refine sw_region ?_
  refine ow_val ((val_eql_int rfl rfl).to (v' := .bool false) (congrArg Value.bool (decide_eq_false (by omega)))) rfl ?_   -- 18
  refine ow_val (val_assign rfl) rfl ?_   -- 17
  refine ow_nil (into ?_)
  refine sw_false rfl rfl ?_
  refine sw_seq ?_
  refine sw_region ?_
  refine ow_val ((val_eql_int rfl rfl).to (v' := .bool true) (congrArg Value.bool (decide_eq_true (by omega)))) rfl ?_   -- 23
  refine ow_val (val_assign rfl) rfl ?_   -- 22
  refine ow_nil (into ?_)
  refine sw_true rfl rfl ?_
  refine sw_seq ?_
  refine sw_region ?_
  refine ow_val (val_fieldAddr (m := 0) (e := 2) rfl Tryd.underlying50 rfl rfl Tryd.sizeOf25 rfl) rfl ?_   -- 24
  refine ow_val (val_load_at 0 rfl rfl Tryd.isAgg25 rfl) rfl ?_   -- 25
  refine ow_call_row (E := 5) (size := 1) (k := 1 + o.P.xs.length) (xs := (keyI o.P.xs).map vU8) (callsTo Tryd.func58 rfl (by kernel_rfl) rfl) rfl (fun w hm => rkeyI_any w o.P.a o.P.xs.length _ o.P.xs rfl (ho.p.1.mem hm) (by omega)) (fun a26 c26 e26 hr26 => ?_)   -- 26
  refine ow_val (val_assign rfl) rfl ?_   -- 2
  refine ow_val (val_assign rfl) rfl ?_   -- 3
  refine ow_nil (into ?_)
  refine sw_ret (fun w hm => ?_)
  try dsimp only [thenP, blockP, Nat.beq, cond]
  exact ret_two _ _ rfl rfl rfl ⟨_, e26, by rw [hop] <;> rfl, by rw [hop]; exact hr26.cong rfl (by rw [keyI, List.length_append]; rfl) rfl, hm.only (.cons_cons _ (List.nil_sublist _))⟩

theorem doc_4 (w : World) (o : Cop) (ho : o.ok w) (hsm : o.small) (hk : o.kind = 4) : Calls Tryd.prog 27 #[.agg o.cells.toArray] w fun en w' => ∃ u, en = .returned u ∧ ∃ s e', u = .tuple #[s, vInt (((opIn o).2 : Nat) : Int)] ∧ RowE s 5 1 ((opIn o).1).length (((opIn o).1).map vU8) e' ∧ Mem w [] [e'] w' := by
  have hop : opIn o = (bucketI (prs o.pairs.xs), 0) := by simp [opIn, hk]
  have hsm1 := hsm.1
  have hpl := ho.p.2.1
  have hkl := ho.kl
  have hkm := ho.km
  refine calls_of_sw (vs := [.agg o.cells.toArray]) Tryd.func27 rfl Tryd.ntmps27 rfl (SW.begin ?_)
  refine sw_seq ?_
  refine sw_region ?_
  refine ow_new (acts_box rfl) rfl (fun b1 hb1 => ?_)   -- 1
  refine ow_val (val_assign rfl) rfl ?_   -- 2
  refine ow_val (val_assign rfl) rfl ?_   -- 3
  refine ow_nil (into ?_)
  refine sw_seq ?_
  refine sw_region ?_
  refine ow_val (val_assign rfl) rfl ?_   -- 4
  refine ow_nil (into ?_)
  refine sw_seq ?_
  refine sw_seq ?_
  refine sw_region ?_
  refine ow_val (val_fieldAddr (m := 0) (e := 0) rfl Tryd.underlying50 rfl rfl Tryd.sizeOf3 rfl) rfl ?_   -- 5
  refine ow_val (val_load_at 0 rfl rfl Tryd.isAgg3 rfl) rfl ?_   -- 6
  refine ow_nil (into ?_)
  refine sw_block ?_
  refine sw_seq ?_
  refine sw_region ?_
  refine ow_val ((val_eql_int rfl rfl).to (v' := .bool false) (congrArg Value.bool (decide_eq_false (by omega)))) rfl ?_   -- 18
  refine ow_val (val_assign rfl) rfl ?_   -- 17
  refine ow_nil (into ?_)
  refine sw_false rfl rfl ?_
  refine sw_seq ?_
  refine sw_region ?_
  refine ow_val ((val_eql_int rfl rfl).to (v' := .bool false) (congrArg Value.bool (decide_eq_false (by omega)))) rfl ?_   -- 23
  refine ow_val (val_assign rfl) rfl ?_   -- 22
  refine ow_nil (into ?_)
  refine sw_false rfl rfl ?_
  refine sw_seq ?_
  refine sw_region ?_
  refine ow_val ((val_eql_int rfl rfl).to (v' := .bool true) (congrArg Value.bool (decide_eq_true (by omega)))) rfl ?_   -- 28
  refine ow_val (val_assign rfl) rfl ?_   -- 27
  refine ow_nil (into ?_)
  refine sw_true rfl rfl ?_
  refine sw_seq ?_
  refine sw_region ?_
  refine ow_val (val_fieldAddr (m := 0) (e := 67) rfl Tryd.underlying50 rfl rfl Tryd.sizeOf43 rfl) rfl ?_   -- 29
  refine ow_val (val_load_at 0 rfl rfl Tryd.isAgg43 (Cop.c67 ho)) rfl ?_   -- 30
  refine ow_call_row (E := 5) (size := 1) (k := (bucketI (prs o.pairs.xs)).length) (xs := (bucketI (prs o.pairs.xs)).map vU8) (callsTo Tryd.func59 rfl (by kernel_rfl) rfl) rfl (fun w hm => rbucketI_any w o.pairs.a o.pairs.c o.pairs.xs (ho.pr.mem hm) (fun s hs => ⟨(ho.pe s hs).1.mem hm, (ho.pe s hs).2.mem hm⟩) ho.pl ho.pm hsm.2.1) (fun a31 c31 e31 hr31 => ?_)   -- 31
  refine ow_val (val_assign rfl) rfl ?_   -- 2
  refine ow_val (val_assign rfl) rfl ?_   -- 3
  refine ow_nil (into ?_)
  refine sw_ret (fun w hm => ?_)
  try dsimp only [thenP, blockP, Nat.beq, cond]
  exact ret_two _ _ rfl rfl rfl ⟨_, e31, by rw [hop] <;> rfl, by rw [hop]; exact hr31, hm.only (.cons_cons _ (List.nil_sublist _))⟩

theorem doc_5_err (w : World) (o : Cop) (ho : o.ok w) (hsm : o.small) (hk : o.kind = 5) (he : ¬ chkB o.w o.bm o.kids.xs = 0) : Calls Tryd.prog 27 #[.agg o.cells.toArray] w fun en w' => ∃ u, en = .returned u ∧ ∃ s e', u = .tuple #[s, vInt (((opIn o).2 : Nat) : Int)] ∧ RowE s 5 1 ((opIn o).1).length (((opIn o).1).map vU8) e' ∧ Mem w [] [e'] w' := by
  have hop : opIn o = (branchP o.w o.bm o.kids.xs, chkB o.w o.bm o.kids.xs) := by simp [opIn, hk]
  have hsm1 := hsm.1
  have hpl := ho.p.2.1
  have hkl := ho.kl
  have hkm := ho.km
  refine calls_of_sw (vs := [.agg o.cells.toArray]) Tryd.func27 rfl Tryd.ntmps27 rfl (SW.begin ?_)
  refine sw_seq ?_
  refine sw_region ?_
  refine ow_new (acts_box rfl) rfl (fun b1 hb1 => ?_)   -- 1
  refine ow_val (val_assign rfl) rfl ?_   -- 2
  refine ow_val (val_assign rfl) rfl ?_   -- 3
  refine ow_nil (into ?_)
  refine sw_seq ?_
  refine sw_region ?_
  refine ow_val (val_assign rfl) rfl ?_   -- 4
  refine ow_nil (into ?_)
  refine sw_seq ?_
  refine sw_seq ?_
  refine sw_region ?_
  refine ow_val (val_fieldAddr (m := 0) (e := 0) rfl Tryd.underlying50 rfl rfl Tryd.sizeOf3 rfl) rfl ?_   -- 5
  refine ow_val (val_load_at 0 rfl rfl Tryd.isAgg3 rfl) rfl ?_   -- 6
  refine ow_nil (into ?_)
  refine sw_block ?_
  refine sw_seq ?_
  refine sw_region ?_
  refine ow_val ((val_eql_int rfl rfl).to (v' := .bool false) (congrArg Value.bool (decide_eq_false (by omega)))) rfl ?_   -- 18
  refine ow_val (val_assign rfl) rfl ?_   -- 17
  refine ow_nil (into ?_)
  refine sw_false rfl rfl ?_
  refine sw_seq ?_
  refine sw_region ?_
  refine ow_val ((val_eql_int rfl rfl).to (v' := .bool false) (congrArg Value.bool (decide_eq_false (by omega)))) rfl ?_   -- 23
  refine ow_val (val_assign rfl) rfl ?_   -- 22
  refine ow_nil (into ?_)
  refine sw_false rfl rfl ?_
  refine sw_seq ?_
  refine sw_region ?_
  refine ow_val ((val_eql_int rfl rfl).to (v' := .bool false) (congrArg Value.bool (decide_eq_false (by omega)))) rfl ?_   -- 28
  refine ow_val (val_assign rfl) rfl ?_   -- 27
  refine ow_nil (into ?_)
  refine sw_false rfl rfl ?_
  refine sw_seq ?_
  refine sw_region ?_
  refine ow_val ((val_eql_int rfl rfl).to (v' := .bool false) (congrArg Value.bool (decide_eq_false (by omega)))) rfl ?_   -- 33
  refine ow_val (val_assign rfl) rfl ?_   -- 32
  refine ow_nil (into ?_)
  refine sw_false rfl rfl ?_
  refine sw_seq ?_
  refine sw_region ?_
  refine ow_val ((val_eql_int rfl rfl).to (v' := .bool true) (congrArg Value.bool (decide_eq_true (by omega)))) rfl ?_   -- 43
  refine ow_val (val_assign rfl) rfl ?_   -- 42
  refine ow_nil (into ?_)
  refine sw_true rfl rfl ?_
  refine sw_region ?_
  refine ow_val (val_fieldAddr (m := 0) (e := 1) rfl Tryd.underlying50 rfl rfl Tryd.sizeOf3 rfl) rfl ?_   -- 44
  refine ow_val (val_load_at 0 rfl rfl Tryd.isAgg3 rfl) rfl ?_   -- 45
  refine ow_val (val_fieldAddr (m := 0) (e := 68) rfl Tryd.underlying50 rfl rfl Tryd.sizeOf44 rfl) rfl ?_   -- 46
  refine ow_val (val_load_at 0 rfl rfl Tryd.isAgg44 (Cop.c68 ho)) rfl ?_   -- 47
  refine ow_val (val_fieldAddr (m := 0) (e := 69) rfl Tryd.underlying50 rfl rfl Tryd.sizeOf45 rfl) rfl ?_   -- 48
  refine ow_val (val_load_at 0 rfl rfl Tryd.isAgg45 (Cop.c69 ho)) rfl ?_   -- 49
  refine ow_call_pure (callsTo Tryd.func61 rfl (by kernel_rfl) rfl) rfl (fun w hm => rcheckB_any w o.w o.bm o.kids.a o.kids.c o.kids.xs ho.ke (ho.kr.mem hm) (by omega) (by omega)) ?_   -- 50
  refine ow_val (val_assign rfl) rfl ?_   -- 4
  refine ow_nil (into ?_)
  refine sw_seq ?_
  refine sw_seq ?_
  refine sw_region ?_
  refine ow_val (val_move rfl) rfl ?_   -- 51
  refine ow_val ((val_neq_int rfl rfl).to (v' := .bool true) (congrArg Value.bool (decide_eq_true (by omega)))) rfl ?_   -- 52
  refine ow_nil (into ?_)
  refine sw_true rfl rfl ?_
  refine sw_seq ?_
  refine sw_region ?_
  refine ow_val (val_move rfl) rfl ?_   -- 53
  refine ow_val (val_assign rfl) rfl ?_   -- 2
  refine ow_val (val_assign rfl) rfl ?_   -- 3
  refine ow_nil (into ?_)
  refine sw_ret (fun w hm => ?_)
  try dsimp only [thenP, blockP, Nat.beq, cond]
  exact ret_two _ _ rfl rfl rfl ⟨_, none, by rw [hop] <;> rfl, by rw [hop]; rw [show (branchP o.w o.bm o.kids.xs, chkB o.w o.bm o.kids.xs).1 = [] from by simp [branchP, he]]; exact RowE.nil _ _, hm.forgetAll.place⟩

theorem doc_5_ok (w : World) (o : Cop) (ho : o.ok w) (hsm : o.small) (hk : o.kind = 5) (he : chkB o.w o.bm o.kids.xs = 0) (k : Nat) (hwk : o.w = (k : Int)) (h1 : 1 ≤ k) (h2 : k ≤ 32) : Calls Tryd.prog 27 #[.agg o.cells.toArray] w fun en w' => ∃ u, en = .returned u ∧ ∃ s e', u = .tuple #[s, vInt (((opIn o).2 : Nat) : Int)] ∧ RowE s 5 1 ((opIn o).1).length (((opIn o).1).map vU8) e' ∧ Mem w [] [e'] w' := by
  have hop : opIn o = (branchP o.w o.bm o.kids.xs, chkB o.w o.bm o.kids.xs) := by simp [opIn, hk]
  have hsm1 := hsm.1
  have hpl := ho.p.2.1
  have hkl := ho.kl
  have hkm := ho.km
  have hw1 : o.w.toNat = k := by omega
  refine calls_of_sw (vs := [.agg o.cells.toArray]) Tryd.func27 rfl Tryd.ntmps27 rfl (SW.begin ?_)
  refine sw_seq ?_
  refine sw_region ?_
  refine ow_new (acts_box rfl) rfl (fun b1 hb1 => ?_)   -- 1
  refine ow_val (val_assign rfl) rfl ?_   -- 2
  refine ow_val (val_assign rfl) rfl ?_   -- 3
  refine ow_nil (into ?_)
  refine sw_seq ?_
  refine sw_region ?_
  refine ow_val (val_assign rfl) rfl ?_   -- 4
  refine ow_nil (into ?_)
  refine sw_seq ?_
  refine sw_seq ?_
  refine sw_region ?_
  refine ow_val (val_fieldAddr (m := 0) (e := 0) rfl Tryd.underlying50 rfl rfl Tryd.sizeOf3 rfl) rfl ?_   -- 5
  refine ow_val (val_load_at 0 rfl rfl Tryd.isAgg3 rfl) rfl ?_   -- 6
  refine ow_nil (into ?_)
  refine sw_block ?_
  refine sw_seq ?_
  refine sw_region ?_
  refine ow_val ((val_eql_int rfl rfl).to (v' := .bool false) (congrArg Value.bool (decide_eq_false (by omega)))) rfl ?_   -- 18
  refine ow_val (val_assign rfl) rfl ?_   -- 17
  refine ow_nil (into ?_)
  refine sw_false rfl rfl ?_
  refine sw_seq ?_
  refine sw_region ?_
  refine ow_val ((val_eql_int rfl rfl).to (v' := .bool false) (congrArg Value.bool (decide_eq_false (by omega)))) rfl ?_   -- 23
  refine ow_val (val_assign rfl) rfl ?_   -- 22
  refine ow_nil (into ?_)
  refine sw_false rfl rfl ?_
  refine sw_seq ?_
  refine sw_region ?_
  refine ow_val ((val_eql_int rfl rfl).to (v' := .bool false) (congrArg Value.bool (decide_eq_false (by omega)))) rfl ?_   -- 28
  refine ow_val (val_assign rfl) rfl ?_   -- 27
  refine ow_nil (into ?_)
  refine sw_false rfl rfl ?_
  refine sw_seq ?_
  refine sw_region ?_
  refine ow_val ((val_eql_int rfl rfl).to (v' := .bool false) (congrArg Value.bool (decide_eq_false (by omega)))) rfl ?_   -- 33
  refine ow_val (val_assign rfl) rfl ?_   -- 32
  refine ow_nil (into ?_)
  refine sw_false rfl rfl ?_
  refine sw_seq ?_
  refine sw_region ?_
  refine ow_val ((val_eql_int rfl rfl).to (v' := .bool true) (congrArg Value.bool (decide_eq_true (by omega)))) rfl ?_   -- 43
  refine ow_val (val_assign rfl) rfl ?_   -- 42
  refine ow_nil (into ?_)
  refine sw_true rfl rfl ?_
  refine sw_region ?_
  refine ow_val (val_fieldAddr (m := 0) (e := 1) rfl Tryd.underlying50 rfl rfl Tryd.sizeOf3 rfl) rfl ?_   -- 44
  refine ow_val (val_load_at 0 rfl rfl Tryd.isAgg3 rfl) rfl ?_   -- 45
  refine ow_val (val_fieldAddr (m := 0) (e := 68) rfl Tryd.underlying50 rfl rfl Tryd.sizeOf44 rfl) rfl ?_   -- 46
  refine ow_val (val_load_at 0 rfl rfl Tryd.isAgg44 (Cop.c68 ho)) rfl ?_   -- 47
  refine ow_val (val_fieldAddr (m := 0) (e := 69) rfl Tryd.underlying50 rfl rfl Tryd.sizeOf45 rfl) rfl ?_   -- 48
  refine ow_val (val_load_at 0 rfl rfl Tryd.isAgg45 (Cop.c69 ho)) rfl ?_   -- 49
  refine ow_call_pure (callsTo Tryd.func61 rfl (by kernel_rfl) rfl) rfl (fun w hm => rcheckB_any w o.w o.bm o.kids.a o.kids.c o.kids.xs ho.ke (ho.kr.mem hm) (by omega) (by omega)) ?_   -- 50
  refine ow_val (val_assign rfl) rfl ?_   -- 4
  refine ow_nil (into ?_)
  refine sw_seq ?_
  refine sw_seq ?_
  refine sw_region ?_
  refine ow_val (val_move rfl) rfl ?_   -- 51
  refine ow_val ((val_neq_int rfl rfl).to (v' := .bool false) (congrArg Value.bool (decide_eq_false (fun h => h (by omega))))) rfl ?_   -- 52
  refine ow_nil (into ?_)
  refine sw_false rfl rfl ?_
  refine sw_skip (into ?_)
  refine sw_seq ?_
  refine sw_seq ?_
  refine sw_region ?_
  refine ow_val (val_fieldAddr (m := 0) (e := 0) rfl Tryd.underlying50 rfl rfl Tryd.sizeOf3 rfl) rfl ?_   -- 54
  refine ow_val (val_load_at 0 rfl rfl Tryd.isAgg3 rfl) rfl ?_   -- 55
  refine ow_nil (into ?_)
  refine sw_block ?_
  refine sw_seq ?_
  refine sw_region ?_
  refine ow_val ((val_eql_int rfl rfl).to (v' := .bool false) (congrArg Value.bool (decide_eq_false (by omega)))) rfl ?_   -- 57
  refine ow_val (val_assign rfl) rfl ?_   -- 56
  refine ow_nil (into ?_)
  refine sw_false rfl rfl ?_
  refine sw_seq ?_
  refine sw_region ?_
  refine ow_val ((val_eql_int rfl rfl).to (v' := .bool true) (congrArg Value.bool (decide_eq_true (by omega)))) rfl ?_   -- 66
  refine ow_val (val_assign rfl) rfl ?_   -- 65
  refine ow_nil (into ?_)
  refine sw_true rfl rfl ?_
  refine sw_seq ?_
  refine sw_region ?_
  refine ow_val (val_fieldAddr (m := 0) (e := 1) rfl Tryd.underlying50 rfl rfl Tryd.sizeOf3 rfl) rfl ?_   -- 67
  refine ow_val (val_load_at 0 rfl rfl Tryd.isAgg3 rfl) rfl ?_   -- 68
  refine ow_val (val_fieldAddr (m := 0) (e := 68) rfl Tryd.underlying50 rfl rfl Tryd.sizeOf44 rfl) rfl ?_   -- 69
  refine ow_val (val_load_at 0 rfl rfl Tryd.isAgg44 (Cop.c68 ho)) rfl ?_   -- 70
  refine ow_val (val_fieldAddr (m := 0) (e := 69) rfl Tryd.underlying50 rfl rfl Tryd.sizeOf45 rfl) rfl ?_   -- 71
  refine ow_val (val_load_at 0 rfl rfl Tryd.isAgg45 (Cop.c69 ho)) rfl ?_   -- 72
  refine ow_call_row (E := 5) (size := 1) (k := (branchI k o.bm o.kids.xs).length) (xs := (branchI k o.bm o.kids.xs).map vU8) (callsTo Tryd.func63 rfl (by kernel_rfl) rfl) rfl (fun w hm => (by rw [hwk]; exact rbranchI_any w k (by omega) (by omega) o.bm o.kids.a o.kids.c o.kids.xs ho.ke (ho.kr.mem hm) (by omega) (by omega))) (fun a73 c73 e73 hr73 => ?_)   -- 73
  refine ow_val (val_assign rfl) rfl ?_   -- 2
  refine ow_val (val_assign rfl) rfl ?_   -- 3
  refine ow_nil (into ?_)
  refine sw_ret (fun w hm => ?_)
  try dsimp only [thenP, blockP, Nat.beq, cond]
  exact ret_two _ _ rfl rfl rfl ⟨_, e73, by rw [hop, he] <;> rfl, by rw [hop]; exact hr73.cong rfl (by rw [show (branchP o.w o.bm o.kids.xs, chkB o.w o.bm o.kids.xs).1 = _ from by simp [branchP, he, hw1] <;> rfl]) (by rw [show (branchP o.w o.bm o.kids.xs, chkB o.w o.bm o.kids.xs).1 = _ from by simp [branchP, he, hw1] <;> rfl]), hm.only (.cons_cons _ (List.nil_sublist _))⟩

theorem doc_5 (w : World) (o : Cop) (ho : o.ok w) (hsm : o.small) (hk : o.kind = 5) : Calls Tryd.prog 27 #[.agg o.cells.toArray] w fun en w' => ∃ u, en = .returned u ∧ ∃ s e', u = .tuple #[s, vInt (((opIn o).2 : Nat) : Int)] ∧ RowE s 5 1 ((opIn o).1).length (((opIn o).1).map vU8) e' ∧ Mem w [] [e'] w' := by
  by_cases he : chkB o.w o.bm o.kids.xs = 0
  · obtain ⟨k, hwk, h1, h2⟩ := wd_nat (chkB_wd he)
    exact doc_5_ok w o ho hsm hk he k hwk h1 h2
  · exact doc_5_err w o ho hsm hk he

theorem doc_other_err (w : World) (o : Cop) (ho : o.ok w) (hsm : o.small) (hk1 : ¬ o.kind = 1) (hk2 : ¬ o.kind = 2) (hk3 : ¬ o.kind = 3) (hk4 : ¬ o.kind = 4) (hk5 : ¬ o.kind = 5) (he : ¬ chk o.w [o.log, o.map] = 0) : Calls Tryd.prog 27 #[.agg o.cells.toArray] w fun en w' => ∃ u, en = .returned u ∧ ∃ s e', u = .tuple #[s, vInt (((opIn o).2 : Nat) : Int)] ∧ RowE s 5 1 ((opIn o).1).length (((opIn o).1).map vU8) e' ∧ Mem w [] [e'] w' := by
  have hop : opIn o = (rootP o.w o.size o.log o.map, chk o.w [o.log, o.map]) := by simp [opIn, hk1, hk2, hk3, hk4, hk5]
  have hsm1 := hsm.1
  have hpl := ho.p.2.1
  have hkl := ho.kl
  have hkm := ho.km
  refine calls_of_sw (vs := [.agg o.cells.toArray]) Tryd.func27 rfl Tryd.ntmps27 rfl (SW.begin ?_)
  refine sw_seq ?_
  refine sw_region ?_
  refine ow_new (acts_box rfl) rfl (fun b1 hb1 => ?_)   -- 1
  refine ow_val (val_assign rfl) rfl ?_   -- 2
  refine ow_val (val_assign rfl) rfl ?_   -- 3
  refine ow_nil (into ?_)
  refine sw_seq ?_
  refine sw_region ?_
  refine ow_val (val_assign rfl) rfl ?_   -- 4
  refine ow_nil (into ?_)
  refine sw_seq ?_
  refine sw_seq ?_
  refine sw_region ?_
  refine ow_val (val_fieldAddr (m := 0) (e := 0) rfl Tryd.underlying50 rfl rfl Tryd.sizeOf3 rfl) rfl ?_   -- 5
  refine ow_val (val_load_at 0 rfl rfl Tryd.isAgg3 rfl) rfl ?_   -- 6
  refine ow_nil (into ?_)
  refine sw_block ?_
  refine sw_seq ?_
  refine sw_region ?_
  refine ow_val ((val_eql_int rfl rfl).to (v' := .bool false) (congrArg Value.bool (decide_eq_false (by omega)))) rfl ?_   -- 18
  refine ow_val (val_assign rfl) rfl ?_   -- 17
  refine ow_nil (into ?_)
  refine sw_false rfl rfl ?_
  refine sw_seq ?_
  refine sw_region ?_
  refine ow_val ((val_eql_int rfl rfl).to (v' := .bool false) (congrArg Value.bool (decide_eq_false (by omega)))) rfl ?_   -- 23
  refine ow_val (val_assign rfl) rfl ?_   -- 22
  refine ow_nil (into ?_)
  refine sw_false rfl rfl ?_
  refine sw_seq ?_
  refine sw_region ?_
  refine ow_val ((val_eql_int rfl rfl).to (v' := .bool false) (congrArg Value.bool (decide_eq_false (by omega)))) rfl ?_   -- 28
  refine ow_val (val_assign rfl) rfl ?_   -- 27
  refine ow_nil (into ?_)
  refine sw_false rfl rfl ?_
  refine sw_seq ?_
  refine sw_region ?_
  refine ow_val ((val_eql_int rfl rfl).to (v' := .bool false) (congrArg Value.bool (decide_eq_false (by omega)))) rfl ?_   -- 33
  refine ow_val (val_assign rfl) rfl ?_   -- 32
  refine ow_nil (into ?_)
  refine sw_false rfl rfl ?_
  refine sw_seq ?_
  refine sw_region ?_
  refine ow_val ((val_eql_int rfl rfl).to (v' := .bool false) (congrArg Value.bool (decide_eq_false (by omega)))) rfl ?_   -- 43
  refine ow_val (val_assign rfl) rfl ?_   -- 42
  refine ow_nil (into ?_)
  refine sw_false rfl rfl ?_
  refine sw_region ?_
  refine ow_val (val_fieldAddr (m := 0) (e := 1) rfl Tryd.underlying50 rfl rfl Tryd.sizeOf3 rfl) rfl ?_   -- 7
  refine ow_val (val_load_at 0 rfl rfl Tryd.isAgg3 rfl) rfl ?_   -- 8
  refine ow_val (val_fieldAddr (m := 64) (e := 70) rfl Tryd.underlying50 rfl rfl Tryd.sizeOf48 rfl) rfl ?_   -- 9
  refine ow_val (val_fieldAddr (m := 31) (e := 71) rfl Tryd.underlying48 rfl rfl Tryd.sizeOf27 rfl) rfl ?_   -- 10
  refine ow_val (val_load_part 0 rfl rfl Tryd.isAgg27 Tryd.sizeOf27 (by show (List.map vU8 o.log).length = _; rw [List.length_map]; exact ho.gl) (Cop.cells_log ho)) rfl ?_   -- 11
  refine ow_val (val_fieldAddr (m := 64) (e := 70) rfl Tryd.underlying50 rfl rfl Tryd.sizeOf48 rfl) rfl ?_   -- 12
  refine ow_val (val_fieldAddr (m := 31) (e := 103) rfl Tryd.underlying48 rfl rfl Tryd.sizeOf27 rfl) rfl ?_   -- 13
  refine ow_val (val_load_part 0 rfl rfl Tryd.isAgg27 Tryd.sizeOf27 (by show (List.map vU8 o.map).length = _; rw [List.length_map]; exact ho.ml) (Cop.cells_map ho)) rfl ?_   -- 14
  refine ow_make (acts_buildSlice (cs := [o.log.map vU8, o.map.map vU8].flatten) Tryd.underlying45 Tryd.sizeOf27 zD rfl rfl (fill_aggs [o.log.map vU8, o.map.map vU8] (by decide) rfl (by simp only [List.forall_mem_cons, List.length_map]; exact ⟨ho.gl, ho.ml, fun _ h => by cases h⟩))) rfl (fun b15 hb15 => ?_)   -- 15
  refine ow_call_pure (callsTo Tryd.func60 rfl (by kernel_rfl) rfl) rfl (fun w hm => rcheck_any o.w w (some ⟨b15, 0, none⟩) 2 [o.log, o.map] (by simp only [List.forall_mem_cons]; exact ⟨ho.gl, ho.ml, fun _ h => by cases h⟩) (Rd.blk (hm.at (i := 0) rfl)) (by simp) (by simp)) ?_   -- 16
  refine ow_val (val_assign rfl) rfl ?_   -- 4
  refine ow_nil (into ?_)
  refine sw_seq ?_
  refine sw_seq ?_
  refine sw_region ?_
  refine ow_val (val_move rfl) rfl ?_   -- 51
  refine ow_val ((val_neq_int rfl rfl).to (v' := .bool true) (congrArg Value.bool (decide_eq_true (by omega)))) rfl ?_   -- 52
  refine ow_nil (into ?_)
  refine sw_true rfl rfl ?_
  refine sw_seq ?_
  refine sw_region ?_
  refine ow_val (val_move rfl) rfl ?_   -- 53
  refine ow_val (val_assign rfl) rfl ?_   -- 2
  refine ow_val (val_assign rfl) rfl ?_   -- 3
  refine ow_nil (into ?_)
  refine sw_ret (fun w hm => ?_)
  try dsimp only [thenP, blockP, Nat.beq, cond]
  exact ret_two _ _ rfl rfl rfl ⟨_, none, by rw [hop] <;> rfl, by rw [hop]; rw [show (rootP o.w o.size o.log o.map, chk o.w [o.log, o.map]).1 = [] from by simp [rootP, he]]; exact RowE.nil _ _, hm.forgetAll.place⟩

theorem doc_other_ok (w : World) (o : Cop) (ho : o.ok w) (hsm : o.small) (hk1 : ¬ o.kind = 1) (hk2 : ¬ o.kind = 2) (hk3 : ¬ o.kind = 3) (hk4 : ¬ o.kind = 4) (hk5 : ¬ o.kind = 5) (he : chk o.w [o.log, o.map] = 0) (k : Nat) (hwk : o.w = (k : Int)) (h1 : 1 ≤ k) (h2 : k ≤ 32) : Calls Tryd.prog 27 #[.agg o.cells.toArray] w fun en w' => ∃ u, en = .returned u ∧ ∃ s e', u = .tuple #[s, vInt (((opIn o).2 : Nat) : Int)] ∧ RowE s 5 1 ((opIn o).1).length (((opIn o).1).map vU8) e' ∧ Mem w [] [e'] w' := by
  have hop : opIn o = (rootP o.w o.size o.log o.map, chk o.w [o.log, o.map]) := by simp [opIn, hk1, hk2, hk3, hk4, hk5]
  have hsm1 := hsm.1
  have hpl := ho.p.2.1
  have hkl := ho.kl
  have hkm := ho.km
  have hw1 : o.w.toNat = k := by omega
  refine calls_of_sw (vs := [.agg o.cells.toArray]) Tryd.func27 rfl Tryd.ntmps27 rfl (SW.begin ?_)
  refine sw_seq ?_
  refine sw_region ?_
  refine ow_new (acts_box rfl) rfl (fun b1 hb1 => ?_)   -- 1
  refine ow_val (val_assign rfl) rfl ?_   -- 2
  refine ow_val (val_assign rfl) rfl ?_   -- 3
  refine ow_nil (into ?_)
  refine sw_seq ?_
  refine sw_region ?_
  refine ow_val (val_assign rfl) rfl ?_   -- 4
  refine ow_nil (into ?_)
  refine sw_seq ?_
  refine sw_seq ?_
  refine sw_region ?_
  refine ow_val (val_fieldAddr (m := 0) (e := 0) rfl Tryd.underlying50 rfl rfl Tryd.sizeOf3 rfl) rfl ?_   -- 5
  refine ow_val (val_load_at 0 rfl rfl Tryd.isAgg3 rfl) rfl ?_   -- 6
  refine ow_nil (into ?_)
  refine sw_block ?_
  refine sw_seq ?_
  refine sw_region ?_
  refine ow_val ((val_eql_int rfl rfl).to (v' := .bool false) (congrArg Value.bool (decide_eq_false (by omega)))) rfl ?_   -- 18
  refine ow_val (val_assign rfl) rfl ?_   -- 17
  refine ow_nil (into ?_)
  refine sw_false rfl rfl ?_
  refine sw_seq ?_
  refine sw_region ?_
  refine ow_val ((val_eql_int rfl rfl).to (v' := .bool false) (congrArg Value.bool (decide_eq_false (by omega)))) rfl ?_   -- 23
  refine ow_val (val_assign rfl) rfl ?_   -- 22
  refine ow_nil (into ?_)
  refine sw_false rfl rfl ?_
  refine sw_seq ?_
  refine sw_region ?_
  refine ow_val ((val_eql_int rfl rfl).to (v' := .bool false) (congrArg Value.bool (decide_eq_false (by omega)))) rfl ?_   -- 28
  refine ow_val (val_assign rfl) rfl ?_   -- 27
  refine ow_nil (into ?_)
  refine sw_false rfl rfl ?_
  refine sw_seq ?_
  refine sw_region ?_
  refine ow_val ((val_eql_int rfl rfl).to (v' := .bool false) (congrArg Value.bool (decide_eq_false (by omega)))) rfl ?_   -- 33
  refine ow_val (val_assign rfl) rfl ?_   -- 32
  refine ow_nil (into ?_)
  refine sw_false rfl rfl ?_
  refine sw_seq ?_
  refine sw_region ?_
  refine ow_val ((val_eql_int rfl rfl).to (v' := .bool false) (congrArg Value.bool (decide_eq_false (by omega)))) rfl ?_   -- 43
  refine ow_val (val_assign rfl) rfl ?_   -- 42
  refine ow_nil (into ?_)
  refine sw_false rfl rfl ?_
  refine sw_region ?_
  refine ow_val (val_fieldAddr (m := 0) (e := 1) rfl Tryd.underlying50 rfl rfl Tryd.sizeOf3 rfl) rfl ?_   -- 7
  refine ow_val (val_load_at 0 rfl rfl Tryd.isAgg3 rfl) rfl ?_   -- 8
  refine ow_val (val_fieldAddr (m := 64) (e := 70) rfl Tryd.underlying50 rfl rfl Tryd.sizeOf48 rfl) rfl ?_   -- 9
  refine ow_val (val_fieldAddr (m := 31) (e := 71) rfl Tryd.underlying48 rfl rfl Tryd.sizeOf27 rfl) rfl ?_   -- 10
  refine ow_val (val_load_part 0 rfl rfl Tryd.isAgg27 Tryd.sizeOf27 (by show (List.map vU8 o.log).length = _; rw [List.length_map]; exact ho.gl) (Cop.cells_log ho)) rfl ?_   -- 11
  refine ow_val (val_fieldAddr (m := 64) (e := 70) rfl Tryd.underlying50 rfl rfl Tryd.sizeOf48 rfl) rfl ?_   -- 12
  refine ow_val (val_fieldAddr (m := 31) (e := 103) rfl Tryd.underlying48 rfl rfl Tryd.sizeOf27 rfl) rfl ?_   -- 13
  refine ow_val (val_load_part 0 rfl rfl Tryd.isAgg27 Tryd.sizeOf27 (by show (List.map vU8 o.map).length = _; rw [List.length_map]; exact ho.ml) (Cop.cells_map ho)) rfl ?_   -- 14
  refine ow_make (acts_buildSlice (cs := [o.log.map vU8, o.map.map vU8].flatten) Tryd.underlying45 Tryd.sizeOf27 zD rfl rfl (fill_aggs [o.log.map vU8, o.map.map vU8] (by decide) rfl (by simp only [List.forall_mem_cons, List.length_map]; exact ⟨ho.gl, ho.ml, fun _ h => by cases h⟩))) rfl (fun b15 hb15 => ?_)   -- 15
  refine ow_call_pure (callsTo Tryd.func60 rfl (by kernel_rfl) rfl) rfl (fun w hm => rcheck_any o.w w (some ⟨b15, 0, none⟩) 2 [o.log, o.map] (by simp only [List.forall_mem_cons]; exact ⟨ho.gl, ho.ml, fun _ h => by cases h⟩) (Rd.blk (hm.at (i := 0) rfl)) (by simp) (by simp)) ?_   -- 16
  refine ow_val (val_assign rfl) rfl ?_   -- 4
  refine ow_nil (into ?_)
  refine sw_seq ?_
  refine sw_seq ?_
  refine sw_region ?_
  refine ow_val (val_move rfl) rfl ?_   -- 51
  refine ow_val ((val_neq_int rfl rfl).to (v' := .bool false) (congrArg Value.bool (decide_eq_false (fun h => h (by omega))))) rfl ?_   -- 52
  refine ow_nil (into ?_)
  refine sw_false rfl rfl ?_
  refine sw_skip (into ?_)
  refine sw_seq ?_
  refine sw_seq ?_
  refine sw_region ?_
  refine ow_val (val_fieldAddr (m := 0) (e := 0) rfl Tryd.underlying50 rfl rfl Tryd.sizeOf3 rfl) rfl ?_   -- 54
  refine ow_val (val_load_at 1 rfl rfl Tryd.isAgg3 rfl) rfl ?_   -- 55
  refine ow_nil (into ?_)
  refine sw_block ?_
  refine sw_seq ?_
  refine sw_region ?_
  refine ow_val ((val_eql_int rfl rfl).to (v' := .bool false) (congrArg Value.bool (decide_eq_false (by omega)))) rfl ?_   -- 57
  refine ow_val (val_assign rfl) rfl ?_   -- 56
  refine ow_nil (into ?_)
  refine sw_false rfl rfl ?_
  refine sw_seq ?_
  refine sw_region ?_
  refine ow_val ((val_eql_int rfl rfl).to (v' := .bool false) (congrArg Value.bool (decide_eq_false (by omega)))) rfl ?_   -- 66
  refine ow_val (val_assign rfl) rfl ?_   -- 65
  refine ow_nil (into ?_)
  refine sw_false rfl rfl ?_
  refine sw_skip (into ?_)
  refine sw_seq ?_
  refine sw_region ?_
  refine ow_val (val_fieldAddr (m := 0) (e := 1) rfl Tryd.underlying50 rfl rfl Tryd.sizeOf3 rfl) rfl ?_   -- 74
  refine ow_val (val_load_at 1 rfl rfl Tryd.isAgg3 rfl) rfl ?_   -- 75
  refine ow_val (val_fieldAddr (m := 64) (e := 70) rfl Tryd.underlying50 rfl rfl Tryd.sizeOf48 rfl) rfl ?_   -- 76
  refine ow_val (val_load_part 1 rfl rfl Tryd.isAgg48 Tryd.sizeOf48 (rootC_len ho.gl ho.ml) (Cop.cells_root ho)) rfl ?_   -- 77
  refine ow_call_row (E := 5) (size := 1) (k := (rootI k o.size o.log o.map).length) (xs := (rootI k o.size o.log o.map).map vU8) (callsTo Tryd.func64 rfl (by kernel_rfl) rfl) rfl (fun w hm => (by rw [hwk]; exact rrootI_any w k (by omega) (by omega) o.size o.log o.map ho.gl ho.ml)) (fun a78 c78 e78 hr78 => ?_)   -- 78
  refine ow_val (val_assign rfl) rfl ?_   -- 2
  refine ow_val (val_assign rfl) rfl ?_   -- 3
  refine ow_nil (into ?_)
  exact sw_ret (fun w hm => ret_two _ _ rfl rfl rfl ⟨_, e78, by rw [hop, he] <;> rfl, by rw [hop]; exact hr78.cong rfl (by rw [show (rootP o.w o.size o.log o.map, chk o.w [o.log, o.map]).1 = _ from by simp [rootP, he, hw1] <;> rfl]) (by rw [show (rootP o.w o.size o.log o.map, chk o.w [o.log, o.map]).1 = _ from by simp [rootP, he, hw1] <;> rfl]), hm.only (.cons_cons _ (List.nil_sublist _))⟩)

theorem doc_other (w : World) (o : Cop) (ho : o.ok w) (hsm : o.small) (hk1 : ¬ o.kind = 1) (hk2 : ¬ o.kind = 2) (hk3 : ¬ o.kind = 3) (hk4 : ¬ o.kind = 4) (hk5 : ¬ o.kind = 5) : Calls Tryd.prog 27 #[.agg o.cells.toArray] w fun en w' => ∃ u, en = .returned u ∧ ∃ s e', u = .tuple #[s, vInt (((opIn o).2 : Nat) : Int)] ∧ RowE s 5 1 ((opIn o).1).length (((opIn o).1).map vU8) e' ∧ Mem w [] [e'] w' := by
  by_cases he : chk o.w [o.log, o.map] = 0
  · obtain ⟨k, hwk, h1, h2⟩ := wd_nat (chk_wd he)
    exact doc_other_ok w o ho hsm hk1 hk2 hk3 hk4 hk5 he k hwk h1 h2
  · exact doc_other_err w o ho hsm hk1 hk2 hk3 hk4 hk5 he

theorem doc_any (w : World) (o : Cop) (ho : o.ok w) (hsm : o.small) : Calls Tryd.prog 27 #[.agg o.cells.toArray] w fun en w' => ∃ u, en = .returned u ∧ ∃ s e', u = .tuple #[s, vInt (((opIn o).2 : Nat) : Int)] ∧ RowE s 5 1 ((opIn o).1).length (((opIn o).1).map vU8) e' ∧ Mem w [] [e'] w' := by
  by_cases hk1 : o.kind = 1
  · exact doc_1 w o ho hsm hk1
  by_cases hk2 : o.kind = 2
  · exact doc_2 w o ho hsm hk2
  by_cases hk3 : o.kind = 3
  · exact doc_3 w o ho hsm hk3
  by_cases hk4 : o.kind = 4
  · exact doc_4 w o ho hsm hk4
  by_cases hk5 : o.kind = 5
  · exact doc_5 w o ho hsm hk5
  exact doc_other w o ho hsm hk1 hk2 hk3 hk4 hk5

theorem lsum_1 (w : World) (hK : KW w) (o : Cop) (ho : o.ok w) (hsm : o.small) (hk : o.kind = 1) : Calls Tryd.prog 31 #[.agg o.cells.toArray] w fun en w' => ∃ v, en = .returned v ∧ v = .tuple #[.agg (((digO o.w (opIn o).1 (opIn o).2).1).map vU8).toArray, vInt ((digO o.w (opIn o).1 (opIn o).2).2 : Int)] ∧ Mem w [] [] w' := by
  have hop : opIn o = (leafI o.P.xs, 0) := by simp [opIn, hk]
  have hsm1 := hsm.1
  have hpl := ho.p.2.1
  have hkl := ho.kl
  have hkm := ho.km
  refine calls_of_sw (vs := [.agg o.cells.toArray]) Tryd.func31 rfl Tryd.ntmps31 rfl (SW.begin ?_)
  refine sw_seq ?_
  refine sw_region ?_
  refine ow_new (acts_box rfl) rfl (fun b1 hb1 => ?_)   -- 1
  refine ow_new (acts_alloc zD) rfl (fun b2 hb2 => ?_)   -- 2
  refine ow_val (val_assign rfl) rfl ?_   -- 3
  refine ow_nil (into ?_)
  refine sw_seq ?_
  refine sw_seq ?_
  refine sw_region ?_
  refine ow_val (val_fieldAddr (m := 0) (e := 0) rfl Tryd.underlying50 rfl rfl Tryd.sizeOf3 rfl) rfl ?_   -- 4
  refine ow_val (val_load_at 1 rfl rfl Tryd.isAgg3 rfl) rfl ?_   -- 5
  refine ow_nil (into ?_)
  refine sw_block ?_
  refine sw_seq ?_
  refine sw_region ?_
  refine ow_val ((val_eql_int rfl rfl).to (v' := .bool true) (congrArg Value.bool (decide_eq_true (by omega)))) rfl ?_   -- 7
  refine ow_val (val_assign rfl) rfl ?_   -- 6
  refine ow_nil (into ?_)
  refine sw_true rfl rfl ?_
  refine sw_seq ?_
  refine sw_region ?_
  refine ow_val (val_fieldAddr (m := 0) (e := 1) rfl Tryd.underlying50 rfl rfl Tryd.sizeOf3 rfl) rfl ?_   -- 8
  refine ow_val (val_load_at 1 rfl rfl Tryd.isAgg3 rfl) rfl ?_   -- 9
  refine ow_val (val_fieldAddr (m := 0) (e := 2) rfl Tryd.underlying50 rfl rfl Tryd.sizeOf25 rfl) rfl ?_   -- 10
  refine ow_val (val_load_at 1 rfl rfl Tryd.isAgg25 rfl) rfl ?_   -- 11
  refine ow_call_pure (callsTo Tryd.func30 rfl (by kernel_rfl) rfl) rfl (fun w hm => leaf_any o.w  w (hK.mem0 hm) o.P.a o.P.xs.length _ o.P.xs rfl (ho.p.1.mem hm) (by omega) (by omega)) ?_   -- 12
  refine ow_val (val_extract rfl rfl) rfl ?_   -- 13
  refine ow_val (val_extract rfl rfl) rfl ?_   -- 14
  refine ow_do_eq (does_store_all 0 rfl rfl rfl (one_u8s _) Tryd.sizeOf27 (by show (List.map vU8 ((digO o.w (leafI o.P.xs) 0).1)).length = _; rw [List.length_map]; exact (digO_len _ _ _)) (by show (List.map vU8 zeros32).length = _; rw [List.length_map]; exact zeros32_len)) ?_
  refine ow_val (val_assign rfl) rfl ?_   -- 3
  refine ow_nil (into ?_)
  refine sw_ret (fun w hm => ?_)
  try dsimp only [thenP, blockP, Nat.beq, cond]
  exact ret_cell_two 0 rfl rfl rfl hm rfl Tryd.isAgg27 Tryd.sizeOf27 (by rw [List.length_map]; exact digO_len _ _ _) ⟨by rw [hop] <;> rfl, hm.forgetAll⟩

theorem lsum_2 (w : World) (hK : KW w) (o : Cop) (ho : o.ok w) (hsm : o.small) (hk : o.kind = 2) : Calls Tryd.prog 31 #[.agg o.cells.toArray] w fun en w' => ∃ v, en = .returned v ∧ v = .tuple #[.agg (((digO o.w (opIn o).1 (opIn o).2).1).map vU8).toArray, vInt ((digO o.w (opIn o).1 (opIn o).2).2 : Int)] ∧ Mem w [] [] w' := by
  have hop : opIn o = (nodeP o.w o.L o.R, chk o.w [o.L, o.R]) := by simp [opIn, hk]
  have hsm1 := hsm.1
  have hpl := ho.p.2.1
  have hkl := ho.kl
  have hkm := ho.km
  refine calls_of_sw (vs := [.agg o.cells.toArray]) Tryd.func31 rfl Tryd.ntmps31 rfl (SW.begin ?_)
  refine sw_seq ?_
  refine sw_region ?_
  refine ow_new (acts_box rfl) rfl (fun b1 hb1 => ?_)   -- 1
  refine ow_new (acts_alloc zD) rfl (fun b2 hb2 => ?_)   -- 2
  refine ow_val (val_assign rfl) rfl ?_   -- 3
  refine ow_nil (into ?_)
  refine sw_seq ?_
  refine sw_seq ?_
  refine sw_region ?_
  refine ow_val (val_fieldAddr (m := 0) (e := 0) rfl Tryd.underlying50 rfl rfl Tryd.sizeOf3 rfl) rfl ?_   -- 4
  refine ow_val (val_load_at 1 rfl rfl Tryd.isAgg3 rfl) rfl ?_   -- 5
  refine ow_nil (into ?_)
  refine sw_block ?_
  refine sw_seq ?_
  refine sw_region ?_
  refine ow_val ((val_eql_int rfl rfl).to (v' := .bool false) (congrArg Value.bool (decide_eq_false (by omega)))) rfl ?_   -- 7
  refine ow_val (val_assign rfl) rfl ?_   -- 6
  refine ow_nil (into ?_)
  refine sw_false rfl rfl ?_
  refine sw_seq ?_
  refine sw_region ?_
  refine ow_val ((val_eql_int rfl rfl).to (v' := .bool true) (congrArg Value.bool (decide_eq_true (by omega)))) rfl ?_   -- 16
  refine ow_val (val_assign rfl) rfl ?_   -- 15
  refine ow_nil (into ?_)
  refine sw_true rfl rfl ?_
  refine sw_seq ?_
  refine sw_region ?_
  refine ow_val (val_fieldAddr (m := 0) (e := 1) rfl Tryd.underlying50 rfl rfl Tryd.sizeOf3 rfl) rfl ?_   -- 17
  refine ow_val (val_load_at 1 rfl rfl Tryd.isAgg3 rfl) rfl ?_   -- 18
  refine ow_val (val_fieldAddr (m := 31) (e := 3) rfl Tryd.underlying50 rfl rfl Tryd.sizeOf27 rfl) rfl ?_   -- 19
  refine ow_val (val_load_part 1 rfl rfl Tryd.isAgg27 Tryd.sizeOf27 (by show (List.map vU8 o.L).length = _; rw [List.length_map]; exact ho.ll) (Cop.cells_L ho)) rfl ?_   -- 20
  refine ow_val (val_fieldAddr (m := 31) (e := 35) rfl Tryd.underlying50 rfl rfl Tryd.sizeOf27 rfl) rfl ?_   -- 21
  refine ow_val (val_load_part 1 rfl rfl Tryd.isAgg27 Tryd.sizeOf27 (by show (List.map vU8 o.R).length = _; rw [List.length_map]; exact ho.rl) (Cop.cells_R ho)) rfl ?_   -- 22
  refine ow_call_pure (callsTo Tryd.func67 rfl (by kernel_rfl) rfl) rfl (fun w hm => node_any w (hK.mem0 hm)  o.w o.L o.R ho.ll ho.rl) ?_   -- 23
  refine ow_val (val_extract rfl rfl) rfl ?_   -- 24
  refine ow_val (val_extract rfl rfl) rfl ?_   -- 25
  refine ow_do_eq (does_store_all 0 rfl rfl rfl (one_u8s _) Tryd.sizeOf27 (by show (List.map vU8 ((digO o.w (nodeP o.w o.L o.R) (chk o.w [o.L, o.R])).1)).length = _; rw [List.length_map]; exact (digO_len _ _ _)) (by show (List.map vU8 zeros32).length = _; rw [List.length_map]; exact zeros32_len)) ?_
  refine ow_val (val_assign rfl) rfl ?_   -- 3
  refine ow_nil (into ?_)
  refine sw_ret (fun w hm => ?_)
  try dsimp only [thenP, blockP, Nat.beq, cond]
  exact ret_cell_two 0 rfl rfl rfl hm rfl Tryd.isAgg27 Tryd.sizeOf27 (by rw [List.length_map]; exact digO_len _ _ _) ⟨by rw [hop] <;> rfl, hm.forgetAll⟩

theorem lsum_3 (w : World) (hK : KW w) (o : Cop) (ho : o.ok w) (hsm : o.small) (hk : o.kind = 3) : Calls Tryd.prog 31 #[.agg o.cells.toArray] w fun en w' => ∃ v, en = .returned v ∧ v = .tuple #[.agg (((digO o.w (opIn o).1 (opIn o).2).1).map vU8).toArray, vInt ((digO o.w (opIn o).1 (opIn o).2).2 : Int)] ∧ Mem w [] [] w' := by
  have hop : opIn o = (keyI o.P.xs, 0) := by simp [opIn, hk]
  have hsm1 := hsm.1
  have hpl := ho.p.2.1
  have hkl := ho.kl
  have hkm := ho.km
  refine calls_of_sw (vs := [.agg o.cells.toArray]) Tryd.func31 rfl Tryd.ntmps31 rfl (SW.begin ?_)
  refine sw_seq ?_
  refine sw_region ?_
  refine ow_new (acts_box rfl) rfl (fun b1 hb1 => ?_)   -- 1
  refine ow_new (acts_alloc zD) rfl (fun b2 hb2 => ?_)   -- 2
  refine ow_val (val_assign rfl) rfl ?_   -- 3
  refine ow_nil (into ?_)
  refine sw_seq ?_
  refine sw_seq ?_
  refine sw_region ?_
  refine ow_val (val_fieldAddr (m := 0) (e := 0) rfl Tryd.underlying50 rfl rfl Tryd.sizeOf3 rfl) rfl ?_   -- 4
  refine ow_val (val_load_at 1 rfl rfl Tryd.isAgg3 rfl) rfl ?_   -- 5
  refine ow_nil (into ?_)
  refine sw_block ?_
  refine sw_seq ?_
  refine sw_region ?_
  refine ow_val ((val_eql_int rfl rfl).to (v' := .bool false) (congrArg Value.bool (decide_eq_false (by omega)))) rfl ?_   -- 7
  refine ow_val (val_assign rfl) rfl ?_   -- 6
  refine ow_nil (into ?_)
  refine sw_false rfl rfl ?_
  refine sw_seq ?_
  refine sw_region ?_
  refine ow_val ((val_eql_int rfl rfl).to (v' := .bool false) (congrArg Value.bool (decide_eq_false (by omega)))) rfl ?_   -- 16
  refine ow_val (val_assign rfl) rfl ?_   -- 15
  refine ow_nil (into ?_)
  refine sw_false rfl rfl ?_
  refine sw_seq ?_
  refine sw_region ?_
  refine ow_val ((val_eql_int rfl rfl).to (v' := .bool true) (congrArg Value.bool (decide_eq_true (by omega)))) rfl ?_   -- 27
  refine ow_val (val_assign rfl) rfl ?_   -- 26
  refine ow_nil (into ?_)
  refine sw_true rfl rfl ?_
  refine sw_seq ?_
  refine sw_region ?_
  refine ow_val (val_fieldAddr (m := 0) (e := 1) rfl Tryd.underlying50 rfl rfl Tryd.sizeOf3 rfl) rfl ?_   -- 28
  refine ow_val (val_load_at 1 rfl rfl Tryd.isAgg3 rfl) rfl ?_   -- 29
  refine ow_val (val_fieldAddr (m := 0) (e := 2) rfl Tryd.underlying50 rfl rfl Tryd.sizeOf25 rfl) rfl ?_   -- 30
  refine ow_val (val_load_at 1 rfl rfl Tryd.isAgg25 rfl) rfl ?_   -- 31
  refine ow_call_pure (callsTo Tryd.func68 rfl (by kernel_rfl) rfl) rfl (fun w hm => key_any o.w  w (hK.mem0 hm) o.P.a o.P.xs.length _ o.P.xs rfl (ho.p.1.mem hm) (by omega) (by omega)) ?_   -- 32
  refine ow_val (val_extract rfl rfl) rfl ?_   -- 33
  refine ow_val (val_extract rfl rfl) rfl ?_   -- 34
  refine ow_do_eq (does_store_all 0 rfl rfl rfl (one_u8s _) Tryd.sizeOf27 (by show (List.map vU8 ((digO o.w (keyI o.P.xs) 0).1)).length = _; rw [List.length_map]; exact (digO_len _ _ _)) (by show (List.map vU8 zeros32).length = _; rw [List.length_map]; exact zeros32_len)) ?_
  refine ow_val (val_assign rfl) rfl ?_   -- 3
  refine ow_nil (into ?_)
  refine sw_ret (fun w hm => ?_)
  try dsimp only [thenP, blockP, Nat.beq, cond]
  exact ret_cell_two 0 rfl rfl rfl hm rfl Tryd.isAgg27 Tryd.sizeOf27 (by rw [List.length_map]; exact digO_len _ _ _) ⟨by rw [hop] <;> rfl, hm.forgetAll⟩

theorem lsum_4 (w : World) (hK : KW w) (o : Cop) (ho : o.ok w) (hsm : o.small) (hk : o.kind = 4) : Calls Tryd.prog 31 #[.agg o.cells.toArray] w fun en w' => ∃ v, en = .returned v ∧ v = .tuple #[.agg (((digO o.w (opIn o).1 (opIn o).2).1).map vU8).toArray, vInt ((digO o.w (opIn o).1 (opIn o).2).2 : Int)] ∧ Mem w [] [] w' := by
  have hop : opIn o = (bucketI (prs o.pairs.xs), 0) := by simp [opIn, hk]
  have hsm1 := hsm.1
  have hpl := ho.p.2.1
  have hkl := ho.kl
  have hkm := ho.km
  refine calls_of_sw (vs := [.agg o.cells.toArray]) Tryd.func31 rfl Tryd.ntmps31 rfl (SW.begin ?_)
  refine sw_seq ?_
  refine sw_region ?_
  refine ow_new (acts_box rfl) rfl (fun b1 hb1 => ?_)   -- 1
  refine ow_new (acts_alloc zD) rfl (fun b2 hb2 => ?_)   -- 2
  refine ow_val (val_assign rfl) rfl ?_   -- 3
  refine ow_nil (into ?_)
  refine sw_seq ?_
  refine sw_seq ?_
  refine sw_region ?_
  refine ow_val (val_fieldAddr (m := 0) (e := 0) rfl Tryd.underlying50 rfl rfl Tryd.sizeOf3 rfl) rfl ?_   -- 4
  refine ow_val (val_load_at 1 rfl rfl Tryd.isAgg3 rfl) rfl ?_   -- 5
  refine ow_nil (into ?_)
  refine sw_block ?_
  refine sw_seq ?_
  refine sw_region ?_
  refine ow_val ((val_eql_int rfl rfl).to (v' := .bool false) (congrArg Value.bool (decide_eq_false (by omega)))) rfl ?_   -- 7
  refine ow_val (val_assign rfl) rfl ?_   -- 6
  refine ow_nil (into ?_)
  refine sw_false rfl rfl ?_
  refine sw_seq ?_
  refine sw_region ?_
  refine ow_val ((val_eql_int rfl rfl).to (v' := .bool false) (congrArg Value.bool (decide_eq_false (by omega)))) rfl ?_   -- 16
  refine ow_val (val_assign rfl) rfl ?_   -- 15
  refine ow_nil (into ?_)
  refine sw_false rfl rfl ?_
  refine sw_seq ?_
  refine sw_region ?_
  refine ow_val ((val_eql_int rfl rfl).to (v' := .bool false) (congrArg Value.bool (decide_eq_false (by omega)))) rfl ?_   -- 27
  refine ow_val (val_assign rfl) rfl ?_   -- 26
  refine ow_nil (into ?_)
  refine sw_false rfl rfl ?_
  refine sw_seq ?_
  refine sw_region ?_
  refine ow_val ((val_eql_int rfl rfl).to (v' := .bool true) (congrArg Value.bool (decide_eq_true (by omega)))) rfl ?_   -- 36
  refine ow_val (val_assign rfl) rfl ?_   -- 35
  refine ow_nil (into ?_)
  refine sw_true rfl rfl ?_
  refine sw_seq ?_
  refine sw_region ?_
  refine ow_val (val_fieldAddr (m := 0) (e := 1) rfl Tryd.underlying50 rfl rfl Tryd.sizeOf3 rfl) rfl ?_   -- 37
  refine ow_val (val_load_at 1 rfl rfl Tryd.isAgg3 rfl) rfl ?_   -- 38
  refine ow_val (val_fieldAddr (m := 0) (e := 67) rfl Tryd.underlying50 rfl rfl Tryd.sizeOf43 rfl) rfl ?_   -- 39
  refine ow_val (val_load_at 1 rfl rfl Tryd.isAgg43 (Cop.c67 ho)) rfl ?_   -- 40
  refine ow_call_pure (callsTo Tryd.func69 rfl (by kernel_rfl) rfl) rfl (fun w hm => bucket_any w (hK.mem0 hm) o.w o.pairs.a o.pairs.c o.pairs.xs (ho.pr.mem hm) (fun s hs => ⟨(ho.pe s hs).1.mem hm, (ho.pe s hs).2.mem hm⟩) ho.pl ho.pm hsm.2.1) ?_   -- 41
  refine ow_val (val_extract rfl rfl) rfl ?_   -- 42
  refine ow_val (val_extract rfl rfl) rfl ?_   -- 43
  refine ow_do_eq (does_store_all 0 rfl rfl rfl (one_u8s _) Tryd.sizeOf27 (by show (List.map vU8 ((digO o.w (bucketI (prs o.pairs.xs)) 0).1)).length = _; rw [List.length_map]; exact (digO_len _ _ _)) (by show (List.map vU8 zeros32).length = _; rw [List.length_map]; exact zeros32_len)) ?_
  refine ow_val (val_assign rfl) rfl ?_   -- 3
  refine ow_nil (into ?_)
  refine sw_ret (fun w hm => ?_)
  try dsimp only [thenP, blockP, Nat.beq, cond]
  exact ret_cell_two 0 rfl rfl rfl hm rfl Tryd.isAgg27 Tryd.sizeOf27 (by rw [List.length_map]; exact digO_len _ _ _) ⟨by rw [hop] <;> rfl, hm.forgetAll⟩

theorem lsum_5 (w : World) (hK : KW w) (o : Cop) (ho : o.ok w) (hsm : o.small) (hk : o.kind = 5) : Calls Tryd.prog 31 #[.agg o.cells.toArray] w fun en w' => ∃ v, en = .returned v ∧ v = .tuple #[.agg (((digO o.w (opIn o).1 (opIn o).2).1).map vU8).toArray, vInt ((digO o.w (opIn o).1 (opIn o).2).2 : Int)] ∧ Mem w [] [] w' := by
  have hop : opIn o = (branchP o.w o.bm o.kids.xs, chkB o.w o.bm o.kids.xs) := by simp [opIn, hk]
  have hsm1 := hsm.1
  have hpl := ho.p.2.1
  have hkl := ho.kl
  have hkm := ho.km
  refine calls_of_sw (vs := [.agg o.cells.toArray]) Tryd.func31 rfl Tryd.ntmps31 rfl (SW.begin ?_)
  refine sw_seq ?_
  refine sw_region ?_
  refine ow_new (acts_box rfl) rfl (fun b1 hb1 => ?_)   -- 1
  refine ow_new (acts_alloc zD) rfl (fun b2 hb2 => ?_)   -- 2
  refine ow_val (val_assign rfl) rfl ?_   -- 3
  refine ow_nil (into ?_)
  refine sw_seq ?_
  refine sw_seq ?_
  refine sw_region ?_
  refine ow_val (val_fieldAddr (m := 0) (e := 0) rfl Tryd.underlying50 rfl rfl Tryd.sizeOf3 rfl) rfl ?_   -- 4
  refine ow_val (val_load_at 1 rfl rfl Tryd.isAgg3 rfl) rfl ?_   -- 5
  refine ow_nil (into ?_)
  refine sw_block ?_
  refine sw_seq ?_
  refine sw_region ?_
  refine ow_val ((val_eql_int rfl rfl).to (v' := .bool false) (congrArg Value.bool (decide_eq_false (by omega)))) rfl ?_   -- 7
  refine ow_val (val_assign rfl) rfl ?_   -- 6
  refine ow_nil (into ?_)
  refine sw_false rfl rfl ?_
  refine sw_seq ?_
  refine sw_region ?_
  refine ow_val ((val_eql_int rfl rfl).to (v' := .bool false) (congrArg Value.bool (decide_eq_false (by omega)))) rfl ?_   -- 16
  refine ow_val (val_assign rfl) rfl ?_   -- 15
  refine ow_nil (into ?_)
  refine sw_false rfl rfl ?_
  refine sw_seq ?_
  refine sw_region ?_
  refine ow_val ((val_eql_int rfl rfl).to (v' := .bool false) (congrArg Value.bool (decide_eq_false (by omega)))) rfl ?_   -- 27
  refine ow_val (val_assign rfl) rfl ?_   -- 26
  refine ow_nil (into ?_)
  refine sw_false rfl rfl ?_
  refine sw_seq ?_
  refine sw_region ?_
  refine ow_val ((val_eql_int rfl rfl).to (v' := .bool false) (congrArg Value.bool (decide_eq_false (by omega)))) rfl ?_   -- 36
  refine ow_val (val_assign rfl) rfl ?_   -- 35
  refine ow_nil (into ?_)
  refine sw_false rfl rfl ?_
  refine sw_seq ?_
  refine sw_region ?_
  refine ow_val ((val_eql_int rfl rfl).to (v' := .bool true) (congrArg Value.bool (decide_eq_true (by omega)))) rfl ?_   -- 45
  refine ow_val (val_assign rfl) rfl ?_   -- 44
  refine ow_nil (into ?_)
  refine sw_true rfl rfl ?_
  refine sw_seq ?_
  refine sw_region ?_
  refine ow_val (val_fieldAddr (m := 0) (e := 1) rfl Tryd.underlying50 rfl rfl Tryd.sizeOf3 rfl) rfl ?_   -- 46
  refine ow_val (val_load_at 1 rfl rfl Tryd.isAgg3 rfl) rfl ?_   -- 47
  refine ow_val (val_fieldAddr (m := 0) (e := 68) rfl Tryd.underlying50 rfl rfl Tryd.sizeOf44 rfl) rfl ?_   -- 48
  refine ow_val (val_load_at 1 rfl rfl Tryd.isAgg44 (Cop.c68 ho)) rfl ?_   -- 49
  refine ow_val (val_fieldAddr (m := 0) (e := 69) rfl Tryd.underlying50 rfl rfl Tryd.sizeOf45 rfl) rfl ?_   -- 50
  refine ow_val (val_load_at 1 rfl rfl Tryd.isAgg45 (Cop.c69 ho)) rfl ?_   -- 51
  refine ow_call_pure (callsTo Tryd.func70 rfl (by kernel_rfl) rfl) rfl (fun w hm => branch_any w (hK.mem0 hm) o.w o.bm o.kids.a o.kids.c o.kids.xs ho.ke (ho.kr.mem hm) (by omega) (by omega)) ?_   -- 52
  refine ow_val (val_extract rfl rfl) rfl ?_   -- 53
  refine ow_val (val_extract rfl rfl) rfl ?_   -- 54
  refine ow_do_eq (does_store_all 0 rfl rfl rfl (one_u8s _) Tryd.sizeOf27 (by show (List.map vU8 ((digO o.w (branchP o.w o.bm o.kids.xs) (chkB o.w o.bm o.kids.xs)).1)).length = _; rw [List.length_map]; exact (digO_len _ _ _)) (by show (List.map vU8 zeros32).length = _; rw [List.length_map]; exact zeros32_len)) ?_
  refine ow_val (val_assign rfl) rfl ?_   -- 3
  refine ow_nil (into ?_)
  refine sw_ret (fun w hm => ?_)
  try dsimp only [thenP, blockP, Nat.beq, cond]
  exact ret_cell_two 0 rfl rfl rfl hm rfl Tryd.isAgg27 Tryd.sizeOf27 (by rw [List.length_map]; exact digO_len _ _ _) ⟨by rw [hop] <;> rfl, hm.forgetAll⟩

theorem lsum_other (w : World) (hK : KW w) (o : Cop) (ho : o.ok w) (hsm : o.small) (hk1 : ¬ o.kind = 1) (hk2 : ¬ o.kind = 2) (hk3 : ¬ o.kind = 3) (hk4 : ¬ o.kind = 4) (hk5 : ¬ o.kind = 5) : Calls Tryd.prog 31 #[.agg o.cells.toArray] w fun en w' => ∃ v, en = .returned v ∧ v = .tuple #[.agg (((digO o.w (opIn o).1 (opIn o).2).1).map vU8).toArray, vInt ((digO o.w (opIn o).1 (opIn o).2).2 : Int)] ∧ Mem w [] [] w' := by
  have hop : opIn o = (rootP o.w o.size o.log o.map, chk o.w [o.log, o.map]) := by simp [opIn, hk1, hk2, hk3, hk4, hk5]
  have hsm1 := hsm.1
  have hpl := ho.p.2.1
  have hkl := ho.kl
  have hkm := ho.km
  refine calls_of_sw (vs := [.agg o.cells.toArray]) Tryd.func31 rfl Tryd.ntmps31 rfl (SW.begin ?_)
  refine sw_seq ?_
  refine sw_region ?_
  refine ow_new (acts_box rfl) rfl (fun b1 hb1 => ?_)   -- 1
  refine ow_new (acts_alloc zD) rfl (fun b2 hb2 => ?_)   -- 2
  refine ow_val (val_assign rfl) rfl ?_   -- 3
  refine ow_nil (into ?_)
  refine sw_seq ?_
  refine sw_seq ?_
  refine sw_region ?_
  refine ow_val (val_fieldAddr (m := 0) (e := 0) rfl Tryd.underlying50 rfl rfl Tryd.sizeOf3 rfl) rfl ?_   -- 4
  refine ow_val (val_load_at 1 rfl rfl Tryd.isAgg3 rfl) rfl ?_   -- 5
  refine ow_nil (into ?_)
  refine sw_block ?_
  refine sw_seq ?_
  refine sw_region ?_
  refine ow_val ((val_eql_int rfl rfl).to (v' := .bool false) (congrArg Value.bool (decide_eq_false (by omega)))) rfl ?_   -- 7
  refine ow_val (val_assign rfl) rfl ?_   -- 6
  refine ow_nil (into ?_)
  refine sw_false rfl rfl ?_
  refine sw_seq ?_
  refine sw_region ?_
  refine ow_val ((val_eql_int rfl rfl).to (v' := .bool false) (congrArg Value.bool (decide_eq_false (by omega)))) rfl ?_   -- 16
  refine ow_val (val_assign rfl) rfl ?_   -- 15
  refine ow_nil (into ?_)
  refine sw_false rfl rfl ?_
  refine sw_seq ?_
  refine sw_region ?_
  refine ow_val ((val_eql_int rfl rfl).to (v' := .bool false) (congrArg Value.bool (decide_eq_false (by omega)))) rfl ?_   -- 27
  refine ow_val (val_assign rfl) rfl ?_   -- 26
  refine ow_nil (into ?_)
  refine sw_false rfl rfl ?_
  refine sw_seq ?_
  refine sw_region ?_
  refine ow_val ((val_eql_int rfl rfl).to (v' := .bool false) (congrArg Value.bool (decide_eq_false (by omega)))) rfl ?_   -- 36
  refine ow_val (val_assign rfl) rfl ?_   -- 35
  refine ow_nil (into ?_)
  refine sw_false rfl rfl ?_
  refine sw_seq ?_
  refine sw_region ?_
  refine ow_val ((val_eql_int rfl rfl).to (v' := .bool false) (congrArg Value.bool (decide_eq_false (by omega)))) rfl ?_   -- 45
  refine ow_val (val_assign rfl) rfl ?_   -- 44
  refine ow_nil (into ?_)
  refine sw_false rfl rfl ?_
  refine sw_skip (into ?_)
  refine sw_seq ?_
  refine sw_region ?_
  refine ow_val (val_fieldAddr (m := 0) (e := 1) rfl Tryd.underlying50 rfl rfl Tryd.sizeOf3 rfl) rfl ?_   -- 55
  refine ow_val (val_load_at 1 rfl rfl Tryd.isAgg3 rfl) rfl ?_   -- 56
  refine ow_val (val_fieldAddr (m := 64) (e := 70) rfl Tryd.underlying50 rfl rfl Tryd.sizeOf48 rfl) rfl ?_   -- 57
  refine ow_val (val_load_part 1 rfl rfl Tryd.isAgg48 Tryd.sizeOf48 (rootC_len ho.gl ho.ml) (Cop.cells_root ho)) rfl ?_   -- 58
  refine ow_call_pure (callsTo Tryd.func71 rfl (by kernel_rfl) rfl) rfl (fun w hm => root_any w (hK.mem0 hm) o.w o.size o.log o.map ho.gl ho.ml) ?_   -- 59
  refine ow_val (val_extract rfl rfl) rfl ?_   -- 60
  refine ow_val (val_extract rfl rfl) rfl ?_   -- 61
  refine ow_do_eq (does_store_all 0 rfl rfl rfl (one_u8s _) Tryd.sizeOf27 (by show (List.map vU8 ((digO o.w (rootP o.w o.size o.log o.map) (chk o.w [o.log, o.map])).1)).length = _; rw [List.length_map]; exact (digO_len _ _ _)) (by show (List.map vU8 zeros32).length = _; rw [List.length_map]; exact zeros32_len)) ?_
  refine ow_val (val_assign rfl) rfl ?_   -- 3
  refine ow_nil (into ?_)
  exact sw_ret (fun w hm => ret_cell_two 0 rfl rfl rfl hm rfl Tryd.isAgg27 Tryd.sizeOf27 (by rw [List.length_map]; exact digO_len _ _ _) ⟨by rw [hop] <;> rfl, hm.forgetAll⟩)

theorem lsum_any (w : World) (hK : KW w) (o : Cop) (ho : o.ok w) (hsm : o.small) : Calls Tryd.prog 31 #[.agg o.cells.toArray] w fun en w' => ∃ v, en = .returned v ∧ v = .tuple #[.agg (((digO o.w (opIn o).1 (opIn o).2).1).map vU8).toArray, vInt ((digO o.w (opIn o).1 (opIn o).2).2 : Int)] ∧ Mem w [] [] w' := by
  by_cases hk1 : o.kind = 1
  · exact lsum_1 w hK o ho hsm hk1
  by_cases hk2 : o.kind = 2
  · exact lsum_2 w hK o ho hsm hk2
  by_cases hk3 : o.kind = 3
  · exact lsum_3 w hK o ho hsm hk3
  by_cases hk4 : o.kind = 4
  · exact lsum_4 w hK o ho hsm hk4
  by_cases hk5 : o.kind = 5
  · exact lsum_5 w hK o ho hsm hk5
  exact lsum_other w hK o ho hsm hk1 hk2 hk3 hk4 hk5
end Go.Proofs.YtpmnhmfahgchgaaDoor
