import Derived.Test.YtpmnhmfahgchgaaDoorDig4
import Derived.Test.YtpmnhmfahgchgaaDoorProg
set_option linter.unusedVariables false
set_option linter.unusedSimpArgs false
namespace Go.Proofs.YtpmnhmfahgchgaaDoor
open Go.Sx Go.Ps
def Cop.zero : Cop := ⟨0, 0, Sl.nil, zeros32, zeros32, Sl.nil, 0, Sl.nil, 0, zeros32, zeros32⟩
theorem zOp (w : World) : (zeroValue 50).run Tryd.prog w = .ok (.agg Cop.zero.cells.toArray) w := by kernel_rfl

theorem docSumL_no (w : World) (o : Cop) (ho : o.ok w) (hsm : o.small) (hwd : wd o.w = false) : Calls Tryd.prog 32 #[.agg o.cells.toArray] w fun en w' => ∃ v, en = .returned v ∧ v = .tuple #[.agg (((digO o.w (opIn o).1 (opIn o).2).1).map vU8).toArray, vInt ((digO o.w (opIn o).1 (opIn o).2).2 : Int)] ∧ Mem w [] [] w' := by
  have hsm1 := hsm.1
  have hpl := ho.p.2.1
  refine calls_of_sw (vs := [.agg o.cells.toArray]) Tryd.func32 rfl Tryd.ntmps32 rfl (SW.begin ?_)
  refine sw_seq ?_
  refine sw_region ?_
  refine ow_new (acts_box rfl) rfl (fun b1 hb1 => ?_)   -- 1
  refine ow_new (acts_alloc zD) rfl (fun b2 hb2 => ?_)   -- 2
  refine ow_val (val_assign rfl) rfl ?_   -- 3
  refine ow_nil (into ?_)
  refine sw_seq ?_
  refine sw_region ?_
  refine ow_val (val_load_part 1 rfl rfl Tryd.isAgg50 Tryd.sizeOf50 (Cop.cells_len ho) (show List.take 135 o.cells = o.cells from List.take_of_length_le (Nat.le_of_eq (Cop.cells_len ho)))) rfl ?_   -- 7
  refine ow_call_row2 (E := 5) (size := 1) (k := (opIn o).1.length) (xs := (opIn o).1.map vU8) (x := vInt (((opIn o).2 : Nat) : Int)) (callsTo Tryd.func27 rfl (by kernel_rfl) rfl) rfl (fun w hm => doc_any w o (ho.mem hm) hsm) (fun a8 c8 e8 hr8 => ?_)   -- 8
  refine ow_val (val_move rfl) rfl ?_   -- 6
  refine ow_val (val_extract rfl rfl) rfl ?_   -- 9
  refine ow_val (val_extract rfl rfl) rfl ?_   -- 10
  refine ow_val (val_assign rfl) rfl ?_   -- 4
  refine ow_val (val_assign rfl) rfl ?_   -- 5
  refine ow_nil (into ?_)
  refine sw_seq ?_
  refine sw_seq ?_
  refine sw_region ?_
  refine ow_val (val_fieldAddr (m := 0) (e := 1) rfl Tryd.underlying50 rfl rfl Tryd.sizeOf3 rfl) rfl ?_   -- 11
  refine ow_val (val_load_at 2 rfl rfl Tryd.isAgg3 rfl) rfl ?_   -- 12
  refine ow_call_pure (v := .bool false) (callsTo Tryd.func46 rfl (by kernel_rfl) rfl) rfl (fun w hm => rwidth_is hwd w) ?_   -- 13
  refine ow_val (val_not rfl) rfl ?_   -- 14
  refine ow_nil (into ?_)
  refine sw_true rfl rfl ?_
  refine sw_region ?_
  refine ow_val (val_assign rfl) rfl ?_   -- 5
  refine ow_nil (into ?_)
  refine sw_seq ?_
  refine sw_seq ?_
  refine sw_region ?_
  refine ow_val (val_move rfl) rfl ?_   -- 15
  refine ow_val ((val_neq_int rfl rfl).to (v' := .bool true) (congrArg Value.bool (decide_eq_true (by simp)))) rfl ?_   -- 16
  refine ow_nil (into ?_)
  refine sw_true rfl rfl ?_
  refine sw_seq ?_
  refine sw_region ?_
  refine ow_val (val_build' (cs := zeros32.map vU8) rfl (by kernel_rfl)) rfl ?_   -- 17
  refine ow_val (val_move rfl) rfl ?_   -- 18
  refine ow_do_eq (does_store_all 1 rfl rfl rfl (one_u8s _) Tryd.sizeOf27 (by show (List.map vU8 zeros32).length = _; rw [List.length_map]; exact zeros32_len) (by show (List.map vU8 zeros32).length = _; rw [List.length_map]; exact zeros32_len)) ?_
  refine ow_val (val_assign rfl) rfl ?_   -- 3
  refine ow_nil (into ?_)
  refine sw_ret (fun w hm => ?_)
  try dsimp only [thenP, blockP, Nat.beq, cond]
  exact ret_cell_two 1 rfl rfl rfl hm rfl Tryd.isAgg27 Tryd.sizeOf27 rfl ⟨by rw [digO_opIn_no hwd] <;> rfl, hm.forgetAll⟩

theorem docSumL_err (w : World) (o : Cop) (ho : o.ok w) (hsm : o.small) (hwd : wd o.w = true) (he : (opIn o).2 ≠ 0) : Calls Tryd.prog 32 #[.agg o.cells.toArray] w fun en w' => ∃ v, en = .returned v ∧ v = .tuple #[.agg (((digO o.w (opIn o).1 (opIn o).2).1).map vU8).toArray, vInt ((digO o.w (opIn o).1 (opIn o).2).2 : Int)] ∧ Mem w [] [] w' := by
  have hsm1 := hsm.1
  have hpl := ho.p.2.1
  refine calls_of_sw (vs := [.agg o.cells.toArray]) Tryd.func32 rfl Tryd.ntmps32 rfl (SW.begin ?_)
  refine sw_seq ?_
  refine sw_region ?_
  refine ow_new (acts_box rfl) rfl (fun b1 hb1 => ?_)   -- 1
  refine ow_new (acts_alloc zD) rfl (fun b2 hb2 => ?_)   -- 2
  refine ow_val (val_assign rfl) rfl ?_   -- 3
  refine ow_nil (into ?_)
  refine sw_seq ?_
  refine sw_region ?_
  refine ow_val (val_load_part 1 rfl rfl Tryd.isAgg50 Tryd.sizeOf50 (Cop.cells_len ho) (show List.take 135 o.cells = o.cells from List.take_of_length_le (Nat.le_of_eq (Cop.cells_len ho)))) rfl ?_   -- 7
  refine ow_call_row2 (E := 5) (size := 1) (k := (opIn o).1.length) (xs := (opIn o).1.map vU8) (x := vInt (((opIn o).2 : Nat) : Int)) (callsTo Tryd.func27 rfl (by kernel_rfl) rfl) rfl (fun w hm => doc_any w o (ho.mem hm) hsm) (fun a8 c8 e8 hr8 => ?_)   -- 8
  refine ow_val (val_move rfl) rfl ?_   -- 6
  refine ow_val (val_extract rfl rfl) rfl ?_   -- 9
  refine ow_val (val_extract rfl rfl) rfl ?_   -- 10
  refine ow_val (val_assign rfl) rfl ?_   -- 4
  refine ow_val (val_assign rfl) rfl ?_   -- 5
  refine ow_nil (into ?_)
  refine sw_seq ?_
  refine sw_seq ?_
  refine sw_region ?_
  refine ow_val (val_fieldAddr (m := 0) (e := 1) rfl Tryd.underlying50 rfl rfl Tryd.sizeOf3 rfl) rfl ?_   -- 11
  refine ow_val (val_load_at 2 rfl rfl Tryd.isAgg3 rfl) rfl ?_   -- 12
  refine ow_call_pure (v := .bool true) (callsTo Tryd.func46 rfl (by kernel_rfl) rfl) rfl (fun w hm => rwidth_is hwd w) ?_   -- 13
  refine ow_val (val_not rfl) rfl ?_   -- 14
  refine ow_nil (into ?_)
  refine sw_false rfl rfl ?_
  refine sw_skip (into ?_)
  refine sw_seq ?_
  refine sw_seq ?_
  refine sw_region ?_
  refine ow_val (val_move rfl) rfl ?_   -- 15
  refine ow_val ((val_neq_int rfl rfl).to (v' := .bool true) (congrArg Value.bool (decide_eq_true (by omega)))) rfl ?_   -- 16
  refine ow_nil (into ?_)
  refine sw_true rfl rfl ?_
  refine sw_seq ?_
  refine sw_region ?_
  refine ow_val (val_build' (cs := zeros32.map vU8) rfl (by kernel_rfl)) rfl ?_   -- 17
  refine ow_val (val_move rfl) rfl ?_   -- 18
  refine ow_do_eq (does_store_all 1 rfl rfl rfl (one_u8s _) Tryd.sizeOf27 (by show (List.map vU8 zeros32).length = _; rw [List.length_map]; exact zeros32_len) (by show (List.map vU8 zeros32).length = _; rw [List.length_map]; exact zeros32_len)) ?_
  refine ow_val (val_assign rfl) rfl ?_   -- 3
  refine ow_nil (into ?_)
  refine sw_ret (fun w hm => ?_)
  try dsimp only [thenP, blockP, Nat.beq, cond]
  exact ret_cell_two 1 rfl rfl rfl hm rfl Tryd.isAgg27 Tryd.sizeOf27 rfl ⟨by rw [digO_err he] <;> rfl, hm.forgetAll⟩

theorem docSumL_ok (w : World) (o : Cop) (ho : o.ok w) (hsm : o.small) (hwd : wd o.w = true) (he : (opIn o).2 = 0) (k : Nat) (hwk : o.w = (k : Int)) (h1 : 1 ≤ k) (h2 : k ≤ 32) (hlen : (opIn o).1.length < 9223372036854775808) : Calls Tryd.prog 32 #[.agg o.cells.toArray] w fun en w' => ∃ v, en = .returned v ∧ v = .tuple #[.agg (((digO o.w (opIn o).1 (opIn o).2).1).map vU8).toArray, vInt ((digO o.w (opIn o).1 (opIn o).2).2 : Int)] ∧ Mem w [] [] w' := by
  have hsm1 := hsm.1
  have hpl := ho.p.2.1
  refine calls_of_sw (vs := [.agg o.cells.toArray]) Tryd.func32 rfl Tryd.ntmps32 rfl (SW.begin ?_)
  refine sw_seq ?_
  refine sw_region ?_
  refine ow_new (acts_box rfl) rfl (fun b1 hb1 => ?_)   -- 1
  refine ow_new (acts_alloc zD) rfl (fun b2 hb2 => ?_)   -- 2
  refine ow_val (val_assign rfl) rfl ?_   -- 3
  refine ow_nil (into ?_)
  refine sw_seq ?_
  refine sw_region ?_
  refine ow_val (val_load_part 1 rfl rfl Tryd.isAgg50 Tryd.sizeOf50 (Cop.cells_len ho) (show List.take 135 o.cells = o.cells from List.take_of_length_le (Nat.le_of_eq (Cop.cells_len ho)))) rfl ?_   -- 7
  refine ow_call_row2 (E := 5) (size := 1) (k := (opIn o).1.length) (xs := (opIn o).1.map vU8) (x := vInt (((opIn o).2 : Nat) : Int)) (callsTo Tryd.func27 rfl (by kernel_rfl) rfl) rfl (fun w hm => doc_any w o (ho.mem hm) hsm) (fun a8 c8 e8 hr8 => ?_)   -- 8
  refine ow_val (val_move rfl) rfl ?_   -- 6
  refine ow_val (val_extract rfl rfl) rfl ?_   -- 9
  refine ow_val (val_extract rfl rfl) rfl ?_   -- 10
  refine ow_val (val_assign rfl) rfl ?_   -- 4
  refine ow_val (val_assign rfl) rfl ?_   -- 5
  refine ow_nil (into ?_)
  refine sw_seq ?_
  refine sw_seq ?_
  refine sw_region ?_
  refine ow_val (val_fieldAddr (m := 0) (e := 1) rfl Tryd.underlying50 rfl rfl Tryd.sizeOf3 rfl) rfl ?_   -- 11
  refine ow_val (val_load_at 2 rfl rfl Tryd.isAgg3 rfl) rfl ?_   -- 12
  refine ow_call_pure (v := .bool true) (callsTo Tryd.func46 rfl (by kernel_rfl) rfl) rfl (fun w hm => rwidth_is hwd w) ?_   -- 13
  refine ow_val (val_not rfl) rfl ?_   -- 14
  refine ow_nil (into ?_)
  refine sw_false rfl rfl ?_
  refine sw_skip (into ?_)
  refine sw_seq ?_
  refine sw_seq ?_
  refine sw_region ?_
  refine ow_val (val_move rfl) rfl ?_   -- 15
  refine ow_val ((val_neq_int rfl rfl).to (v' := .bool false) (congrArg Value.bool (decide_eq_false (fun h => h (by omega))))) rfl ?_   -- 16
  refine ow_nil (into ?_)
  refine sw_false rfl rfl ?_
  refine sw_skip (into ?_)
  refine sw_seq ?_
  refine sw_region ?_
  refine ow_val (val_fieldAddr (m := 0) (e := 1) rfl Tryd.underlying50 rfl rfl Tryd.sizeOf3 rfl) rfl ?_   -- 19
  refine ow_val (val_load_at 2 rfl rfl Tryd.isAgg3 rfl) rfl ?_   -- 20
  refine ow_val (val_move rfl) rfl ?_   -- 21
  refine ow_call_pure (callsTo Tryd.func51 rfl (by kernel_rfl) rfl) rfl (fun w hm => (by rw [hwk]; exact rcut_any k (by omega) w a8 ((opIn o).1.length) _ ((opIn o).1) rfl (hr8.rdAt hm (i := 0) rfl) hr8.le (by omega))) ?_   -- 22
  refine ow_do_eq (does_store_all 1 rfl rfl rfl (one_u8s _) Tryd.sizeOf27 (by show (List.map vU8 (dig k ((opIn o).1))).length = _; rw [List.length_map]; exact (dig_len _ (by omega))) (by show (List.map vU8 zeros32).length = _; rw [List.length_map]; exact zeros32_len)) ?_
  refine ow_val (val_assign rfl) rfl ?_   -- 3
  refine ow_nil (into ?_)
  exact sw_ret (fun w hm => ret_cell_two 1 rfl rfl rfl hm rfl Tryd.isAgg27 Tryd.sizeOf27 (by rw [List.length_map]; exact dig_len _ h2) ⟨by rw [hwk, he, digO_yes h1 h2] <;> rfl, hm.forgetAll⟩)

theorem opIn_len {w : World} (o : Cop) (ho : o.ok w) (hsm : o.small) : (opIn o).1.length < 9223372036854775808 := by
  have h1 := hsm.1
  have h2 := hsm.2.1
  unfold opIn
  split
  · simp only [leafI, List.length_append, List.length_cons, List.length_nil]; omega
  split
  · have := nodeP_len o.w o.L o.R ho.ll ho.rl; dsimp only; omega
  split
  · simp only [keyI, List.length_append, List.length_cons, List.length_nil]; omega
  split
  · have hu := uvar_len (UInt64.ofNat (prs o.pairs.xs).length)
    simp only [bucketI, List.length_append, List.length_cons, List.length_nil]; omega
  split
  · have := branchP_len o.w o.bm o.kids.xs ho.ke; dsimp only; omega
  · have := rootP_len o.w o.size o.log o.map ho.gl ho.ml; dsimp only; omega
theorem docSumL_any (w : World) (o : Cop) (ho : o.ok w) (hsm : o.small) : Calls Tryd.prog 32 #[.agg o.cells.toArray] w fun en w' => ∃ v, en = .returned v ∧ v = .tuple #[.agg (((digO o.w (opIn o).1 (opIn o).2).1).map vU8).toArray, vInt ((digO o.w (opIn o).1 (opIn o).2).2 : Int)] ∧ Mem w [] [] w' := by
  cases hwd : wd o.w with
  | false => exact docSumL_no w o ho hsm hwd
  | true =>
    by_cases he : (opIn o).2 = 0
    · obtain ⟨k, hwk, h1, h2⟩ := wd_nat hwd
      exact docSumL_ok w o ho hsm hwd he k hwk h1 h2 (opIn_len o ho hsm)
    · exact docSumL_err w o ho hsm hwd he

theorem dig_abc : dig 2 ([97] ++ [] ++ [98, 99]) = [0xba, 0x78] ++ List.replicate 30 0 := by
  rw [dig, ← sum256_hash]; decide +kernel
theorem dig_nomap : dig 1 [5] = [0xe7] ++ List.replicate 31 0 := by
  rw [dig, ← sum256_hash]; decide +kernel
theorem dig_leaf0 : dig 4 [0] = [0x6e, 0x34, 0x0b, 0x9c] ++ List.replicate 28 0 := by
  rw [dig, ← sum256_hash]; decide +kernel
def awRoot : List UInt8 := [6, 0, 0, 0, 0, 0, 0, 1, 2, 0xaa, 0xbb]
theorem aw_root : rootP 1 258 (([170] : List UInt8) ++ List.replicate 31 0) (([187] : List UInt8) ++ List.replicate 31 0) = awRoot := by decide +kernel
theorem aw_chk : chk 1 [(([170] : List UInt8) ++ List.replicate 31 0), (([187] : List UInt8) ++ List.replicate 31 0)] = 0 := by decide +kernel
theorem fm_seven : fm 1 ([7] ++ List.replicate 31 0) = true := by decide +kernel

theorem awake_any (w : World) (hK : KW w) : Calls Tryd.prog 14 #[] w fun e w' => ∃ v, e = .returned v ∧ v = .bool true ∧ Mem w [] [] w' := by
  refine calls_of_sw (vs := []) Tryd.func14 rfl Tryd.ntmps14 rfl (SW.begin ?_)
  refine sw_seq ?_
  refine sw_region ?_
  refine ow_val (val_assign rfl) rfl ?_   -- 0
  refine ow_nil (into ?_)
  refine sw_seq ?_
  refine sw_region ?_
  refine ow_make (acts_buildSlice (cs := ([97] : List UInt8).map vU8) Tryd.underlying25 Tryd.sizeOf5 Tryd.zeroValue5 rfl rfl (by kernel_rfl)) rfl (fun b6 hb6 => ?_)   -- 6
  refine ow_make (acts_buildSlice (cs := ([98, 99] : List UInt8).map vU8) Tryd.underlying25 Tryd.sizeOf5 Tryd.zeroValue5 rfl rfl (by kernel_rfl)) rfl (fun b7 hb7 => ?_)   -- 7
  refine ow_make (acts_buildSlice (cs := [.slice (some ⟨b6, 0, none⟩) 1 1, .slice none 0 0, .slice (some ⟨b7, 0, none⟩) 2 2]) Tryd.underlying32 Tryd.sizeOf25 Tryd.zeroValue25 rfl rfl (by kernel_rfl)) rfl (fun b8 hb8 => ?_)   -- 8
  refine ow_call_pure (v := .tuple #[.agg ((([186, 120] : List UInt8) ++ List.replicate 30 0).map vU8).toArray, vInt ((0 : Nat) : Int)]) (callsTo Tryd.func17 rfl (by kernel_rfl) rfl) rfl (fun w hm => (by have h := dsum3_any (2 : Int) w (hK.mem0 hm) b8 (Rd.blk (hm.at (i := 0) rfl)) ([97] : List UInt8) rfl (Rd.blk (hm.at (i := 2) rfl)) (by omega) (by omega) [] rfl (Rd.nil _ _) (by omega) (by omega) ([98, 99] : List UInt8) rfl (Rd.blk (hm.at (i := 1) rfl)) (by omega) (by omega); rw [show digO (2 : Int) (([97] : List UInt8) ++ [] ++ [98, 99]) 0 = ([0xba, 0x78] ++ List.replicate 30 0, 0) from by rw [show (2 : Int) = ((2 : Nat) : Int) from rfl, digO_yes (by decide) (by decide), dig_abc]] at h; exact h)) ?_   -- 9
  refine ow_val (val_move rfl) rfl ?_   -- 5
  refine ow_val (val_extract rfl rfl) rfl ?_   -- 10
  refine ow_val (val_extract rfl rfl) rfl ?_   -- 11
  refine ow_new (acts_alloc zD) rfl (fun b1 hb1 => ?_)   -- 1
  refine ow_do_eq (does_store_all 0 rfl rfl rfl (one_u8s _) Tryd.sizeOf27 rfl (by show (List.map vU8 zeros32).length = _; rw [List.length_map]; exact zeros32_len)) ?_
  refine ow_val (val_assign rfl) rfl ?_   -- 2
  refine ow_nil (into ?_)
  refine sw_seq ?_
  refine sw_region ?_
  refine ow_val (val_build' (cs := (([170] : List UInt8) ++ List.replicate 31 0).map vU8) rfl (by kernel_rfl)) rfl ?_   -- 13
  refine ow_val (val_build' (cs := (([187] : List UInt8) ++ List.replicate 31 0).map vU8) rfl (by kernel_rfl)) rfl ?_   -- 14
  refine ow_val (val_build' (cs := rootC 258 (([170] : List UInt8) ++ List.replicate 31 0) (([187] : List UInt8) ++ List.replicate 31 0)) rfl (by kernel_rfl)) rfl ?_   -- 15
  refine ow_call_row2 (E := 5) (size := 1) (k := 11) (xs := awRoot.map vU8) (x := vInt ((0 : Nat) : Int)) (callsTo Tryd.func43 rfl (by kernel_rfl) rfl) rfl (fun w hm => (by have h := rootInput_any w 1 258 (([170] : List UInt8) ++ List.replicate 31 0) (([187] : List UInt8) ++ List.replicate 31 0) rfl rfl; rw [aw_root, aw_chk] at h; exact h)) (fun a16 c16 e16 hr16 => ?_)   -- 16
  refine ow_val (val_move rfl) rfl ?_   -- 12
  refine ow_val (val_extract rfl rfl) rfl ?_   -- 17
  refine ow_val (val_extract rfl rfl) rfl ?_   -- 18
  refine ow_val (val_assign rfl) rfl ?_   -- 3
  refine ow_val (val_assign rfl) rfl ?_   -- 4
  refine ow_nil (into ?_)
  refine sw_seq ?_
  refine sw_region ?_
  refine ow_val (val_move rfl) rfl ?_   -- 19
  refine ow_val ((val_eql_int rfl rfl).to (v' := .bool true) (congrArg Value.bool (decide_eq_true (by simp)))) rfl ?_   -- 20
  refine ow_val (val_move rfl) rfl ?_   -- 21
  refine ow_guard_yes rfl rfl rfl ?_
  refine ow_val (val_load_all 1 rfl rfl Tryd.isAgg27 Tryd.sizeOf27 rfl) rfl ?_   -- 22
  refine ow_guard_yes rfl rfl rfl ?_
  refine ow_val (val_build' (cs := (([186, 120] : List UInt8) ++ List.replicate 30 0).map vU8) rfl (by kernel_rfl)) rfl ?_   -- 23
  refine ow_guard_yes rfl rfl rfl ?_
  refine ow_val ((val_eql_u8s rfl rfl Tryd.eqGuardType27 Tryd.underlying27 Tryd.underlying5 Tryd.sizeOf5 Tryd.isAgg5 rfl rfl).to (congrArg Value.bool (show _ = true by simp [txt]))) rfl ?_   -- 24
  refine ow_val (val_pick_true rfl rfl) rfl ?_   -- 25
  refine ow_val (val_move rfl) rfl ?_   -- 26
  refine ow_guard_yes rfl rfl rfl ?_
  refine ow_val (val_move rfl) rfl ?_   -- 27
  refine ow_guard_yes rfl rfl rfl ?_
  refine ow_val ((val_eql_int rfl rfl).to (v' := .bool true) (congrArg Value.bool (decide_eq_true (by simp)))) rfl ?_   -- 28
  refine ow_val (val_pick_true rfl rfl) rfl ?_   -- 29
  refine ow_val (val_move rfl) rfl ?_   -- 30
  refine ow_guard_yes rfl rfl rfl ?_
  refine ow_val (val_move rfl) rfl ?_   -- 31
  refine ow_guard_yes rfl rfl rfl ?_
  refine ow_make (acts_buildSlice (cs := awRoot.map vU8) Tryd.underlying25 Tryd.sizeOf5 Tryd.zeroValue5 rfl rfl (by kernel_rfl)) rfl (fun b32 hb32 => ?_)   -- 32
  refine ow_guard_yes rfl rfl rfl ?_
  refine ow_call_pure (v := .bool true) (callsTo Tryd.func28 rfl (by kernel_rfl) rfl) rfl (fun w hm => (rsame_is w a16 11 _ awRoot rfl (hr16.rdAt hm (i := 1) rfl) (some ⟨b32, 0, none⟩) 11 _ awRoot rfl (Rd.blk (hm.at (i := 0) rfl)) (by omega) (decide_eq_true rfl))) ?_   -- 33
  refine ow_val (val_pick_true rfl rfl) rfl ?_   -- 34
  refine ow_val (val_assign rfl) rfl ?_   -- 0
  refine ow_nil (into ?_)
  exact sw_ret (fun w hm => ret_one _ rfl rfl ⟨rfl, hm.forgetAll⟩)

theorem digestForms_any (v0 : Int) (d : List UInt8) (hd : d.length = 32) (w : World) (hK : KW w) : Calls Tryd.prog 4 #[vInt v0, .agg ((d).map vU8).toArray] w fun e w' => ∃ v, e = .returned v ∧ v = .bool true ∧ Mem w [] [] w' := by
  refine calls_of_sw (vs := [vInt v0, .agg ((d).map vU8).toArray]) Tryd.func4 rfl Tryd.ntmps4 rfl (SW.begin ?_)
  refine sw_seq ?_
  refine sw_region ?_
  refine ow_new (acts_box rfl) rfl (fun b3 hb3 => ?_)   -- 3
  refine ow_val (val_assign rfl) rfl ?_   -- 4
  refine ow_nil (into ?_)
  refine sw_seq ?_
  refine sw_region_lex _ [] [(0, 2), (1, 0), (2, 0), (3, 2), (4, 0), (5, 0), (6, 0), (9, 0), (7, 1), (10, 1), (8, 2), (11, 2), (12, 0), (13, 0), (14, 0)] (by kernel_rfl) (by kernel_rfl) (fun _ _ _ h => h) (fun _ h => h) (fun _ h => h.drawn _) ?_
  refine lw_call_pure (v := .bool true) rfl (callsTo Tryd.func14 rfl (by kernel_rfl) rfl) rfl (fun w hm => awake_any w (hK.mem0 hm)) ?_   -- 5
  refine lw_pure rfl (val_move rfl) rfl ?_   -- 6
  refine lwg_pure rfl (wg rfl rfl) (val_build' (cs := (([7] : List UInt8) ++ List.replicate 31 0).map vU8) rfl (by kernel_rfl)) rfl ?_   -- 7
  refine lwg_call_pure (v := .bool true) rfl (wg rfl rfl) (callsTo Tryd.func15 rfl (by kernel_rfl) rfl) rfl (fun w hm => (form_is fm_seven rfl w)) ?_   -- 8
  refine lw_pure rfl (val_pick_true rfl rfl) rfl ?_   -- 9
  refine lw_pure rfl (val_move rfl) rfl ?_   -- 10
  refine lwg_pure rfl (wg rfl rfl) (val_move rfl) rfl ?_   -- 11
  refine lwg_pure rfl (wg rfl rfl) (val_move rfl) rfl ?_   -- 14
  refine lwg_held rfl (wg rfl rfl) (val_load_all 0 rfl rfl Tryd.isAgg27 Tryd.sizeOf27 (by show (List.map vU8 d).length = _; rw [List.length_map]; exact hd)) rfl ?_   -- 12
  refine lwg_held rfl (wg rfl rfl) (val_load_all 0 rfl rfl Tryd.isAgg27 Tryd.sizeOf27 (by show (List.map vU8 d).length = _; rw [List.length_map]; exact hd)) rfl ?_   -- 15
  refine lwg_call_pure rfl (wg rfl rfl) (callsTo Tryd.func15 rfl (by kernel_rfl) rfl) rfl (fun w hm => form_any v0 d hd w) ?_   -- 13
  refine lwg_call_pure rfl (wg rfl rfl) (callsTo Tryd.func16 rfl (by kernel_rfl) rfl) rfl (fun w hm => docForm_any v0 d hd w) ?_   -- 16
  refine lwg_pure rfl (wg rfl rfl) ((val_eql_bool Tryd.underlying4 rfl rfl).to (v' := .bool true) (congrArg Value.bool (by simp))) rfl ?_   -- 17
  refine lw_pure rfl (val_pick_true rfl rfl) rfl ?_   -- 18
  refine lw_pure rfl (val_assign rfl) rfl ?_   -- 4
  refine lw_nil (into ?_)
  exact sw_ret (fun w hm => ret_one _ rfl rfl ⟨rfl, hm.forgetAll⟩)

theorem digestInputs_any (w : World) (hK : KW w) (a : Option Addr) (c : Nat) (ops : List Cop) (hr : Rd w a (ops.flatMap Cop.cells)) (hops : ∀ o ∈ ops, o.ok w) (hsms : ∀ o ∈ ops, o.small) (hc : ops.length ≤ c) (hl : ops.length < 9223372036854775808) : Calls Tryd.prog 7 #[.slice a ops.length c] w fun e w' => ∃ v, e = .returned v ∧ v = .bool true ∧ Mem w [] [] w' := by
  refine calls_of_sw (vs := [.slice a ops.length c]) Tryd.func7 rfl Tryd.ntmps7 rfl (SW.begin ?_)
  refine sw_seq ?_
  refine sw_region ?_
  refine ow_val (val_assign rfl) rfl ?_   -- 2
  refine ow_nil (into ?_)
  refine sw_seq ?_
  refine sw_seq ?_
  refine sw_region ?_
  refine ow_call_pure (v := .bool true) (callsTo Tryd.func14 rfl (by kernel_rfl) rfl) rfl (fun w hm => awake_any w (hK.mem0 hm)) ?_   -- 9
  refine ow_val (val_not rfl) rfl ?_   -- 10
  refine ow_nil (into ?_)
  refine sw_false rfl rfl ?_
  refine sw_skip (into ?_)
  refine sw_seq ?_
  refine sw_seq ?_
  refine sw_region ?_
  refine ow_val (val_move rfl) rfl ?_   -- 11
  refine ow_val (val_len rfl Tryd.underlying42) rfl ?_   -- 12
  refine ow_val (val_move rfl) rfl ?_   -- 13
  refine ow_nil (into ?_)
  refine sw_block ?_
  refine sw_loop (σ := Nat) (fun i => i ≤ ops.length) (fun i => [(13, vInt (i : Int)), (12, vInt (ops.length : Int)), (11, .slice a ops.length c)]) (fun _ => Mem w [] []) (fun i => ops.length - i) 0 (Nat.zero_le _) ⟨rfl, rfl, rfl, trivial⟩ (fun w hm => hm.forgetAll) ?_
  intro i hi
  refine sw_seq ?_
  refine sw_region ?_
  refine ow_val (val_lss_int rfl rfl) rfl ?_   -- 14
  refine ow_nil (into ?_)
  refine sw_seq ?_
  refine sw_if rfl (fun h0 => ?_) (fun h0 => ?_)
  · -- then
    obtain ⟨ba, oa, rfl⟩ := hr.addr (by rw [flatMap_size ops (fun x hx => Cop.cells_len (hops x hx))]; omega)
    have hO := hops _ (getD_mem (l := ops) (i := i) (by omega))
    have hsm := hsms _ (getD_mem (l := ops) (i := i) (by omega))
    obtain ⟨o, hoe⟩ : ∃ o, ops.getD i default = o := ⟨_, rfl⟩
    rw [hoe] at hO hsm
    have hsm1 := hsm.1
    have hol := opIn_len o hO hsm
    refine sw_skip (into ?_)
    refine sw_seq ?_
    refine sw_block ?_
    refine sw_seq ?_
    refine sw_region ?_
    refine ow_val (val_indexAddr_slice (i) (oa + i * 135) rfl rfl Tryd.underlying42 Tryd.sizeOf50 (by omega) (by omega) (by omega)) rfl ?_   -- 15
    refine ow_val ((val_load_elem (cells := Cop.cells) (l := ops) (o := oa) (i := i) rfl Tryd.isAgg50 Tryd.sizeOf50 (fun x hx => Cop.cells_len (hops x hx)) (by omega) (by omega) (fun w' hm => hr.mem hm)).to (by rw [hoe])) rfl ?_   -- 16
    refine ow_new (acts_alloc zOp) rfl (fun b4 hb4 => ?_)   -- 4
    refine ow_do_eq (does_store_all 0 rfl rfl rfl Cop.one Tryd.sizeOf50 (Cop.cells_len hO) (show Cop.zero.cells.length = 135 from rfl)) ?_
    refine ow_nil (into ?_)
    refine sw_seq ?_
    refine sw_seq ?_
    refine sw_region ?_
    refine ow_val (val_load_part 0 rfl rfl Tryd.isAgg50 Tryd.sizeOf50 (Cop.cells_len hO) (show List.take 135 o.cells = o.cells from List.take_of_length_le (Nat.le_of_eq (Cop.cells_len hO)))) rfl ?_   -- 17
    refine ow_call_pure (callsTo Tryd.func25 rfl (by kernel_rfl) rfl) rfl (fun w hm => known_any w o (hO.mem hm) hsm) ?_   -- 18
    refine ow_val (val_not rfl) rfl ?_   -- 19
    refine ow_nil (into ?_)
    refine sw_cond rfl (fun hkn => ?_) (fun hkn => ?_)
    · -- then
      refine sw_exit (into ?_)
      refine sw_region ?_
      refine ow_val (val_add_int ((i + 1 : Nat) : Int) rfl rfl (by omega) (by omega)) rfl ?_   -- 39
      refine ow_val (val_move rfl) rfl ?_   -- 13
      exact ow_nil (fun w hm => ⟨i + 1, by omega, by omega, ⟨rfl, rfl, rfl, trivial⟩, hm.forgetAll⟩)
    · -- else
      refine sw_skip (into ?_)
      refine sw_seq ?_
      refine sw_region ?_
      refine ow_val (val_load_part 0 rfl rfl Tryd.isAgg50 Tryd.sizeOf50 (Cop.cells_len hO) (show List.take 135 o.cells = o.cells from List.take_of_length_le (Nat.le_of_eq (Cop.cells_len hO)))) rfl ?_   -- 21
      refine ow_call_row2 (E := 5) (size := 1) (k := (opIn o).1.length) (xs := (opIn o).1.map vU8) (x := vInt (((opIn o).2 : Nat) : Int)) (callsTo Tryd.func26 rfl (by kernel_rfl) rfl) rfl (fun w hm => input_any w o (hO.mem hm) hsm) (fun a22 c22 e22 hr22 => ?_)   -- 22
      refine ow_val (val_move rfl) rfl ?_   -- 20
      refine ow_val (val_extract rfl rfl) rfl ?_   -- 23
      refine ow_val (val_extract rfl rfl) rfl ?_   -- 24
      refine ow_val (val_assign rfl) rfl ?_   -- 5
      refine ow_val (val_assign rfl) rfl ?_   -- 6
      refine ow_nil (into ?_)
      refine sw_seq ?_
      refine sw_region ?_
      refine ow_val (val_load_part 1 rfl rfl Tryd.isAgg50 Tryd.sizeOf50 (Cop.cells_len hO) (show List.take 135 o.cells = o.cells from List.take_of_length_le (Nat.le_of_eq (Cop.cells_len hO)))) rfl ?_   -- 26
      refine ow_call_row2 (E := 5) (size := 1) (k := (opIn o).1.length) (xs := (opIn o).1.map vU8) (x := vInt (((opIn o).2 : Nat) : Int)) (callsTo Tryd.func27 rfl (by kernel_rfl) rfl) rfl (fun w hm => doc_any w o (hO.mem hm) hsm) (fun a27 c27 e27 hr27 => ?_)   -- 27
      refine ow_val (val_move rfl) rfl ?_   -- 25
      refine ow_val (val_extract rfl rfl) rfl ?_   -- 28
      refine ow_val (val_extract rfl rfl) rfl ?_   -- 29
      refine ow_val (val_assign rfl) rfl ?_   -- 7
      refine ow_val (val_assign rfl) rfl ?_   -- 8
      refine ow_nil (into ?_)
      refine sw_seq ?_
      refine sw_region ?_
      refine ow_val (val_move rfl) rfl ?_   -- 30
      refine ow_val (val_move rfl) rfl ?_   -- 31
      refine ow_val ((val_neq_int rfl rfl).to (v' := .bool false) (congrArg Value.bool (decide_eq_false (fun h => h rfl)))) rfl ?_   -- 32
      refine ow_val (val_move rfl) rfl ?_   -- 33
      refine ow_guard_yes rfl rfl rfl ?_
      refine ow_val (val_move rfl) rfl ?_   -- 34
      refine ow_guard_yes rfl rfl rfl ?_
      refine ow_val (val_move rfl) rfl ?_   -- 35
      refine ow_guard_yes rfl rfl rfl ?_
      refine ow_call_pure (v := .bool true) (callsTo Tryd.func28 rfl (by kernel_rfl) rfl) rfl (fun w hm => (rsame_is w a22 ((opIn o).1.length) _ ((opIn o).1) rfl (hr22.rdAt hm (i := 1) rfl) a27 ((opIn o).1.length) _ ((opIn o).1) rfl (hr27.rdAt hm (i := 0) rfl) (by omega) (decide_eq_true rfl))) ?_   -- 36
      refine ow_guard_yes rfl rfl rfl ?_
      refine ow_val (val_not rfl) rfl ?_   -- 37
      refine ow_val (val_pick_false rfl rfl) rfl ?_   -- 38
      refine ow_nil (into ?_)
      refine sw_false rfl rfl ?_
      refine sw_skip (into ?_)
      refine sw_region ?_
      refine ow_val (val_add_int ((i + 1 : Nat) : Int) rfl rfl (by omega) (by omega)) rfl ?_   -- 39
      refine ow_val (val_move rfl) rfl ?_   -- 13
      exact ow_nil (fun w hm => ⟨i + 1, by omega, by omega, ⟨rfl, rfl, rfl, trivial⟩, hm.forgetAll⟩)
  · -- else
    refine sw_exit (into ?_)
    refine sw_seq ?_
    refine sw_region ?_
    refine ow_val (val_assign rfl) rfl ?_   -- 2
    refine ow_nil (into ?_)
    exact sw_ret (fun w hm => ret_one _ rfl rfl ⟨rfl, hm.forgetAll⟩)

theorem digestDigests_any (w : World) (hK : KW w) (a : Option Addr) (c : Nat) (ops : List Cop) (hr : Rd w a (ops.flatMap Cop.cells)) (hops : ∀ o ∈ ops, o.ok w) (hsms : ∀ o ∈ ops, o.small) (hc : ops.length ≤ c) (hl : ops.length < 9223372036854775808) : Calls Tryd.prog 9 #[.slice a ops.length c] w fun e w' => ∃ v, e = .returned v ∧ v = .bool true ∧ Mem w [] [] w' := by
  refine calls_of_sw (vs := [.slice a ops.length c]) Tryd.func9 rfl Tryd.ntmps9 rfl (SW.begin ?_)
  refine sw_seq ?_
  refine sw_region ?_
  refine ow_val (val_assign rfl) rfl ?_   -- 2
  refine ow_nil (into ?_)
  refine sw_seq ?_
  refine sw_region ?_
  refine ow_call_pure (v := .tuple #[.agg ((([110, 52, 11, 156] : List UInt8) ++ List.replicate 28 0).map vU8).toArray, vInt ((0 : Nat) : Int)]) (callsTo Tryd.func30 rfl (by kernel_rfl) rfl) rfl (fun w hm => (by have h := leaf_any 4 w (hK.mem0 hm) none 0 0 [] rfl (Rd.nil _ _) (by decide) (by decide); rw [show digO (4 : Int) (leafI []) 0 = ([0x6e, 0x34, 0x0b, 0x9c] ++ List.replicate 28 0, 0) from by rw [show (4 : Int) = ((4 : Nat) : Int) from rfl, digO_yes (by decide) (by decide)]; exact congrArg (·, 0) dig_leaf0] at h; exact h)) ?_   -- 12
  refine ow_val (val_move rfl) rfl ?_   -- 11
  refine ow_val (val_extract rfl rfl) rfl ?_   -- 13
  refine ow_val (val_extract rfl rfl) rfl ?_   -- 14
  refine ow_new (acts_alloc zD) rfl (fun b3 hb3 => ?_)   -- 3
  refine ow_do_eq (does_store_all 0 rfl rfl rfl (one_u8s _) Tryd.sizeOf27 rfl (by show (List.map vU8 zeros32).length = _; rw [List.length_map]; exact zeros32_len)) ?_
  refine ow_val (val_assign rfl) rfl ?_   -- 4
  refine ow_nil (into ?_)
  refine sw_seq ?_
  refine sw_seq ?_
  refine sw_region ?_
  refine ow_val (val_move rfl) rfl ?_   -- 15
  refine ow_val ((val_neq_int rfl rfl).to (v' := .bool false) (congrArg Value.bool (decide_eq_false (fun h => h (by simp))))) rfl ?_   -- 16
  refine ow_val (val_move rfl) rfl ?_   -- 17
  refine ow_guard_yes rfl rfl rfl ?_
  refine ow_val (val_load_all 0 rfl rfl Tryd.isAgg27 Tryd.sizeOf27 rfl) rfl ?_   -- 18
  refine ow_guard_yes rfl rfl rfl ?_
  refine ow_val (val_build' (cs := (([110, 52, 11, 156] : List UInt8) ++ List.replicate 28 0).map vU8) rfl (by kernel_rfl)) rfl ?_   -- 19
  refine ow_guard_yes rfl rfl rfl ?_
  refine ow_val ((val_neq_u8s rfl rfl Tryd.eqGuardType27 Tryd.underlying27 Tryd.underlying5 Tryd.sizeOf5 Tryd.isAgg5 rfl rfl).to (congrArg Value.bool (show _ = false by simp [txt]))) rfl ?_   -- 20
  refine ow_val (val_pick_false rfl rfl) rfl ?_   -- 21
  refine ow_val (val_move rfl) rfl ?_   -- 22
  refine ow_guard_yes rfl rfl rfl ?_
  refine ow_call_pure (v := .bool true) (callsTo Tryd.func14 rfl (by kernel_rfl) rfl) rfl (fun w hm => awake_any w (hK.mem0 hm)) ?_   -- 23
  refine ow_guard_yes rfl rfl rfl ?_
  refine ow_val (val_not rfl) rfl ?_   -- 24
  refine ow_val (val_pick_false rfl rfl) rfl ?_   -- 25
  refine ow_nil (into ?_)
  refine sw_false rfl rfl ?_
  refine sw_skip (into ?_)
  refine sw_seq ?_
  refine sw_seq ?_
  refine sw_region ?_
  refine ow_val (val_move rfl) rfl ?_   -- 26
  refine ow_val (val_len rfl Tryd.underlying42) rfl ?_   -- 27
  refine ow_val (val_move rfl) rfl ?_   -- 28
  refine ow_nil (into ?_)
  refine sw_block ?_
  refine sw_loop (σ := Nat) (fun i => i ≤ ops.length) (fun i => [(28, vInt (i : Int)), (27, vInt (ops.length : Int)), (26, .slice a ops.length c)]) (fun _ => Mem w [] []) (fun i => ops.length - i) 0 (Nat.zero_le _) ⟨rfl, rfl, rfl, trivial⟩ (fun w hm => hm.forgetAll) ?_
  intro i hi
  refine sw_seq ?_
  refine sw_region ?_
  refine ow_val (val_lss_int rfl rfl) rfl ?_   -- 29
  refine ow_nil (into ?_)
  refine sw_seq ?_
  refine sw_if rfl (fun h0 => ?_) (fun h0 => ?_)
  · -- then
    obtain ⟨ba, oa, rfl⟩ := hr.addr (by rw [flatMap_size ops (fun x hx => Cop.cells_len (hops x hx))]; omega)
    have hO := hops _ (getD_mem (l := ops) (i := i) (by omega))
    have hsm := hsms _ (getD_mem (l := ops) (i := i) (by omega))
    obtain ⟨o, hoe⟩ : ∃ o, ops.getD i default = o := ⟨_, rfl⟩
    rw [hoe] at hO hsm
    have hsm1 := hsm.1
    have hol := opIn_len o hO hsm
    refine sw_skip (into ?_)
    refine sw_seq ?_
    refine sw_block ?_
    refine sw_seq ?_
    refine sw_region ?_
    refine ow_val (val_indexAddr_slice (i) (oa + i * 135) rfl rfl Tryd.underlying42 Tryd.sizeOf50 (by omega) (by omega) (by omega)) rfl ?_   -- 30
    refine ow_val ((val_load_elem (cells := Cop.cells) (l := ops) (o := oa) (i := i) rfl Tryd.isAgg50 Tryd.sizeOf50 (fun x hx => Cop.cells_len (hops x hx)) (by omega) (by omega) (fun w' hm => hr.mem hm)).to (by rw [hoe])) rfl ?_   -- 31
    refine ow_new (acts_alloc zOp) rfl (fun b6 hb6 => ?_)   -- 6
    refine ow_do_eq (does_store_all 0 rfl rfl rfl Cop.one Tryd.sizeOf50 (Cop.cells_len hO) (show Cop.zero.cells.length = 135 from rfl)) ?_
    refine ow_nil (into ?_)
    refine sw_seq ?_
    refine sw_seq ?_
    refine sw_region ?_
    refine ow_val (val_load_part 0 rfl rfl Tryd.isAgg50 Tryd.sizeOf50 (Cop.cells_len hO) (show List.take 135 o.cells = o.cells from List.take_of_length_le (Nat.le_of_eq (Cop.cells_len hO)))) rfl ?_   -- 32
    refine ow_call_pure (callsTo Tryd.func25 rfl (by kernel_rfl) rfl) rfl (fun w hm => known_any w o (hO.mem hm) hsm) ?_   -- 33
    refine ow_val (val_not rfl) rfl ?_   -- 34
    refine ow_nil (into ?_)
    refine sw_cond rfl (fun hkn => ?_) (fun hkn => ?_)
    · -- then
      refine sw_exit (into ?_)
      refine sw_region ?_
      refine ow_val (val_add_int ((i + 1 : Nat) : Int) rfl rfl (by omega) (by omega)) rfl ?_   -- 53
      refine ow_val (val_move rfl) rfl ?_   -- 28
      exact ow_nil (fun w hm => ⟨i + 1, by omega, by omega, ⟨rfl, rfl, rfl, trivial⟩, hm.forgetAll⟩)
    · -- else
      refine sw_skip (into ?_)
      refine sw_seq ?_
      refine sw_region ?_
      refine ow_val (val_load_part 0 rfl rfl Tryd.isAgg50 Tryd.sizeOf50 (Cop.cells_len hO) (show List.take 135 o.cells = o.cells from List.take_of_length_le (Nat.le_of_eq (Cop.cells_len hO)))) rfl ?_   -- 36
      refine ow_call_pure (callsTo Tryd.func31 rfl (by kernel_rfl) rfl) rfl (fun w hm => lsum_any w (hK.mem0 hm) o (hO.mem hm) hsm) ?_   -- 37
      refine ow_val (val_move rfl) rfl ?_   -- 35
      refine ow_val (val_extract rfl rfl) rfl ?_   -- 38
      refine ow_val (val_extract rfl rfl) rfl ?_   -- 39
      refine ow_new (acts_alloc zD) rfl (fun b7 hb7 => ?_)   -- 7
      refine ow_do_eq (does_store_all 0 rfl rfl rfl (one_u8s _) Tryd.sizeOf27 (by show (List.map vU8 ((digO o.w (opIn o).1 (opIn o).2).1)).length = _; rw [List.length_map]; exact (digO_len _ _ _)) (by show (List.map vU8 zeros32).length = _; rw [List.length_map]; exact zeros32_len)) ?_
      refine ow_val (val_assign rfl) rfl ?_   -- 8
      refine ow_nil (into ?_)
      refine sw_seq ?_
      refine sw_region ?_
      refine ow_val (val_load_part 1 rfl rfl Tryd.isAgg50 Tryd.sizeOf50 (Cop.cells_len hO) (show List.take 135 o.cells = o.cells from List.take_of_length_le (Nat.le_of_eq (Cop.cells_len hO)))) rfl ?_   -- 41
      refine ow_call_pure (callsTo Tryd.func32 rfl (by kernel_rfl) rfl) rfl (fun w hm => docSumL_any w o (hO.mem hm) hsm) ?_   -- 42
      refine ow_val (val_move rfl) rfl ?_   -- 40
      refine ow_val (val_extract rfl rfl) rfl ?_   -- 43
      refine ow_val (val_extract rfl rfl) rfl ?_   -- 44
      refine ow_new (acts_alloc zD) rfl (fun b9 hb9 => ?_)   -- 9
      refine ow_do_eq (does_store_all 0 rfl rfl rfl (one_u8s _) Tryd.sizeOf27 (by show (List.map vU8 ((digO o.w (opIn o).1 (opIn o).2).1)).length = _; rw [List.length_map]; exact (digO_len _ _ _)) (by show (List.map vU8 zeros32).length = _; rw [List.length_map]; exact zeros32_len)) ?_
      refine ow_val (val_assign rfl) rfl ?_   -- 10
      refine ow_nil (into ?_)
      refine sw_seq ?_
      refine sw_region ?_
      refine ow_val (val_move rfl) rfl ?_   -- 45
      refine ow_val (val_move rfl) rfl ?_   -- 46
      refine ow_val ((val_neq_int rfl rfl).to (v' := .bool false) (congrArg Value.bool (decide_eq_false (fun h => h rfl)))) rfl ?_   -- 47
      refine ow_val (val_move rfl) rfl ?_   -- 48
      refine ow_guard_yes rfl rfl rfl ?_
      refine ow_val (val_load_all 1 rfl rfl Tryd.isAgg27 Tryd.sizeOf27 (by show (List.map vU8 ((digO o.w (opIn o).1 (opIn o).2).1)).length = _; rw [List.length_map]; exact (digO_len _ _ _))) rfl ?_   -- 49
      refine ow_guard_yes rfl rfl rfl ?_
      refine ow_val (val_load_all 0 rfl rfl Tryd.isAgg27 Tryd.sizeOf27 (by show (List.map vU8 ((digO o.w (opIn o).1 (opIn o).2).1)).length = _; rw [List.length_map]; exact (digO_len _ _ _))) rfl ?_   -- 50
      refine ow_guard_yes rfl rfl rfl ?_
      refine ow_val ((val_neq_u8s rfl rfl Tryd.eqGuardType27 Tryd.underlying27 Tryd.underlying5 Tryd.sizeOf5 Tryd.isAgg5 (digO_len _ _ _) (digO_len _ _ _)).to (congrArg Value.bool (show _ = false by simp [txt]))) rfl ?_   -- 51
      refine ow_val (val_pick_false rfl rfl) rfl ?_   -- 52
      refine ow_nil (into ?_)
      refine sw_false rfl rfl ?_
      refine sw_skip (into ?_)
      refine sw_region ?_
      refine ow_val (val_add_int ((i + 1 : Nat) : Int) rfl rfl (by omega) (by omega)) rfl ?_   -- 53
      refine ow_val (val_move rfl) rfl ?_   -- 28
      exact ow_nil (fun w hm => ⟨i + 1, by omega, by omega, ⟨rfl, rfl, rfl, trivial⟩, hm.forgetAll⟩)
  · -- else
    refine sw_exit (into ?_)
    refine sw_seq ?_
    refine sw_region ?_
    refine ow_val (val_assign rfl) rfl ?_   -- 2
    refine ow_nil (into ?_)
    exact sw_ret (fun w hm => ret_one _ rfl rfl ⟨rfl, hm.forgetAll⟩)

theorem op_cases (o : Cop) : (opIn o).2 ≠ 0 ∨ ((opIn o).2 = 0 ∧ wd o.w = false) ∨ ((opIn o).2 = 0 ∧ ∃ k : Nat, o.w = (k : Int) ∧ 1 ≤ k ∧ k ≤ 32) := by
  by_cases h : (opIn o).2 = 0
  · cases hw : wd o.w with
    | false => exact .inr (.inl ⟨h, rfl⟩)
    | true => exact .inr (.inr ⟨h, wd_nat hw⟩)
  · exact .inl h

theorem digestOfInputs_any (w : World) (hK : KW w) (a : Option Addr) (c : Nat) (ops : List Cop) (hr : Rd w a (ops.flatMap Cop.cells)) (hops : ∀ o ∈ ops, o.ok w) (hsms : ∀ o ∈ ops, o.small) (hc : ops.length ≤ c) (hl : ops.length < 9223372036854775808) : Calls Tryd.prog 11 #[.slice a ops.length c] w fun e w' => ∃ v, e = .returned v ∧ v = .bool true ∧ Mem w [] [] w' := by
  refine calls_of_sw (vs := [.slice a ops.length c]) Tryd.func11 rfl Tryd.ntmps11 rfl (SW.begin ?_)
  refine sw_seq ?_
  refine sw_region ?_
  refine ow_val (val_assign rfl) rfl ?_   -- 2
  refine ow_nil (into ?_)
  refine sw_seq ?_
  refine sw_seq ?_
  refine sw_region ?_
  refine ow_call_pure (v := .bool true) (callsTo Tryd.func14 rfl (by kernel_rfl) rfl) rfl (fun w hm => awake_any w (hK.mem0 hm)) ?_   -- 11
  refine ow_val (val_not rfl) rfl ?_   -- 12
  refine ow_nil (into ?_)
  refine sw_false rfl rfl ?_
  refine sw_skip (into ?_)
  refine sw_seq ?_
  refine sw_seq ?_
  refine sw_region ?_
  refine ow_val (val_move rfl) rfl ?_   -- 13
  refine ow_val (val_len rfl Tryd.underlying42) rfl ?_   -- 14
  refine ow_val (val_move rfl) rfl ?_   -- 15
  refine ow_nil (into ?_)
  refine sw_block ?_
  refine sw_loop (σ := Nat) (fun i => i ≤ ops.length) (fun i => [(15, vInt (i : Int)), (14, vInt (ops.length : Int)), (13, .slice a ops.length c)]) (fun _ => Mem w [] []) (fun i => ops.length - i) 0 (Nat.zero_le _) ⟨rfl, rfl, rfl, trivial⟩ (fun w hm => hm.forgetAll) ?_
  intro i hi
  refine sw_seq ?_
  refine sw_region ?_
  refine ow_val (val_lss_int rfl rfl) rfl ?_   -- 16
  refine ow_nil (into ?_)
  refine sw_seq ?_
  refine sw_if rfl (fun h0 => ?_) (fun h0 => ?_)
  · -- then
    obtain ⟨ba, oa, rfl⟩ := hr.addr (by rw [flatMap_size ops (fun x hx => Cop.cells_len (hops x hx))]; omega)
    have hO := hops _ (getD_mem (l := ops) (i := i) (by omega))
    have hsm := hsms _ (getD_mem (l := ops) (i := i) (by omega))
    obtain ⟨o, hoe⟩ : ∃ o, ops.getD i default = o := ⟨_, rfl⟩
    rw [hoe] at hO hsm
    have hsm1 := hsm.1
    have hol := opIn_len o hO hsm
    refine sw_skip (into ?_)
    refine sw_seq ?_
    refine sw_block ?_
    refine sw_seq ?_
    refine sw_region ?_
    refine ow_val (val_indexAddr_slice (i) (oa + i * 135) rfl rfl Tryd.underlying42 Tryd.sizeOf50 (by omega) (by omega) (by omega)) rfl ?_   -- 17
    refine ow_val ((val_load_elem (cells := Cop.cells) (l := ops) (o := oa) (i := i) rfl Tryd.isAgg50 Tryd.sizeOf50 (fun x hx => Cop.cells_len (hops x hx)) (by omega) (by omega) (fun w' hm => hr.mem hm)).to (by rw [hoe])) rfl ?_   -- 18
    refine ow_new (acts_alloc zOp) rfl (fun b4 hb4 => ?_)   -- 4
    refine ow_do_eq (does_store_all 0 rfl rfl rfl Cop.one Tryd.sizeOf50 (Cop.cells_len hO) (show Cop.zero.cells.length = 135 from rfl)) ?_
    refine ow_nil (into ?_)
    refine sw_seq ?_
    refine sw_seq ?_
    refine sw_region ?_
    refine ow_val (val_load_part 0 rfl rfl Tryd.isAgg50 Tryd.sizeOf50 (Cop.cells_len hO) (show List.take 135 o.cells = o.cells from List.take_of_length_le (Nat.le_of_eq (Cop.cells_len hO)))) rfl ?_   -- 19
    refine ow_call_pure (callsTo Tryd.func25 rfl (by kernel_rfl) rfl) rfl (fun w hm => known_any w o (hO.mem hm) hsm) ?_   -- 20
    refine ow_val (val_not rfl) rfl ?_   -- 21
    refine ow_nil (into ?_)
    refine sw_cond rfl (fun hkn => ?_) (fun hkn => ?_)
    · -- then
      refine sw_exit (into ?_)
      refine sw_region ?_
      refine ow_val (val_add_int ((i + 1 : Nat) : Int) rfl rfl (by omega) (by omega)) rfl ?_   -- 64
      refine ow_val (val_move rfl) rfl ?_   -- 15
      exact ow_nil (fun w hm => ⟨i + 1, by omega, by omega, ⟨rfl, rfl, rfl, trivial⟩, hm.forgetAll⟩)
    · -- else
      refine sw_skip (into ?_)
      refine sw_seq ?_
      rcases op_cases o with hE | ⟨hE, hwd⟩ | ⟨hE, k, hwk, h1, h2⟩
      · -- case
        refine sw_region ?_
        refine ow_val (val_load_part 0 rfl rfl Tryd.isAgg50 Tryd.sizeOf50 (Cop.cells_len hO) (show List.take 135 o.cells = o.cells from List.take_of_length_le (Nat.le_of_eq (Cop.cells_len hO)))) rfl ?_   -- 23
        refine ow_call_row2 (E := 5) (size := 1) (k := (opIn o).1.length) (xs := (opIn o).1.map vU8) (x := vInt (((opIn o).2 : Nat) : Int)) (callsTo Tryd.func26 rfl (by kernel_rfl) rfl) rfl (fun w hm => input_any w o (hO.mem hm) hsm) (fun a24 c24 e24 hr24 => ?_)   -- 24
        refine ow_val (val_move rfl) rfl ?_   -- 22
        refine ow_val (val_extract rfl rfl) rfl ?_   -- 25
        refine ow_val (val_extract rfl rfl) rfl ?_   -- 26
        refine ow_val (val_assign rfl) rfl ?_   -- 5
        refine ow_val (val_assign rfl) rfl ?_   -- 6
        refine ow_nil (into ?_)
        refine sw_seq ?_
        refine sw_region ?_
        refine ow_val (val_load_part 1 rfl rfl Tryd.isAgg50 Tryd.sizeOf50 (Cop.cells_len hO) (show List.take 135 o.cells = o.cells from List.take_of_length_le (Nat.le_of_eq (Cop.cells_len hO)))) rfl ?_   -- 28
        refine ow_call_pure (v := .tuple #[.agg ((zeros32).map vU8).toArray, vInt (((opIn o).2 : Nat) : Int)]) (callsTo Tryd.func31 rfl (by kernel_rfl) rfl) rfl (fun w hm => (by have h := lsum_any w (hK.mem0 hm) o (hO.mem hm) hsm; rw [digO_err hE] at h; exact h)) ?_   -- 29
        refine ow_val (val_move rfl) rfl ?_   -- 27
        refine ow_val (val_extract rfl rfl) rfl ?_   -- 30
        refine ow_val (val_extract rfl rfl) rfl ?_   -- 31
        refine ow_new (acts_alloc zD) rfl (fun b7 hb7 => ?_)   -- 7
        refine ow_do_eq (does_store_all 0 rfl rfl rfl (one_u8s _) Tryd.sizeOf27 (by show (List.map vU8 zeros32).length = _; rw [List.length_map]; exact zeros32_len) (by show (List.map vU8 zeros32).length = _; rw [List.length_map]; exact zeros32_len)) ?_
        refine ow_val (val_assign rfl) rfl ?_   -- 8
        refine ow_nil (into ?_)
        refine sw_seq ?_
        refine sw_region ?_
        refine ow_val (val_fieldAddr (m := 0) (e := 1) rfl Tryd.underlying50 rfl rfl Tryd.sizeOf3 rfl) rfl ?_   -- 33
        refine ow_val (val_load_at 2 rfl rfl Tryd.isAgg3 rfl) rfl ?_   -- 34
        refine ow_val (val_move rfl) rfl ?_   -- 35
        refine ow_make (acts_buildSlice (cs := [.slice a24 ((opIn o).1.length) c24]) Tryd.underlying32 Tryd.sizeOf25 Tryd.zeroValue25 rfl rfl (by kernel_rfl)) rfl (fun b36 hb36 => ?_)   -- 36
        refine ow_call_pure (v := .tuple #[.agg (((digO o.w ((opIn o).1) 0).1).map vU8).toArray, vInt ((digO o.w ((opIn o).1) 0).2 : Int)]) (callsTo Tryd.func17 rfl (by kernel_rfl) rfl) rfl (fun w hm => dsum1_any o.w w (hK.mem0 hm) b36 (Rd.blk (hm.at (i := 0) rfl)) ((opIn o).1) rfl (hr24.rdAt hm (i := 2) rfl) hr24.le (by omega)) ?_   -- 37
        refine ow_val (val_move rfl) rfl ?_   -- 32
        refine ow_val (val_extract rfl rfl) rfl ?_   -- 38
        refine ow_val (val_extract rfl rfl) rfl ?_   -- 39
        refine ow_new (acts_alloc zD) rfl (fun b9 hb9 => ?_)   -- 9
        refine ow_do_eq (does_store_all 0 rfl rfl rfl (one_u8s _) Tryd.sizeOf27 (by show (List.map vU8 ((digO o.w ((opIn o).1) 0).1)).length = _; rw [List.length_map]; exact (digO_len _ _ _)) (by show (List.map vU8 zeros32).length = _; rw [List.length_map]; exact zeros32_len)) ?_
        refine ow_val (val_assign rfl) rfl ?_   -- 10
        refine ow_nil (into ?_)
        refine sw_seq ?_
        refine sw_seq ?_
        refine sw_region ?_
        refine ow_val (val_move rfl) rfl ?_   -- 40
        refine ow_val ((val_eql_int rfl rfl).to (v' := .bool false) (congrArg Value.bool (decide_eq_false (by omega)))) rfl ?_   -- 41
        refine ow_nil (into ?_)
        refine sw_false rfl rfl ?_
        refine sw_skip (into ?_)
        refine sw_seq ?_
        refine sw_region ?_
        refine ow_val (val_move rfl) rfl ?_   -- 43
        refine ow_val (val_move rfl) rfl ?_   -- 44
        refine ow_val ((val_neq_int rfl rfl).to (v' := .bool false) (congrArg Value.bool (decide_eq_false (fun h => h rfl)))) rfl ?_   -- 45
        refine ow_val (val_move rfl) rfl ?_   -- 46
        refine ow_guard_yes rfl rfl rfl ?_
        refine ow_val (val_move rfl) rfl ?_   -- 47
        refine ow_guard_yes rfl rfl rfl ?_
        refine ow_val ((val_eql_int rfl rfl).to (v' := .bool false) (congrArg Value.bool (decide_eq_false (by omega)))) rfl ?_   -- 48
        refine ow_guard_yes rfl rfl rfl ?_
        refine ow_val (val_move rfl) rfl ?_   -- 49
        first | refine ow_guard_no rfl rfl rfl rfl rfl ?_ | refine ow_guard_none rfl rfl rfl rfl rfl ?_
        first | refine ow_guard_no rfl rfl rfl rfl rfl ?_ | refine ow_guard_none rfl rfl rfl rfl rfl ?_
        first | refine ow_guard_no rfl rfl rfl rfl rfl ?_ | refine ow_guard_none rfl rfl rfl rfl rfl ?_
        refine ow_guard_yes rfl rfl rfl ?_
        refine ow_val (val_pick_false rfl rfl) rfl ?_   -- 53
        refine ow_val (val_pick_false rfl rfl) rfl ?_   -- 54
        refine ow_val (val_move rfl) rfl ?_   -- 55
        refine ow_guard_yes rfl rfl rfl ?_
        refine ow_val (val_move rfl) rfl ?_   -- 56
        refine ow_guard_yes rfl rfl rfl ?_
        refine ow_val ((val_neq_int rfl rfl).to (v' := .bool true) (congrArg Value.bool (decide_eq_true (by omega)))) rfl ?_   -- 57
        refine ow_guard_yes rfl rfl rfl ?_
        refine ow_val (val_move rfl) rfl ?_   -- 58
        refine ow_guard_yes rfl rfl rfl ?_
        refine ow_val (val_load_all 2 rfl rfl Tryd.isAgg27 Tryd.sizeOf27 (by show (List.map vU8 zeros32).length = _; rw [List.length_map]; exact zeros32_len)) rfl ?_   -- 59
        refine ow_guard_yes rfl rfl rfl ?_
        refine ow_val (val_build' (cs := zeros32.map vU8) rfl (by kernel_rfl)) rfl ?_   -- 60
        refine ow_guard_yes rfl rfl rfl ?_
        refine ow_val ((val_neq_u8s rfl rfl Tryd.eqGuardType27 Tryd.underlying27 Tryd.underlying5 Tryd.sizeOf5 Tryd.isAgg5 zeros32_len zeros32_len).to (congrArg Value.bool (show _ = false by simp [txt]))) rfl ?_   -- 61
        refine ow_guard_yes rfl rfl rfl ?_
        refine ow_val (val_pick_true rfl rfl) rfl ?_   -- 62
        refine ow_val (val_pick_false rfl rfl) rfl ?_   -- 63
        refine ow_nil (into ?_)
        refine sw_false rfl rfl ?_
        refine sw_skip (into ?_)
        refine sw_region ?_
        refine ow_val (val_add_int ((i + 1 : Nat) : Int) rfl rfl (by omega) (by omega)) rfl ?_   -- 64
        refine ow_val (val_move rfl) rfl ?_   -- 15
        exact ow_nil (fun w hm => ⟨i + 1, by omega, by omega, ⟨rfl, rfl, rfl, trivial⟩, hm.forgetAll⟩)
      · -- case
        refine sw_region ?_
        refine ow_val (val_load_part 0 rfl rfl Tryd.isAgg50 Tryd.sizeOf50 (Cop.cells_len hO) (show List.take 135 o.cells = o.cells from List.take_of_length_le (Nat.le_of_eq (Cop.cells_len hO)))) rfl ?_   -- 23
        refine ow_call_row2 (E := 5) (size := 1) (k := (opIn o).1.length) (xs := (opIn o).1.map vU8) (x := vInt ((0 : Nat) : Int)) (callsTo Tryd.func26 rfl (by kernel_rfl) rfl) rfl (fun w hm => (by have h := input_any w o (hO.mem hm) hsm; rw [hE] at h; exact h)) (fun a24 c24 e24 hr24 => ?_)   -- 24
        refine ow_val (val_move rfl) rfl ?_   -- 22
        refine ow_val (val_extract rfl rfl) rfl ?_   -- 25
        refine ow_val (val_extract rfl rfl) rfl ?_   -- 26
        refine ow_val (val_assign rfl) rfl ?_   -- 5
        refine ow_val (val_assign rfl) rfl ?_   -- 6
        refine ow_nil (into ?_)
        refine sw_seq ?_
        refine sw_region ?_
        refine ow_val (val_load_part 1 rfl rfl Tryd.isAgg50 Tryd.sizeOf50 (Cop.cells_len hO) (show List.take 135 o.cells = o.cells from List.take_of_length_le (Nat.le_of_eq (Cop.cells_len hO)))) rfl ?_   -- 28
        refine ow_call_pure (v := .tuple #[.agg ((zeros32).map vU8).toArray, vInt ((1 : Nat) : Int)]) (callsTo Tryd.func31 rfl (by kernel_rfl) rfl) rfl (fun w hm => (by have h := lsum_any w (hK.mem0 hm) o (hO.mem hm) hsm; rw [hE, digO_no hwd] at h; exact h)) ?_   -- 29
        refine ow_val (val_move rfl) rfl ?_   -- 27
        refine ow_val (val_extract rfl rfl) rfl ?_   -- 30
        refine ow_val (val_extract rfl rfl) rfl ?_   -- 31
        refine ow_new (acts_alloc zD) rfl (fun b7 hb7 => ?_)   -- 7
        refine ow_do_eq (does_store_all 0 rfl rfl rfl (one_u8s _) Tryd.sizeOf27 (by show (List.map vU8 zeros32).length = _; rw [List.length_map]; exact zeros32_len) (by show (List.map vU8 zeros32).length = _; rw [List.length_map]; exact zeros32_len)) ?_
        refine ow_val (val_assign rfl) rfl ?_   -- 8
        refine ow_nil (into ?_)
        refine sw_seq ?_
        refine sw_region ?_
        refine ow_val (val_fieldAddr (m := 0) (e := 1) rfl Tryd.underlying50 rfl rfl Tryd.sizeOf3 rfl) rfl ?_   -- 33
        refine ow_val (val_load_at 2 rfl rfl Tryd.isAgg3 rfl) rfl ?_   -- 34
        refine ow_val (val_move rfl) rfl ?_   -- 35
        refine ow_make (acts_buildSlice (cs := [.slice a24 ((opIn o).1.length) c24]) Tryd.underlying32 Tryd.sizeOf25 Tryd.zeroValue25 rfl rfl (by kernel_rfl)) rfl (fun b36 hb36 => ?_)   -- 36
        refine ow_call_pure (v := .tuple #[.agg ((zeros32).map vU8).toArray, vInt ((1 : Nat) : Int)]) (callsTo Tryd.func17 rfl (by kernel_rfl) rfl) rfl (fun w hm => (by have h := dsum1_any o.w w (hK.mem0 hm) b36 (Rd.blk (hm.at (i := 0) rfl)) ((opIn o).1) rfl (hr24.rdAt hm (i := 2) rfl) hr24.le (by omega); rw [digO_no hwd] at h; exact h)) ?_   -- 37
        refine ow_val (val_move rfl) rfl ?_   -- 32
        refine ow_val (val_extract rfl rfl) rfl ?_   -- 38
        refine ow_val (val_extract rfl rfl) rfl ?_   -- 39
        refine ow_new (acts_alloc zD) rfl (fun b9 hb9 => ?_)   -- 9
        refine ow_do_eq (does_store_all 0 rfl rfl rfl (one_u8s _) Tryd.sizeOf27 (by show (List.map vU8 zeros32).length = _; rw [List.length_map]; exact zeros32_len) (by show (List.map vU8 zeros32).length = _; rw [List.length_map]; exact zeros32_len)) ?_
        refine ow_val (val_assign rfl) rfl ?_   -- 10
        refine ow_nil (into ?_)
        refine sw_seq ?_
        refine sw_seq ?_
        refine sw_region ?_
        refine ow_val (val_move rfl) rfl ?_   -- 40
        refine ow_val ((val_eql_int rfl rfl).to (v' := .bool true) (congrArg Value.bool (decide_eq_true (by simp)))) rfl ?_   -- 41
        refine ow_nil (into ?_)
        refine sw_true rfl rfl ?_
        refine sw_region ?_
        refine ow_val (val_move rfl) rfl ?_   -- 42
        refine ow_val (val_assign rfl) rfl ?_   -- 6
        refine ow_nil (into ?_)
        refine sw_seq ?_
        refine sw_region ?_
        refine ow_val (val_move rfl) rfl ?_   -- 43
        refine ow_val (val_move rfl) rfl ?_   -- 44
        refine ow_val ((val_neq_int rfl rfl).to (v' := .bool false) (congrArg Value.bool (decide_eq_false (fun h => h rfl)))) rfl ?_   -- 45
        refine ow_val (val_move rfl) rfl ?_   -- 46
        refine ow_guard_yes rfl rfl rfl ?_
        refine ow_val (val_move rfl) rfl ?_   -- 47
        refine ow_guard_yes rfl rfl rfl ?_
        refine ow_val ((val_eql_int rfl rfl).to (v' := .bool false) (congrArg Value.bool (decide_eq_false (by simp)))) rfl ?_   -- 48
        refine ow_guard_yes rfl rfl rfl ?_
        refine ow_val (val_move rfl) rfl ?_   -- 49
        first | refine ow_guard_no rfl rfl rfl rfl rfl ?_ | refine ow_guard_none rfl rfl rfl rfl rfl ?_
        first | refine ow_guard_no rfl rfl rfl rfl rfl ?_ | refine ow_guard_none rfl rfl rfl rfl rfl ?_
        first | refine ow_guard_no rfl rfl rfl rfl rfl ?_ | refine ow_guard_none rfl rfl rfl rfl rfl ?_
        refine ow_guard_yes rfl rfl rfl ?_
        refine ow_val (val_pick_false rfl rfl) rfl ?_   -- 53
        refine ow_val (val_pick_false rfl rfl) rfl ?_   -- 54
        refine ow_val (val_move rfl) rfl ?_   -- 55
        refine ow_guard_yes rfl rfl rfl ?_
        refine ow_val (val_move rfl) rfl ?_   -- 56
        refine ow_guard_yes rfl rfl rfl ?_
        refine ow_val ((val_neq_int rfl rfl).to (v' := .bool true) (congrArg Value.bool (decide_eq_true (by simp)))) rfl ?_   -- 57
        refine ow_guard_yes rfl rfl rfl ?_
        refine ow_val (val_move rfl) rfl ?_   -- 58
        refine ow_guard_yes rfl rfl rfl ?_
        refine ow_val (val_load_all 2 rfl rfl Tryd.isAgg27 Tryd.sizeOf27 (by show (List.map vU8 zeros32).length = _; rw [List.length_map]; exact zeros32_len)) rfl ?_   -- 59
        refine ow_guard_yes rfl rfl rfl ?_
        refine ow_val (val_build' (cs := zeros32.map vU8) rfl (by kernel_rfl)) rfl ?_   -- 60
        refine ow_guard_yes rfl rfl rfl ?_
        refine ow_val ((val_neq_u8s rfl rfl Tryd.eqGuardType27 Tryd.underlying27 Tryd.underlying5 Tryd.sizeOf5 Tryd.isAgg5 zeros32_len zeros32_len).to (congrArg Value.bool (show _ = false by simp [txt]))) rfl ?_   -- 61
        refine ow_guard_yes rfl rfl rfl ?_
        refine ow_val (val_pick_true rfl rfl) rfl ?_   -- 62
        refine ow_val (val_pick_false rfl rfl) rfl ?_   -- 63
        refine ow_nil (into ?_)
        refine sw_false rfl rfl ?_
        refine sw_skip (into ?_)
        refine sw_region ?_
        refine ow_val (val_add_int ((i + 1 : Nat) : Int) rfl rfl (by omega) (by omega)) rfl ?_   -- 64
        refine ow_val (val_move rfl) rfl ?_   -- 15
        exact ow_nil (fun w hm => ⟨i + 1, by omega, by omega, ⟨rfl, rfl, rfl, trivial⟩, hm.forgetAll⟩)
      · -- case
        refine sw_region ?_
        refine ow_val (val_load_part 0 rfl rfl Tryd.isAgg50 Tryd.sizeOf50 (Cop.cells_len hO) (show List.take 135 o.cells = o.cells from List.take_of_length_le (Nat.le_of_eq (Cop.cells_len hO)))) rfl ?_   -- 23
        refine ow_call_row2 (E := 5) (size := 1) (k := (opIn o).1.length) (xs := (opIn o).1.map vU8) (x := vInt ((0 : Nat) : Int)) (callsTo Tryd.func26 rfl (by kernel_rfl) rfl) rfl (fun w hm => (by have h := input_any w o (hO.mem hm) hsm; rw [hE] at h; exact h)) (fun a24 c24 e24 hr24 => ?_)   -- 24
        refine ow_val (val_move rfl) rfl ?_   -- 22
        refine ow_val (val_extract rfl rfl) rfl ?_   -- 25
        refine ow_val (val_extract rfl rfl) rfl ?_   -- 26
        refine ow_val (val_assign rfl) rfl ?_   -- 5
        refine ow_val (val_assign rfl) rfl ?_   -- 6
        refine ow_nil (into ?_)
        refine sw_seq ?_
        refine sw_region ?_
        refine ow_val (val_load_part 1 rfl rfl Tryd.isAgg50 Tryd.sizeOf50 (Cop.cells_len hO) (show List.take 135 o.cells = o.cells from List.take_of_length_le (Nat.le_of_eq (Cop.cells_len hO)))) rfl ?_   -- 28
        refine ow_call_pure (v := .tuple #[.agg (((dig k (opIn o).1)).map vU8).toArray, vInt ((0 : Nat) : Int)]) (callsTo Tryd.func31 rfl (by kernel_rfl) rfl) rfl (fun w hm => (by have h := lsum_any w (hK.mem0 hm) o (hO.mem hm) hsm; rw [hE, digO_eq hwk h1 h2] at h; exact h)) ?_   -- 29
        refine ow_val (val_move rfl) rfl ?_   -- 27
        refine ow_val (val_extract rfl rfl) rfl ?_   -- 30
        refine ow_val (val_extract rfl rfl) rfl ?_   -- 31
        refine ow_new (acts_alloc zD) rfl (fun b7 hb7 => ?_)   -- 7
        refine ow_do_eq (does_store_all 0 rfl rfl rfl (one_u8s _) Tryd.sizeOf27 (by show (List.map vU8 (dig k (opIn o).1)).length = _; rw [List.length_map]; exact (dig_len _ h2)) (by show (List.map vU8 zeros32).length = _; rw [List.length_map]; exact zeros32_len)) ?_
        refine ow_val (val_assign rfl) rfl ?_   -- 8
        refine ow_nil (into ?_)
        refine sw_seq ?_
        refine sw_region ?_
        refine ow_val (val_fieldAddr (m := 0) (e := 1) rfl Tryd.underlying50 rfl rfl Tryd.sizeOf3 rfl) rfl ?_   -- 33
        refine ow_val (val_load_at 2 rfl rfl Tryd.isAgg3 rfl) rfl ?_   -- 34
        refine ow_val (val_move rfl) rfl ?_   -- 35
        refine ow_make (acts_buildSlice (cs := [.slice a24 ((opIn o).1.length) c24]) Tryd.underlying32 Tryd.sizeOf25 Tryd.zeroValue25 rfl rfl (by kernel_rfl)) rfl (fun b36 hb36 => ?_)   -- 36
        refine ow_call_pure (v := .tuple #[.agg (((dig k (opIn o).1)).map vU8).toArray, vInt ((0 : Nat) : Int)]) (callsTo Tryd.func17 rfl (by kernel_rfl) rfl) rfl (fun w hm => (by have h := dsum1_any o.w w (hK.mem0 hm) b36 (Rd.blk (hm.at (i := 0) rfl)) ((opIn o).1) rfl (hr24.rdAt hm (i := 2) rfl) hr24.le (by omega); rw [digO_eq hwk h1 h2] at h; exact h)) ?_   -- 37
        refine ow_val (val_move rfl) rfl ?_   -- 32
        refine ow_val (val_extract rfl rfl) rfl ?_   -- 38
        refine ow_val (val_extract rfl rfl) rfl ?_   -- 39
        refine ow_new (acts_alloc zD) rfl (fun b9 hb9 => ?_)   -- 9
        refine ow_do_eq (does_store_all 0 rfl rfl rfl (one_u8s _) Tryd.sizeOf27 (by show (List.map vU8 (dig k (opIn o).1)).length = _; rw [List.length_map]; exact (dig_len _ h2)) (by show (List.map vU8 zeros32).length = _; rw [List.length_map]; exact zeros32_len)) ?_
        refine ow_val (val_assign rfl) rfl ?_   -- 10
        refine ow_nil (into ?_)
        refine sw_seq ?_
        refine sw_seq ?_
        refine sw_region ?_
        refine ow_val (val_move rfl) rfl ?_   -- 40
        refine ow_val ((val_eql_int rfl rfl).to (v' := .bool true) (congrArg Value.bool (decide_eq_true (by simp)))) rfl ?_   -- 41
        refine ow_nil (into ?_)
        refine sw_true rfl rfl ?_
        refine sw_region ?_
        refine ow_val (val_move rfl) rfl ?_   -- 42
        refine ow_val (val_assign rfl) rfl ?_   -- 6
        refine ow_nil (into ?_)
        refine sw_seq ?_
        refine sw_region ?_
        refine ow_val (val_move rfl) rfl ?_   -- 43
        refine ow_val (val_move rfl) rfl ?_   -- 44
        refine ow_val ((val_neq_int rfl rfl).to (v' := .bool false) (congrArg Value.bool (decide_eq_false (fun h => h rfl)))) rfl ?_   -- 45
        refine ow_val (val_move rfl) rfl ?_   -- 46
        refine ow_guard_yes rfl rfl rfl ?_
        refine ow_val (val_move rfl) rfl ?_   -- 47
        refine ow_guard_yes rfl rfl rfl ?_
        refine ow_val ((val_eql_int rfl rfl).to (v' := .bool true) (congrArg Value.bool (decide_eq_true (by simp)))) rfl ?_   -- 48
        refine ow_guard_yes rfl rfl rfl ?_
        refine ow_val (val_move rfl) rfl ?_   -- 49
        refine ow_guard_yes rfl rfl rfl ?_
        refine ow_val (val_load_all 0 rfl rfl Tryd.isAgg27 Tryd.sizeOf27 (by show (List.map vU8 (dig k (opIn o).1)).length = _; rw [List.length_map]; exact (dig_len _ h2))) rfl ?_   -- 50
        refine ow_guard_yes rfl rfl rfl ?_
        refine ow_val (val_load_all 2 rfl rfl Tryd.isAgg27 Tryd.sizeOf27 (by show (List.map vU8 (dig k (opIn o).1)).length = _; rw [List.length_map]; exact (dig_len _ h2))) rfl ?_   -- 51
        refine ow_guard_yes rfl rfl rfl ?_
        refine ow_val ((val_neq_u8s rfl rfl Tryd.eqGuardType27 Tryd.underlying27 Tryd.underlying5 Tryd.sizeOf5 Tryd.isAgg5 (dig_len _ h2) (dig_len _ h2)).to (congrArg Value.bool (show _ = false by simp [txt]))) rfl ?_   -- 52
        refine ow_guard_yes rfl rfl rfl ?_
        refine ow_val (val_pick_true rfl rfl) rfl ?_   -- 53
        refine ow_val (val_pick_false rfl rfl) rfl ?_   -- 54
        refine ow_val (val_move rfl) rfl ?_   -- 55
        refine ow_guard_yes rfl rfl rfl ?_
        refine ow_val (val_move rfl) rfl ?_   -- 56
        refine ow_guard_yes rfl rfl rfl ?_
        refine ow_val ((val_neq_int rfl rfl).to (v' := .bool false) (congrArg Value.bool (decide_eq_false (fun h => h (by simp))))) rfl ?_   -- 57
        refine ow_guard_yes rfl rfl rfl ?_
        refine ow_val (val_move rfl) rfl ?_   -- 58
        first | refine ow_guard_no rfl rfl rfl rfl rfl ?_ | refine ow_guard_none rfl rfl rfl rfl rfl ?_
        first | refine ow_guard_no rfl rfl rfl rfl rfl ?_ | refine ow_guard_none rfl rfl rfl rfl rfl ?_
        first | refine ow_guard_no rfl rfl rfl rfl rfl ?_ | refine ow_guard_none rfl rfl rfl rfl rfl ?_
        refine ow_guard_yes rfl rfl rfl ?_
        refine ow_val (val_pick_false rfl rfl) rfl ?_   -- 62
        refine ow_val (val_pick_false rfl rfl) rfl ?_   -- 63
        refine ow_nil (into ?_)
        refine sw_false rfl rfl ?_
        refine sw_skip (into ?_)
        refine sw_region ?_
        refine ow_val (val_add_int ((i + 1 : Nat) : Int) rfl rfl (by omega) (by omega)) rfl ?_   -- 64
        refine ow_val (val_move rfl) rfl ?_   -- 15
        exact ow_nil (fun w hm => ⟨i + 1, by omega, by omega, ⟨rfl, rfl, rfl, trivial⟩, hm.forgetAll⟩)
  · -- else
    refine sw_exit (into ?_)
    refine sw_seq ?_
    refine sw_region ?_
    refine ow_val (val_assign rfl) rfl ?_   -- 2
    refine ow_nil (into ?_)
    refine sw_ret (fun w hm => ?_)
    try dsimp only [thenP, blockP, Nat.beq, cond]
    exact ret_one _ rfl rfl ⟨rfl, hm.forgetAll⟩
end Go.Proofs.YtpmnhmfahgchgaaDoor
