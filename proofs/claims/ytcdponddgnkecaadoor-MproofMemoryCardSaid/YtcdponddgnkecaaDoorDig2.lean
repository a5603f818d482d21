import Derived.Test.YtcdponddgnkecaaDoorDig1
import Derived.Test.YtcdponddgnkecaaDoorProg
set_option linter.unusedVariables false
set_option linter.unusedSimpArgs false
namespace Go.Proofs.YtcdponddgnkecaaDoor
open Go.Sx Go.Ps
theorem zD (w : World) : (zeroValue 41).run Tryd.prog w = .ok (.agg (zeros32.map vU8).toArray) w := by kernel_rfl
theorem cut_splice (k : Nat) (d : List UInt8) (hd : d.length = 32) (hk : k ≤ 32) : (zeros32.map vU8).take 0 ++ ((d.take k).map vU8).take (k * 1) ++ (zeros32.map vU8).drop (0 + k * 1) = (cutw k d).map vU8 := by
  simp only [zeros32, cutw, List.map_append, List.map_replicate, List.drop_replicate, List.take_zero, List.nil_append, Nat.mul_one, Nat.zero_add]
  rw [List.take_of_length_le (by simp; omega)]

theorem width_any (v0 : Int) (w : World) : Calls Tryd.prog 87 #[vInt v0] w fun e w' => ∃ v, e = .returned v ∧ v = .bool (wd v0) ∧ Mem w [] [] w' := by
  refine calls_of_sw (vs := [vInt v0]) Tryd.func87 rfl Tryd.ntmps87 rfl (SW.begin ?_)
  refine sw_seq ?_
  refine sw_region ?_
  refine ow_val (val_assign rfl) rfl ?_
  refine ow_nil (into ?_)
  refine sw_seq ?_
  refine sw_region ?_
  refine ow_val (val_move rfl) rfl ?_
  by_cases h1 : 1 ≤ v0
  · -- yes
    refine ow_val ((val_geq_int rfl rfl).to (congrArg Value.bool (decide_eq_true (by omega)))) rfl ?_
    refine ow_val (val_move rfl) rfl ?_
    refine ow_guard_yes rfl rfl rfl ?_
    refine ow_val (val_move rfl) rfl ?_
    refine ow_guard_yes rfl rfl rfl ?_
    refine ow_val (val_leq_int rfl rfl) rfl ?_
    refine ow_val (val_pick_true rfl rfl) rfl ?_
    refine ow_val (val_assign rfl) rfl ?_
    refine ow_nil (into ?_)
    exact sw_ret (fun w hm => ret_one _ rfl rfl ⟨by simp [wd, h1] <;> rfl, hm⟩)
  · -- no
    refine ow_val ((val_geq_int rfl rfl).to (congrArg Value.bool (decide_eq_false (by omega)))) rfl ?_
    refine ow_val (val_move rfl) rfl ?_
    first | refine ow_guard_no rfl rfl rfl rfl rfl ?_ | refine ow_guard_none rfl rfl rfl rfl rfl ?_
    first | refine ow_guard_no rfl rfl rfl rfl rfl ?_ | refine ow_guard_none rfl rfl rfl rfl rfl ?_
    refine ow_val (val_pick_false rfl rfl) rfl ?_
    refine ow_val (val_assign rfl) rfl ?_
    refine ow_nil (into ?_)
    exact sw_ret (fun w hm => ret_one _ rfl rfl ⟨by simp [wd, h1] <;> rfl, hm⟩)

theorem cut_any (k : Nat) (hk : k ≤ 32) (d : List UInt8) (hd : d.length = 32) (w : World) : Calls Tryd.prog 88 #[vInt (k : Int), .agg ((d).map vU8).toArray] w fun e w' => ∃ v, e = .returned v ∧ v = .agg ((cutw k d).map vU8).toArray ∧ Mem w [] [] w' := by
  refine calls_of_sw (vs := [vInt (k : Int), .agg ((d).map vU8).toArray]) Tryd.func88 rfl Tryd.ntmps88 rfl (SW.begin ?_)
  refine sw_seq ?_
  refine sw_region ?_
  refine ow_new (acts_box rfl) rfl (fun b3 hb3 => ?_)
  refine ow_new (acts_alloc zD) rfl (fun b4 hb4 => ?_)
  refine ow_nil (into ?_)
  refine sw_seq ?_
  refine sw_region ?_
  refine ow_new (acts_alloc zD) rfl (fun b5 hb5 => ?_)
  refine ow_nil (into ?_)
  refine sw_seq ?_
  refine sw_region_lex _ [4] [(0, 0), (1, 0), (2, 0), (3, 0), (4, 2)] (by kernel_rfl) (by kernel_rfl) (fun _ _ _ h => h) (fun _ h => h) (fun _ h => h.drawn _) ?_
  refine lw_pure rfl (val_move rfl) rfl ?_
  refine lw_pure rfl (val_slice_array_hi' k 0 rfl rfl Tryd.underlying41 Tryd.sizeOf5 rfl (by omega) rfl) rfl ?_
  refine lw_pure rfl (val_move rfl) rfl ?_
  refine lw_pure rfl (val_slice_array_hi' k 0 rfl rfl Tryd.underlying41 Tryd.sizeOf5 rfl (by omega) rfl) rfl ?_
  refine lw_act_eq rfl (acts_copy_to (size := 1) k ((cutw k d).map vU8) 0 rfl rfl rfl Tryd.underlying81 Tryd.sizeOf5 (fun w hm => (Rd.blk (hm.at (i := 2) rfl)).take1 k) (by simp; omega) (one_u8s _) (by show 0 + k * 1 ≤ (zeros32.map vU8).length; rw [List.length_map, zeros32_len]; omega) (by omega) (cut_splice k d hd (by omega))) rfl (fun h => nomatch h) ?_
  refine lw_nil (into ?_)
  refine sw_seq ?_
  refine sw_region ?_
  refine ow_val (val_load_all 0 rfl rfl Tryd.isAgg41 Tryd.sizeOf41 (by show (List.map vU8 (cutw k d)).length = _; rw [List.length_map]; exact (cutw_len hd (by omega)))) rfl ?_
  refine ow_do_eq (does_store_all 1 rfl rfl rfl (one_u8s _) Tryd.sizeOf41 (by show (List.map vU8 (cutw k d)).length = _; rw [List.length_map]; exact (cutw_len hd (by omega))) (by show (List.map vU8 zeros32).length = _; rw [List.length_map]; exact zeros32_len)) ?_
  refine ow_nil (into ?_)
  exact sw_ret (fun w hm => ret_cell 1 rfl rfl hm rfl Tryd.isAgg41 Tryd.sizeOf41 (by rw [List.length_map]; exact cutw_len hd (by omega)) ⟨rfl, hm.forgetAll⟩)

theorem width_is {v0 : Int} {b : Bool} (h : wd v0 = b) (w : World) : Calls Tryd.prog 87 #[vInt v0] w fun e w' => ∃ v, e = .returned v ∧ v = .bool b ∧ Mem w [] [] w' := by rw [← h]; exact width_any v0 w

theorem form_yes (k : Nat) (hw : wd (k : Int) = true) (hk : k ≤ 32) (d : List UInt8) (hd : d.length = 32) (w : World) : Calls Tryd.prog 61 #[vInt (k : Int), .agg ((d).map vU8).toArray] w fun e w' => ∃ v, e = .returned v ∧ v = .bool (fm (k : Int) d) ∧ Mem w [] [] w' := by
  refine calls_of_sw (vs := [vInt (k : Int), .agg ((d).map vU8).toArray]) Tryd.func61 rfl Tryd.ntmps61 rfl (SW.begin ?_)
  refine sw_seq ?_
  refine sw_region ?_
  refine ow_new (acts_box rfl) rfl (fun b3 hb3 => ?_)
  refine ow_val (val_assign rfl) rfl ?_
  refine ow_nil (into ?_)
  refine sw_seq ?_
  refine sw_region_lex _ [] [(0, 0), (1, 2), (2, 0), (3, 0), (4, 1), (6, 1), (5, 2), (7, 0), (8, 0), (9, 0)] (by kernel_rfl) (by kernel_rfl) (fun _ _ _ h => h) (fun _ h => h) (fun _ h => h.drawn _) ?_
  refine lw_pure rfl (val_move rfl) rfl ?_
  refine lw_call_pure (v := .bool true) rfl (callsTo Tryd.func87 rfl (by kernel_rfl) rfl) rfl (fun w hm => width_is hw w) ?_
  refine lw_pure rfl (val_move rfl) rfl ?_
  refine lwg_pure rfl (wg rfl rfl) (val_move rfl) rfl ?_
  refine lwg_held rfl (wg rfl rfl) (val_load_all 0 rfl rfl Tryd.isAgg41 Tryd.sizeOf41 (by show (List.map vU8 d).length = _; rw [List.length_map]; exact hd)) rfl ?_
  refine lwg_held rfl (wg rfl rfl) (val_load_all 0 rfl rfl Tryd.isAgg41 Tryd.sizeOf41 (by show (List.map vU8 d).length = _; rw [List.length_map]; exact hd)) rfl ?_
  refine lwg_call_pure rfl (wg rfl rfl) (callsTo Tryd.func88 rfl (by kernel_rfl) rfl) rfl (fun w hm => cut_any k (by omega) d hd w) ?_
  refine lwg_pure rfl (wg rfl rfl) (val_eql_u8s rfl rfl Tryd.eqGuardType41 Tryd.underlying41 Tryd.underlying5 Tryd.sizeOf5 Tryd.isAgg5 (cutw_len hd (by omega)) hd) rfl ?_
  refine lw_pure rfl (val_pick_true rfl rfl) rfl ?_
  refine lw_pure rfl (val_assign rfl) rfl ?_
  refine lw_nil (into ?_)
  exact sw_ret (fun w hm => ret_one _ rfl rfl ⟨by simp [fm, hw], hm.forgetAll⟩)

theorem form_no (v0 : Int) (hw : wd v0 = false) (d : List UInt8) (hd : d.length = 32) (w : World) : Calls Tryd.prog 61 #[vInt v0, .agg ((d).map vU8).toArray] w fun e w' => ∃ v, e = .returned v ∧ v = .bool (fm v0 d) ∧ Mem w [] [] w' := by
  refine calls_of_sw (vs := [vInt v0, .agg ((d).map vU8).toArray]) Tryd.func61 rfl Tryd.ntmps61 rfl (SW.begin ?_)
  refine sw_seq ?_
  refine sw_region ?_
  refine ow_new (acts_box rfl) rfl (fun b3 hb3 => ?_)
  refine ow_val (val_assign rfl) rfl ?_
  refine ow_nil (into ?_)
  refine sw_seq ?_
  refine sw_region_lex _ [] [(0, 0), (1, 2), (2, 0), (3, 0), (4, 0), (5, 0), (6, 0), (7, 0), (8, 0), (9, 0)] (by kernel_rfl) (by kernel_rfl) (fun _ _ _ h => h) (fun _ h => h) (fun _ h => h.drawn _) ?_
  refine lw_pure rfl (val_move rfl) rfl ?_
  refine lw_call_pure (v := .bool false) rfl (callsTo Tryd.func87 rfl (by kernel_rfl) rfl) rfl (fun w hm => width_is hw w) ?_
  refine lw_pure rfl (val_move rfl) rfl ?_
  first | refine lwg_no rfl (ng1 rfl rfl) rfl ?_ | refine lwg_no rfl (ng2 rfl rfl) rfl ?_
  first | refine lwg_no rfl (ng1 rfl rfl) rfl ?_ | refine lwg_no rfl (ng2 rfl rfl) rfl ?_
  first | refine lwg_no rfl (ng1 rfl rfl) rfl ?_ | refine lwg_no rfl (ng2 rfl rfl) rfl ?_
  first | refine lwg_no rfl (ng1 rfl rfl) rfl ?_ | refine lwg_no rfl (ng2 rfl rfl) rfl ?_
  first | refine lwg_no rfl (ng1 rfl rfl) rfl ?_ | refine lwg_no rfl (ng2 rfl rfl) rfl ?_
  refine lw_pure rfl (val_pick_false rfl rfl) rfl ?_
  refine lw_pure rfl (val_assign rfl) rfl ?_
  refine lw_nil (into ?_)
  exact sw_ret (fun w hm => ret_one _ rfl rfl ⟨by simp [fm, hw] <;> rfl, hm.forgetAll⟩)

theorem form_any (v0 : Int) (d : List UInt8) (hd : d.length = 32) (w : World) : Calls Tryd.prog 61 #[vInt v0, .agg ((d).map vU8).toArray] w fun e w' => ∃ v, e = .returned v ∧ v = .bool (fm v0 d) ∧ Mem w [] [] w' := by
  cases hw : wd v0 with
  | true => obtain ⟨k, rfl, h1, h2⟩ := wd_nat hw; exact form_yes k hw h2 d hd w
  | false => exact form_no v0 hw d hd w
theorem form_is {v0 : Int} {d : List UInt8} {b : Bool} (h : fm v0 d = b) (hd : d.length = 32) (w : World) : Calls Tryd.prog 61 #[vInt v0, .agg ((d).map vU8).toArray] w fun e w' => ∃ v, e = .returned v ∧ v = .bool b ∧ Mem w [] [] w' := by rw [← h]; exact form_any v0 d hd w

theorem check_no (v0 : Int) (hw : wd v0 = false) (w : World) (a : Option Addr) (c : Nat) (ks : List (List UInt8)) : Calls Tryd.prog 80 #[vInt v0, .slice a ks.length c] w fun e w' => ∃ v, e = .returned v ∧ v = vInt ((chk v0 ks : Nat) : Int) ∧ Mem w [] [] w' := by
  refine calls_of_sw (vs := [vInt v0, .slice a ks.length c]) Tryd.func80 rfl Tryd.ntmps80 rfl (SW.begin ?_)
  refine sw_seq ?_
  refine sw_region ?_
  refine ow_val (val_assign rfl) rfl ?_
  refine ow_nil (into ?_)
  refine sw_seq ?_
  refine sw_seq ?_
  refine sw_region ?_
  refine ow_val (val_move rfl) rfl ?_
  refine ow_call_pure (v := .bool false) (callsTo Tryd.func87 rfl (by kernel_rfl) rfl) rfl (fun w hm => width_is hw w) ?_
  refine ow_val (val_not rfl) rfl ?_
  refine ow_nil (into ?_)
  refine sw_true rfl rfl ?_
  refine sw_seq ?_
  refine sw_region ?_
  refine ow_val (val_assign rfl) rfl ?_
  refine ow_nil (into ?_)
  refine sw_ret (fun w hm => ?_)
  try dsimp only [thenP, blockP, Nat.beq, cond]
  exact ret_one _ rfl rfl ⟨by rw [chk_no hw]; rfl, hm.forgetAll⟩

theorem check_yes (v0 : Int) (hw : wd v0 = true) (w : World) (a : Option Addr) (c : Nat) (ks : List (List UInt8)) (hks : ∀ d ∈ ks, d.length = 32) (hr : Rd w a (ks.flatMap fun d => d.map vU8)) (hc : ks.length ≤ c) (hl : ks.length < 9223372036854775808) : Calls Tryd.prog 80 #[vInt v0, .slice a ks.length c] w fun e w' => ∃ v, e = .returned v ∧ v = vInt ((chk v0 ks : Nat) : Int) ∧ Mem w [] [] w' := by
  refine calls_of_sw (vs := [vInt v0, .slice a ks.length c]) Tryd.func80 rfl Tryd.ntmps80 rfl (SW.begin ?_)
  refine sw_seq ?_
  refine sw_region ?_
  refine ow_val (val_assign rfl) rfl ?_
  refine ow_nil (into ?_)
  refine sw_seq ?_
  refine sw_seq ?_
  refine sw_region ?_
  refine ow_val (val_move rfl) rfl ?_
  refine ow_call_pure (v := .bool true) (callsTo Tryd.func87 rfl (by kernel_rfl) rfl) rfl (fun w hm => width_is hw w) ?_
  refine ow_val (val_not rfl) rfl ?_
  refine ow_nil (into ?_)
  refine sw_false rfl rfl ?_
  refine sw_skip (into ?_)
  refine sw_seq ?_
  refine sw_seq ?_
  refine sw_region ?_
  refine ow_val (val_move rfl) rfl ?_
  refine ow_val (val_len rfl Tryd.underlying22) rfl ?_
  refine ow_val (val_move rfl) rfl ?_
  refine ow_nil (into ?_)
  refine sw_block ?_
  refine sw_loop (σ := Nat) (fun i => i ≤ ks.length ∧ ∀ j, j < i → fm v0 (ks.getD j default) = true) (fun i => [(12, vInt (i : Int)), (11, vInt (ks.length : Int)), (10, .slice a ks.length c), (0, vInt v0)]) (fun _ => Mem w [] []) (fun i => ks.length - i) 0 ⟨Nat.zero_le _, fun j h => absurd h (Nat.not_lt_zero j)⟩ ⟨rfl, rfl, rfl, rfl, trivial⟩ (fun w hm => hm.forgetAll) ?_
  rintro i ⟨hi, hall⟩
  refine sw_seq ?_
  refine sw_region ?_
  refine ow_val (val_lss_int rfl rfl) rfl ?_
  refine ow_nil (into ?_)
  refine sw_seq ?_
  refine sw_if rfl (fun h0 => ?_) (fun h0 => ?_)
  · -- then
    obtain ⟨ba, oa, rfl⟩ := hr.addr (by rw [flatMap_size ks (fun x hx => by rw [List.length_map]; exact hks x hx)]; omega)
    refine sw_skip (into ?_)
    refine sw_seq ?_
    refine sw_block ?_
    refine sw_seq ?_
    refine sw_region ?_
    refine ow_val (val_indexAddr_slice (i) (oa + i * 32) rfl rfl Tryd.underlying22 Tryd.sizeOf41 (by omega) (by omega) (by omega)) rfl ?_
    refine ow_val (val_load_elem (cells := fun d => d.map vU8) (l := ks) (o := oa) (i := i) rfl Tryd.isAgg41 Tryd.sizeOf41 (fun x hx => by rw [List.length_map]; exact hks x hx) (by omega) (by omega) (fun w' hm => hr.mem hm)) rfl ?_
    refine ow_new (acts_alloc zD) rfl (fun b6 hb6 => ?_)
    refine ow_do_eq (does_store_all 0 rfl rfl rfl (one_u8s _) Tryd.sizeOf41 (by show (List.map vU8 (ks.getD i default)).length = _; rw [List.length_map]; exact (hks _ (getD_mem (by omega)))) (by show (List.map vU8 zeros32).length = _; rw [List.length_map]; exact zeros32_len)) ?_
    refine ow_nil (into ?_)
    refine sw_seq ?_
    refine sw_region ?_
    refine ow_val (val_move rfl) rfl ?_
    refine ow_val (val_load_all 0 rfl rfl Tryd.isAgg41 Tryd.sizeOf41 (by show (List.map vU8 (ks.getD i default)).length = _; rw [List.length_map]; exact (hks _ (getD_mem (by omega))))) rfl ?_
    refine ow_call_pure (callsTo Tryd.func61 rfl (by kernel_rfl) rfl) rfl (fun w hm => form_any v0 (ks.getD i default) (hks _ (getD_mem (by omega))) w) ?_
    refine ow_val (val_not rfl) rfl ?_
    refine ow_nil (into ?_)
    refine sw_cond rfl (fun hf0 => ?_) (fun hf0 => ?_)
    · -- then
      have hf : fm v0 (ks.getD i default) = false := by simpa using hf0
      refine sw_seq ?_
      refine sw_region ?_
      refine ow_val (val_assign rfl) rfl ?_
      refine ow_nil (into ?_)
      refine sw_ret (fun w hm => ?_)
      try dsimp only [thenP, blockP, Nat.beq, cond]
      exact ret_one _ rfl rfl ⟨by rw [chk_bad hw (getD_mem (i := i) (by omega)) (by simpa using hf)]; rfl, hm.forgetAll⟩
    · -- else
      have hf : fm v0 (ks.getD i default) = true := by simpa using hf0
      refine sw_skip (into ?_)
      refine sw_region ?_
      refine ow_val (val_add_int ((i + 1 : Nat) : Int) rfl rfl (by omega) (by omega)) rfl ?_
      refine ow_val (val_move rfl) rfl ?_
      exact ow_nil (fun w hm => ⟨i + 1, ⟨by omega, fun j hj => (Nat.lt_or_ge j i).elim (hall j) (fun h => (show i = j by omega) ▸ hf)⟩, by omega, ⟨rfl, rfl, rfl, rfl, trivial⟩, hm.forgetAll⟩)
  · -- else
    refine sw_exit (into ?_)
    refine sw_seq ?_
    refine sw_region ?_
    refine ow_val (val_assign rfl) rfl ?_
    refine ow_nil (into ?_)
    exact sw_ret (fun w hm => ret_one _ rfl rfl ⟨by rw [chk_all hw (fun d hd => by obtain ⟨j, hj⟩ := List.mem_iff_getElem?.1 hd; have hj2 := (List.getElem?_eq_some_iff.1 hj).1; have h9 := hall j (by omega); simpa [List.getD_eq_getElem?_getD, hj] using h9)]; rfl, hm⟩)

theorem check_any (v0 : Int) (w : World) (a : Option Addr) (c : Nat) (ks : List (List UInt8)) (hks : ∀ d ∈ ks, d.length = 32) (hr : Rd w a (ks.flatMap fun d => d.map vU8)) (hc : ks.length ≤ c) (hl : ks.length < 9223372036854775808) : Calls Tryd.prog 80 #[vInt v0, .slice a ks.length c] w fun e w' => ∃ v, e = .returned v ∧ v = vInt ((chk v0 ks : Nat) : Int) ∧ Mem w [] [] w' := by
  cases hw : wd v0 with
  | true => exact check_yes v0 hw w a c ks hks hr hc hl
  | false => exact check_no v0 hw w a c ks

theorem dsum_no (v0 : Int) (hw : wd v0 = false) (w : World) (a : Option Addr) (c n : Nat) (p : List UInt8) : Calls Tryd.prog 84 #[vInt v0, .slice a n c] w fun en w' => ∃ v, en = .returned v ∧ v = .tuple #[.agg (((digO v0 p 0).1).map vU8).toArray, vInt ((digO v0 p 0).2 : Int)] ∧ Mem w [] [] w' := by
  refine calls_of_sw (vs := [vInt v0, .slice a n c]) Tryd.func84 rfl Tryd.ntmps84 rfl (SW.begin ?_)
  refine sw_seq ?_
  refine sw_region ?_
  refine ow_new (acts_alloc zD) rfl (fun b4 hb4 => ?_)
  refine ow_val (val_assign rfl) rfl ?_
  refine ow_nil (into ?_)
  refine sw_seq ?_
  refine sw_seq ?_
  refine sw_region ?_
  refine ow_val (val_move rfl) rfl ?_
  refine ow_call_pure (v := .bool false) (callsTo Tryd.func87 rfl (by kernel_rfl) rfl) rfl (fun w hm => width_is hw w) ?_
  refine ow_val (val_not rfl) rfl ?_
  refine ow_nil (into ?_)
  refine sw_true rfl rfl ?_
  refine sw_seq ?_
  refine sw_region ?_
  refine ow_val (val_build' (cs := zeros32.map vU8) rfl (by kernel_rfl)) rfl ?_
  refine ow_do_eq (does_store_all 0 rfl rfl rfl (one_u8s _) Tryd.sizeOf41 (by show (List.map vU8 zeros32).length = _; rw [List.length_map]; exact zeros32_len) (by show (List.map vU8 zeros32).length = _; rw [List.length_map]; exact zeros32_len)) ?_
  refine ow_val (val_assign rfl) rfl ?_
  refine ow_nil (into ?_)
  refine sw_ret (fun w hm => ?_)
  try dsimp only [thenP, blockP, Nat.beq, cond]
  exact ret_cell_two 0 rfl rfl rfl hm rfl Tryd.isAgg41 Tryd.sizeOf41 rfl ⟨by rw [digO_no hw]; rfl, hm.forgetAll⟩

theorem dsum_yes (k : Nat) (hw : wd (k : Int) = true) (h1 : 1 ≤ k) (h2 : k ≤ 32) (w : World) (hK : KW w) (a : Option Addr) (c : Nat) (ps : List (Sl UInt8)) (hr : Rd w a (ps.map Sl.v)) (hps : ∀ s ∈ ps, Rd w s.a (s.xs.map vU8) ∧ s.xs.length ≤ s.c ∧ s.xs.length < 9223372036854775808) (hc : ps.length ≤ c) (hl : ps.length < 9223372036854775808) : Calls Tryd.prog 84 #[vInt (k : Int), .slice a ps.length c] w fun en w' => ∃ v, en = .returned v ∧ v = .tuple #[.agg (((digO (k : Int) (ps.flatMap (·.xs)) 0).1).map vU8).toArray, vInt ((digO (k : Int) (ps.flatMap (·.xs)) 0).2 : Int)] ∧ Mem w [] [] w' := by
  refine calls_of_sw (vs := [vInt (k : Int), .slice a ps.length c]) Tryd.func84 rfl Tryd.ntmps84 rfl (SW.begin ?_)
  refine sw_seq ?_
  refine sw_region ?_
  refine ow_new (acts_alloc zD) rfl (fun b4 hb4 => ?_)
  refine ow_val (val_assign rfl) rfl ?_
  refine ow_nil (into ?_)
  refine sw_seq ?_
  refine sw_seq ?_
  refine sw_region ?_
  refine ow_val (val_move rfl) rfl ?_
  refine ow_call_pure (v := .bool true) (callsTo Tryd.func87 rfl (by kernel_rfl) rfl) rfl (fun w hm => width_is hw w) ?_
  refine ow_val (val_not rfl) rfl ?_
  refine ow_nil (into ?_)
  refine sw_false rfl rfl ?_
  refine sw_skip (into ?_)
  refine sw_seq ?_
  refine sw_region ?_
  refine ow_call_blk (fun b => .pointer (some ⟨b, 0, none⟩)) (callsTo Tryd.func98 rfl (by kernel_rfl) rfl) rfl (fun w hm => newS_any w) (fun b13 hb13 => ?_)
  refine ow_val (val_assign rfl) rfl ?_
  refine ow_nil (into ?_)
  refine sw_seq ?_
  refine sw_seq ?_
  refine sw_region ?_
  refine ow_val (val_move rfl) rfl ?_
  refine ow_val (val_len rfl Tryd.underlying128) rfl ?_
  refine ow_val (val_move rfl) rfl ?_
  refine ow_nil (into ?_)
  refine sw_block ?_
  refine sw_loop (σ := Nat × Option (List UInt8)) (fun x => x.1 ≤ ps.length ∧ txt x.2 = (ps.take x.1).flatMap (·.xs)) (fun x => [(16, vInt (x.1 : Int)), (15, vInt (ps.length : Int)), (14, .slice a ps.length c), (6, .pointer (some ⟨b13, 0, none⟩)), (4, .pointer (some ⟨b4, 0, none⟩)), (0, vInt (k : Int))]) (fun x => Mem w [] [some (b13, blk (shCells (stc x.2)) 142), some (b4, blk (zeros32.map vU8) 41)]) (fun x => ps.length - x.1) (0, none) ⟨Nat.zero_le _, rfl⟩ ⟨rfl, rfl, rfl, rfl, rfl, rfl, trivial⟩ (fun w hm => hm) ?_
  rintro ⟨i, o⟩ ⟨hi, ho⟩
  simp only at hi ho ⊢
  refine sw_seq ?_
  refine sw_region ?_
  refine ow_val (val_lss_int rfl rfl) rfl ?_
  refine ow_nil (into ?_)
  refine sw_seq ?_
  refine sw_if rfl (fun h0 => ?_) (fun h0 => ?_)
  · -- then
    obtain ⟨ba, oa, rfl⟩ := hr.addr (by rw [List.length_map]; omega)
    have hE := hps _ (getD_mem (l := ps) (i := i) (by omega))
    have hE1 := hE.2.1
    have hE2 := hE.2.2
    refine sw_skip (into ?_)
    refine sw_seq ?_
    refine sw_block ?_
    refine sw_seq ?_
    refine sw_region ?_
    refine ow_val (val_indexAddr_slice (i) (oa + i) rfl rfl Tryd.underlying128 Tryd.sizeOf81 (by omega) (by omega) (by omega)) rfl ?_
    refine ow_val (val_load (v := Sl.v (ps.getD i default)) rfl Tryd.isAgg81 (fun w' hm => Rd.get (p := ps) (k := i) (hr.mem hm) (by omega) (by omega))) rfl ?_
    refine ow_val (val_assign rfl) rfl ?_
    refine ow_nil (into ?_)
    refine sw_region ?_
    refine ow_val (val_move rfl) rfl ?_
    refine ow_val (val_move rfl) rfl ?_
    refine ow_call_turn 0 rfl (callsTo Tryd.func99 rfl (by kernel_rfl) rfl) rfl (fun w hm => writeS_any b13 o _ _ _ ((ps.getD i default).xs) rfl w (hm.at (i := 0) rfl) (hK.mem0 hm) (by have := hK.pos; simp only [List.mem_singleton]; omega) ((hps _ (getD_mem (i := i) (by omega))).1.mem hm) (fun h b' o' e hbb => by simp only [List.mem_singleton] at hbb; have h2 := ((hps _ (getD_mem (i := i) (by omega))).1).lt e (by simpa using h); omega) (by omega) (by omega)) ?_
    refine ow_nil (into ?_)
    refine sw_region ?_
    refine ow_val (val_add_int ((i + 1 : Nat) : Int) rfl rfl (by omega) (by omega)) rfl ?_
    refine ow_val (val_move rfl) rfl ?_
    exact ow_nil (fun w hm => ⟨(i + 1, _), ⟨by dsimp only; omega, (by show txt o ++ _ = _; rw [ho, take_getD (by omega), List.flatMap_append, List.flatMap_cons, List.flatMap_nil, List.append_nil])⟩, by dsimp only; omega, ⟨rfl, rfl, rfl, rfl, rfl, rfl, trivial⟩, hm⟩)
  · -- else
    obtain rfl : i = ps.length := by omega
    rw [List.take_length] at ho
    refine sw_exit (into ?_)
    refine sw_seq ?_
    refine sw_region ?_
    refine ow_val (val_move rfl) rfl ?_
    refine ow_val (val_move rfl) rfl ?_
    refine ow_call_pure (callsTo Tryd.func100 rfl (by kernel_rfl) rfl) rfl (fun w hm => sumS_any b13 o w (hm.at (i := 0) rfl) (hK.mem0 hm)) ?_
    refine ow_call_pure (callsTo Tryd.func88 rfl (by kernel_rfl) rfl) rfl (fun w hm => cut_any k (by omega) (shaOf (txt o)) (hash_len _) w) ?_
    refine ow_do_eq (does_store_all 1 rfl rfl rfl (one_u8s _) Tryd.sizeOf41 (by show (List.map vU8 (cutw k (shaOf (txt o)))).length = _; rw [List.length_map]; exact (cutw_len (hash_len _) (by omega))) (by show (List.map vU8 zeros32).length = _; rw [List.length_map]; exact zeros32_len)) ?_
    refine ow_val (val_assign rfl) rfl ?_
    refine ow_nil (into ?_)
    exact sw_ret (fun w hm => ret_cell_two 1 rfl rfl rfl hm rfl Tryd.isAgg41 Tryd.sizeOf41 (by rw [List.length_map]; exact cutw_len (hash_len _) (by omega)) ⟨by rw [digO_yes h1 h2, ho]; rfl, hm.forgetAll⟩)

theorem dsum_any (v0 : Int) (w : World) (hK : KW w) (a : Option Addr) (c : Nat) (ps : List (Sl UInt8)) (hr : Rd w a (ps.map Sl.v)) (hps : ∀ s ∈ ps, Rd w s.a (s.xs.map vU8) ∧ s.xs.length ≤ s.c ∧ s.xs.length < 9223372036854775808) (hc : ps.length ≤ c) (hl : ps.length < 9223372036854775808) : Calls Tryd.prog 84 #[vInt v0, .slice a ps.length c] w fun en w' => ∃ v, en = .returned v ∧ v = .tuple #[.agg (((digO v0 (ps.flatMap (·.xs)) 0).1).map vU8).toArray, vInt ((digO v0 (ps.flatMap (·.xs)) 0).2 : Int)] ∧ Mem w [] [] w' := by
  cases hw : wd v0 with
  | true => obtain ⟨k, rfl, h1, h2⟩ := wd_nat hw; exact dsum_yes k hw h1 h2 w hK a c ps hr hps hc hl
  | false => exact dsum_no v0 hw w a c ps.length _

theorem dsum0_any (v0 : Int) (w : World) (hK : KW w) : Calls Tryd.prog 84 #[vInt v0, .slice none 0 0] w fun en w' => ∃ v, en = .returned v ∧ v = .tuple #[.agg (((digO v0 [] 0).1).map vU8).toArray, vInt ((digO v0 [] 0).2 : Int)] ∧ Mem w [] [] w' :=
  dsum_any v0 w hK none 0 [] (Rd.nil _ _) (fun _ h => by cases h) (Nat.le_refl _) (by decide)

theorem dsum1_any (v0 : Int) (w : World) (hK : KW w) (b : Nat) {a0 : Option Addr} {m0 c0 : Nat} (hr : Rd w (some ⟨b, 0, none⟩) [.slice a0 m0 c0]) (p0 : List UInt8) (h0 : p0.length = m0) (r0 : Rd w a0 (p0.map vU8)) (l0 : m0 ≤ c0) (k0 : m0 < 9223372036854775808) : Calls Tryd.prog 84 #[vInt v0, .slice (some ⟨b, 0, none⟩) 1 1] w fun en w' => ∃ v, en = .returned v ∧ v = .tuple #[.agg (((digO v0 p0 0).1).map vU8).toArray, vInt ((digO v0 p0 0).2 : Int)] ∧ Mem w [] [] w' := by
  subst h0
  have h := dsum_any v0 w hK (some ⟨b, 0, none⟩) 1 [⟨a0, c0, p0⟩] hr (fun s hs => by
    simp only [List.mem_cons, List.not_mem_nil, or_false] at hs
    subst hs
    exact ⟨r0, l0, k0⟩) (by simp) (by simp)
  simpa using h

theorem dsum3_any (v0 : Int) (w : World) (hK : KW w) (b : Nat) {a0 : Option Addr} {m0 c0 : Nat} {a1 : Option Addr} {m1 c1 : Nat} {a2 : Option Addr} {m2 c2 : Nat} (hr : Rd w (some ⟨b, 0, none⟩) [.slice a0 m0 c0, .slice a1 m1 c1, .slice a2 m2 c2]) (p0 : List UInt8) (h0 : p0.length = m0) (r0 : Rd w a0 (p0.map vU8)) (l0 : m0 ≤ c0) (k0 : m0 < 9223372036854775808) (p1 : List UInt8) (h1 : p1.length = m1) (r1 : Rd w a1 (p1.map vU8)) (l1 : m1 ≤ c1) (k1 : m1 < 9223372036854775808) (p2 : List UInt8) (h2 : p2.length = m2) (r2 : Rd w a2 (p2.map vU8)) (l2 : m2 ≤ c2) (k2 : m2 < 9223372036854775808) : Calls Tryd.prog 84 #[vInt v0, .slice (some ⟨b, 0, none⟩) 3 3] w fun en w' => ∃ v, en = .returned v ∧ v = .tuple #[.agg (((digO v0 (p0 ++ p1 ++ p2) 0).1).map vU8).toArray, vInt ((digO v0 (p0 ++ p1 ++ p2) 0).2 : Int)] ∧ Mem w [] [] w' := by
  subst h0; subst h1; subst h2
  have h := dsum_any v0 w hK (some ⟨b, 0, none⟩) 3 [⟨a0, c0, p0⟩, ⟨a1, c1, p1⟩, ⟨a2, c2, p2⟩] hr (fun s hs => by
    simp only [List.mem_cons, List.not_mem_nil, or_false] at hs
    rcases hs with rfl | rfl | rfl
    · exact ⟨r0, l0, k0⟩
    · exact ⟨r1, l1, k1⟩
    · exact ⟨r2, l2, k2⟩) (by simp) (by simp)
  simpa [List.append_assoc] using h

theorem of_err (v0 : Int) (w : World) (ap : Option Addr) (m cp : Nat) (p : List UInt8) (e : Nat) (he : e ≠ 0) : Calls Tryd.prog 59 #[vInt v0, .slice ap m cp, vInt (e : Int)] w fun en w' => ∃ v, en = .returned v ∧ v = .tuple #[.agg (((digO v0 p e).1).map vU8).toArray, vInt ((digO v0 p e).2 : Int)] ∧ Mem w [] [] w' := by
  refine calls_of_sw (vs := [vInt v0, .slice ap m cp, vInt (e : Int)]) Tryd.func59 rfl Tryd.ntmps59 rfl (SW.begin ?_)
  refine sw_seq ?_
  refine sw_region ?_
  refine ow_new (acts_alloc zD) rfl (fun b6 hb6 => ?_)
  refine ow_val (val_assign rfl) rfl ?_
  refine ow_nil (into ?_)
  refine sw_seq ?_
  refine sw_seq ?_
  refine sw_region ?_
  refine ow_val (val_move rfl) rfl ?_
  refine ow_val (val_neq_int rfl rfl) rfl ?_
  refine ow_nil (into ?_)
  refine sw_true rfl (by simp [he]) ?_
  refine sw_seq ?_
  refine sw_region ?_
  refine ow_val (val_build' (cs := zeros32.map vU8) rfl (by kernel_rfl)) rfl ?_
  refine ow_val (val_move rfl) rfl ?_
  refine ow_do_eq (does_store_all 0 rfl rfl rfl (one_u8s _) Tryd.sizeOf41 (by show (List.map vU8 zeros32).length = _; rw [List.length_map]; exact zeros32_len) (by show (List.map vU8 zeros32).length = _; rw [List.length_map]; exact zeros32_len)) ?_
  refine ow_val (val_assign rfl) rfl ?_
  refine ow_nil (into ?_)
  refine sw_ret (fun w hm => ?_)
  try dsimp only [thenP, blockP, Nat.beq, cond]
  exact ret_cell_two 0 rfl rfl rfl hm rfl Tryd.isAgg41 Tryd.sizeOf41 rfl ⟨by rw [digO_err he] <;> rfl, hm.forgetAll⟩

theorem of_ok (v0 : Int) (w : World) (hK : KW w) (ap : Option Addr) (m cp : Nat) (p : List UInt8) (hpm : p.length = m) (hr : Rd w ap (p.map vU8)) (hcp : m ≤ cp) (hl : m < 9223372036854775808) : Calls Tryd.prog 59 #[vInt v0, .slice ap m cp, vInt ((0 : Nat) : Int)] w fun en w' => ∃ v, en = .returned v ∧ v = .tuple #[.agg (((digO v0 p 0).1).map vU8).toArray, vInt ((digO v0 p 0).2 : Int)] ∧ Mem w [] [] w' := by
  refine calls_of_sw (vs := [vInt v0, .slice ap m cp, vInt ((0 : Nat) : Int)]) Tryd.func59 rfl Tryd.ntmps59 rfl (SW.begin ?_)
  refine sw_seq ?_
  refine sw_region ?_
  refine ow_new (acts_alloc zD) rfl (fun b6 hb6 => ?_)
  refine ow_val (val_assign rfl) rfl ?_
  refine ow_nil (into ?_)
  refine sw_seq ?_
  refine sw_seq ?_
  refine sw_region ?_
  refine ow_val (val_move rfl) rfl ?_
  refine ow_val ((val_neq_int rfl rfl).to (v' := .bool false) (congrArg Value.bool (decide_eq_false (fun h => h (by simp))))) rfl ?_
  refine ow_nil (into ?_)
  refine sw_false rfl (by simp) ?_
  refine sw_skip (into ?_)
  refine sw_seq ?_
  refine sw_region ?_
  refine ow_val (val_move rfl) rfl ?_
  refine ow_val (val_move rfl) rfl ?_
  refine ow_make (acts_buildSlice (cs := [.slice ap m cp]) Tryd.underlying128 Tryd.sizeOf81 Tryd.zeroValue81 rfl rfl (by kernel_rfl)) rfl (fun b14 hb14 => ?_)
  refine ow_call_pure (v := .tuple #[.agg (((digO v0 p 0).1).map vU8).toArray, vInt ((digO v0 p 0).2 : Int)]) (callsTo Tryd.func84 rfl (by kernel_rfl) rfl) rfl (fun w hm => dsum1_any v0 w (hK.mem0 hm) b14 (Rd.blk (hm.at (i := 0) rfl)) p hpm (hr.mem hm) (by omega) (by omega)) ?_
  refine ow_val (val_extract rfl rfl) rfl ?_
  refine ow_val (val_extract rfl rfl) rfl ?_
  refine ow_do_eq (does_store_all 1 rfl rfl rfl (one_u8s _) Tryd.sizeOf41 (by show (List.map vU8 ((digO v0 p 0).1)).length = _; rw [List.length_map]; exact (digO_len _ _ _)) (by show (List.map vU8 zeros32).length = _; rw [List.length_map]; exact zeros32_len)) ?_
  refine ow_val (val_assign rfl) rfl ?_
  refine ow_nil (into ?_)
  exact sw_ret (fun w hm => ret_cell_two 1 rfl rfl rfl hm rfl Tryd.isAgg41 Tryd.sizeOf41 (by rw [List.length_map]; exact digO_len _ _ _) ⟨rfl, hm.forgetAll⟩)

theorem of_any (v0 : Int) (w : World) (hK : KW w) (ap : Option Addr) (m cp : Nat) (p : List UInt8) (hpm : p.length = m) (hr : Rd w ap (p.map vU8)) (hcp : m ≤ cp) (hl : m < 9223372036854775808) (e : Nat) : Calls Tryd.prog 59 #[vInt v0, .slice ap m cp, vInt (e : Int)] w fun en w' => ∃ v, en = .returned v ∧ v = .tuple #[.agg (((digO v0 p e).1).map vU8).toArray, vInt ((digO v0 p e).2 : Int)] ∧ Mem w [] [] w' := by
  by_cases he : e = 0
  · subst he; exact of_ok v0 w hK ap m cp p hpm hr hcp hl
  · exact of_err v0 w ap m cp p e he

theorem zW (w : World) : (zeroValue 115).run Tryd.prog w = .ok (.agg #[.slice none 0 0]) w := by kernel_rfl

theorem tagged_any (x : UInt8) (w : World) (ap : Option Addr) (m cp : Nat) (p : List UInt8) (hpm : p.length = m) (hr : Rd w ap (p.map vU8)) (hcp : m ≤ cp) (hb : m < 140737488355328) : Calls Tryd.prog 104 #[vU8 x, .slice ap m cp] w fun en w' => ∃ v, en = .returned v ∧ ∃ e', RowE v 5 1 (1 + m) (([x] ++ p).map vU8) e' ∧ Mem w [] [e'] w' := by
  refine calls_of_sw (vs := [vU8 x, .slice ap m cp]) Tryd.func104 rfl Tryd.ntmps104 rfl (SW.begin ?_)
  refine sw_seq ?_
  refine sw_region ?_
  refine ow_val (val_assign rfl) rfl ?_
  refine ow_nil (into ?_)
  refine sw_seq ?_
  refine sw_region ?_
  refine ow_new (acts_alloc zW) rfl (fun b5 hb5 => ?_)
  refine ow_place ?_
  refine ow_nil (into ?_)
  refine sw_seq ?_
  refine sw_region ?_
  refine ow_val (val_move rfl) rfl ?_
  refine ow_call_wr (k := 1) (E := 5) (T := 115) (xs := (([] : List UInt8) ++ ([x] : List UInt8)).map vU8) 1 0 rfl rfl (by decide) (callsTo Tryd.func81 rfl (by kernel_rfl) rfl) rfl (fun w hm hs => wu8_any b5 none 0 0 ([] : List UInt8) none w hs (RowE.nil _ _) x (by omega)) (fun a7 c7 e7 hr7 => ?_)
  refine ow_nil (into ?_)
  refine sw_seq ?_
  refine sw_region ?_
  refine ow_val (val_move rfl) rfl ?_
  refine ow_call_wr (k := 1 + m) (E := 5) (T := 115) (xs := ((([] : List UInt8) ++ ([x] : List UInt8)) ++ p).map vU8) 1 0 rfl rfl (by decide) (callsTo Tryd.func82 rfl (by kernel_rfl) rfl) rfl (fun w hm hs => wraw_any b5 a7 1 c7 (([] : List UInt8) ++ ([x] : List UInt8)) e7 w hs hr7 ap m _ p hpm (hr.mem hm) (hm.argNe hr (fun _ _ _ _ h => by cases h) (i := 1) (j := 0) rfl rfl) (by omega) (by omega)) (fun a9 c9 e9 hr9 => ?_)
  refine ow_nil (into ?_)
  refine sw_seq ?_
  refine sw_region ?_
  refine ow_call_row (E := 5) (size := 1) (k := 1 + m) (xs := ((([] : List UInt8) ++ ([x] : List UInt8)) ++ p).map vU8) (callsTo Tryd.func83 rfl (by kernel_rfl) rfl) rfl (fun w hm => wbytes_any b5 _ _ _ _ _ w (hm.start2 (i := 1) (j := 0) rfl rfl (by decide)) hr9 (by omega)) (fun a10 c10 e10 hr10 => ?_)
  refine ow_val (val_assign rfl) rfl ?_
  refine ow_nil (into ?_)
  exact sw_ret (fun w hm => ret_one _ rfl rfl ⟨e10, hr10, hm.only (.cons_cons _ (List.nil_sublist _))⟩)

theorem leafI_any (w : World) (ap : Option Addr) (m cp : Nat) (p : List UInt8) (hpm : p.length = m) (hr : Rd w ap (p.map vU8)) (hcp : m ≤ cp) (hb : m < 140737488355328) : Calls Tryd.prog 93 #[.slice ap m cp] w fun en w' => ∃ v, en = .returned v ∧ ∃ e', RowE v 5 1 (1 + m) ((leafI p).map vU8) e' ∧ Mem w [] [e'] w' := by
  refine calls_of_sw (vs := [.slice ap m cp]) Tryd.func93 rfl Tryd.ntmps93 rfl (SW.begin ?_)
  refine sw_seq ?_
  refine sw_region ?_
  refine ow_val (val_assign rfl) rfl ?_
  refine ow_nil (into ?_)
  refine sw_seq ?_
  refine sw_region ?_
  refine ow_val (val_move rfl) rfl ?_
  refine ow_call_row (E := 5) (size := 1) (k := 1 + m) (xs := (leafI p).map vU8) (callsTo Tryd.func104 rfl (by kernel_rfl) rfl) rfl (fun w hm => tagged_any 0 w ap m cp p hpm (hr.mem hm) hcp hb) (fun a4 c4 e4 hr4 => ?_)
  refine ow_val (val_assign rfl) rfl ?_
  refine ow_nil (into ?_)
  exact sw_ret (fun w hm => ret_one _ rfl rfl ⟨e4, hr4, hm.only (.cons_cons _ (List.nil_sublist _))⟩)

theorem nodeInput_err (v0 : Int) (w : World) (l r : List UInt8) (hll : l.length = 32) (hrl : r.length = 32) (he : ¬ chk v0 [l, r] = 0) : Calls Tryd.prog 58 #[vInt v0, .agg ((l).map vU8).toArray, .agg ((r).map vU8).toArray] w fun en w' => ∃ u, en = .returned u ∧ ∃ s e', u = .tuple #[s, vInt ((chk v0 [l, r] : Nat) : Int)] ∧ RowE s 5 1 (nodeP v0 l r).length ((nodeP v0 l r).map vU8) e' ∧ Mem w [] [e'] w' := by
  refine calls_of_sw (vs := [vInt v0, .agg ((l).map vU8).toArray, .agg ((r).map vU8).toArray]) Tryd.func58 rfl Tryd.ntmps58 rfl (SW.begin ?_)
  refine sw_seq ?_
  refine sw_region ?_
  refine ow_new (acts_box rfl) rfl (fun b4 hb4 => ?_)
  refine ow_new (acts_box rfl) rfl (fun b5 hb5 => ?_)
  refine ow_val (val_assign rfl) rfl ?_
  refine ow_val (val_assign rfl) rfl ?_
  refine ow_nil (into ?_)
  refine sw_seq ?_
  refine sw_seq ?_
  refine sw_region ?_
  refine ow_val (val_move rfl) rfl ?_
  refine ow_val (val_load_all 1 rfl rfl Tryd.isAgg41 Tryd.sizeOf41 (by show (List.map vU8 l).length = _; rw [List.length_map]; exact hll)) rfl ?_
  refine ow_val (val_load_all 0 rfl rfl Tryd.isAgg41 Tryd.sizeOf41 (by show (List.map vU8 r).length = _; rw [List.length_map]; exact hrl)) rfl ?_
  refine ow_make (acts_buildSlice (cs := [l.map vU8, r.map vU8].flatten) Tryd.underlying22 Tryd.sizeOf41 zD rfl rfl (fill_aggs [l.map vU8, r.map vU8] (by decide) rfl (by simp only [List.forall_mem_cons, List.length_map]; exact ⟨hll, hrl, fun _ h => by cases h⟩))) rfl (fun b13 hb13 => ?_)
  refine ow_call_pure (callsTo Tryd.func80 rfl (by kernel_rfl) rfl) rfl (fun w hm => check_any v0 w (some ⟨b13, 0, none⟩) 2 [l, r] (by simp only [List.forall_mem_cons]; exact ⟨hll, hrl, fun _ h => by cases h⟩) (Rd.blk (hm.at (i := 0) rfl)) (by simp) (by simp)) ?_
  refine ow_val (val_assign rfl) rfl ?_
  refine ow_nil (into ?_)
  refine sw_seq ?_
  refine sw_region ?_
  refine ow_val (val_move rfl) rfl ?_
  refine ow_val (val_neq_int rfl rfl) rfl ?_
  refine ow_nil (into ?_)
  refine sw_true rfl (by simp [he]) ?_
  refine sw_seq ?_
  refine sw_region ?_
  refine ow_val (val_move rfl) rfl ?_
  refine ow_val (val_assign rfl) rfl ?_
  refine ow_val (val_assign rfl) rfl ?_
  refine ow_nil (into ?_)
  refine sw_ret (fun w hm => ?_)
  try dsimp only [thenP, blockP, Nat.beq, cond]
  exact ret_two _ _ rfl rfl rfl ⟨_, none, rfl, by rw [nodeP, if_neg he]; exact RowE.nil _ _, hm.forgetAll.place⟩

theorem nodeInput_ok (k : Nat) (h1 : 1 ≤ k) (h2 : k ≤ 32) (w : World) (l r : List UInt8) (hll : l.length = 32) (hrl : r.length = 32) (he : chk (k : Int) [l, r] = 0) : Calls Tryd.prog 58 #[vInt (k : Int), .agg ((l).map vU8).toArray, .agg ((r).map vU8).toArray] w fun en w' => ∃ u, en = .returned u ∧ ∃ s e', u = .tuple #[s, vInt ((chk (k : Int) [l, r] : Nat) : Int)] ∧ RowE s 5 1 (nodeP (k : Int) l r).length ((nodeP (k : Int) l r).map vU8) e' ∧ Mem w [] [e'] w' := by
  refine calls_of_sw (vs := [vInt (k : Int), .agg ((l).map vU8).toArray, .agg ((r).map vU8).toArray]) Tryd.func58 rfl Tryd.ntmps58 rfl (SW.begin ?_)
  refine sw_seq ?_
  refine sw_region ?_
  refine ow_new (acts_box rfl) rfl (fun b4 hb4 => ?_)
  refine ow_new (acts_box rfl) rfl (fun b5 hb5 => ?_)
  refine ow_val (val_assign rfl) rfl ?_
  refine ow_val (val_assign rfl) rfl ?_
  refine ow_nil (into ?_)
  refine sw_seq ?_
  refine sw_seq ?_
  refine sw_region ?_
  refine ow_val (val_move rfl) rfl ?_
  refine ow_val (val_load_all 1 rfl rfl Tryd.isAgg41 Tryd.sizeOf41 (by show (List.map vU8 l).length = _; rw [List.length_map]; exact hll)) rfl ?_
  refine ow_val (val_load_all 0 rfl rfl Tryd.isAgg41 Tryd.sizeOf41 (by show (List.map vU8 r).length = _; rw [List.length_map]; exact hrl)) rfl ?_
  refine ow_make (acts_buildSlice (cs := [l.map vU8, r.map vU8].flatten) Tryd.underlying22 Tryd.sizeOf41 zD rfl rfl (fill_aggs [l.map vU8, r.map vU8] (by decide) rfl (by simp only [List.forall_mem_cons, List.length_map]; exact ⟨hll, hrl, fun _ h => by cases h⟩))) rfl (fun b13 hb13 => ?_)
  refine ow_call_pure (v := vInt ((0 : Nat) : Int)) (callsTo Tryd.func80 rfl (by kernel_rfl) rfl) rfl (fun w hm => (by have h := check_any (k : Int) w (some ⟨b13, 0, none⟩) 2 [l, r] (by simp only [List.forall_mem_cons]; exact ⟨hll, hrl, fun _ h => by cases h⟩) (Rd.blk (hm.at (i := 0) rfl)) (by simp) (by simp); rw [he] at h; exact h)) ?_
  refine ow_val (val_assign rfl) rfl ?_
  refine ow_nil (into ?_)
  refine sw_seq ?_
  refine sw_region ?_
  refine ow_val (val_move rfl) rfl ?_
  refine ow_val ((val_neq_int rfl rfl).to (v' := .bool false) (congrArg Value.bool (decide_eq_false (fun h => h (by simp))))) rfl ?_
  refine ow_nil (into ?_)
  refine sw_false rfl (by simp) ?_
  refine sw_skip (into ?_)
  refine sw_seq ?_
  refine sw_region ?_
  refine ow_new (acts_alloc zW) rfl (fun b9 hb9 => ?_)
  refine ow_place ?_
  refine ow_nil (into ?_)
  refine sw_seq ?_
  refine sw_region ?_
  refine ow_call_wr (k := 1) (E := 5) (T := 115) (xs := (([] : List UInt8) ++ ([1] : List UInt8)).map vU8) 1 0 rfl rfl (by decide) (callsTo Tryd.func81 rfl (by kernel_rfl) rfl) rfl (fun w hm hs => wu8_any b9 none 0 0 ([] : List UInt8) none w hs (RowE.nil _ _) 1 (by omega)) (fun a18 c18 e18 hr18 => ?_)
  refine ow_nil (into ?_)
  refine sw_seq ?_
  refine sw_region ?_
  refine ow_val (val_move rfl) rfl ?_
  refine ow_val (val_slice_array_hi' k 0 rfl rfl Tryd.underlying41 Tryd.sizeOf5 rfl (by omega) rfl) rfl ?_
  refine ow_call_wr (k := 1 + k) (E := 5) (T := 115) (xs := ((([] : List UInt8) ++ ([1] : List UInt8)) ++ (l.take k)).map vU8) 1 0 rfl rfl (by decide) (callsTo Tryd.func82 rfl (by kernel_rfl) rfl) rfl (fun w hm hs => wraw_any b9 a18 1 c18 (([] : List UInt8) ++ ([1] : List UInt8)) e18 w hs hr18 (some ⟨b4, 0, none⟩) k _ (l.take k) (by rw [List.length_take, hll]; omega) ((Rd.blk (hm.at (i := 4) rfl)).take1 k) (fun _ => hm.ownNe (k := 4) (i := 1) (j := 0) rfl rfl rfl (by decide) (by decide)) (by omega) (by omega)) (fun a21 c21 e21 hr21 => ?_)
  refine ow_nil (into ?_)
  refine sw_seq ?_
  refine sw_region ?_
  refine ow_val (val_move rfl) rfl ?_
  refine ow_val (val_slice_array_hi' k 0 rfl rfl Tryd.underlying41 Tryd.sizeOf5 rfl (by omega) rfl) rfl ?_
  refine ow_call_wr (k := 1 + k + k) (E := 5) (T := 115) (xs := (((([] : List UInt8) ++ ([1] : List UInt8)) ++ (l.take k)) ++ (r.take k)).map vU8) 1 0 rfl rfl (by decide) (callsTo Tryd.func82 rfl (by kernel_rfl) rfl) rfl (fun w hm hs => wraw_any b9 a21 (1 + k) c21 ((([] : List UInt8) ++ ([1] : List UInt8)) ++ (l.take k)) e21 w hs hr21 (some ⟨b5, 0, none⟩) k _ (r.take k) (by rw [List.length_take, hrl]; omega) ((Rd.blk (hm.at (i := 3) rfl)).take1 k) (fun _ => hm.ownNe (k := 3) (i := 1) (j := 0) rfl rfl rfl (by decide) (by decide)) (by omega) (by omega)) (fun a24 c24 e24 hr24 => ?_)
  refine ow_nil (into ?_)
  refine sw_seq ?_
  refine sw_region ?_
  refine ow_call_row (E := 5) (size := 1) (k := 1 + k + k) (xs := (((([] : List UInt8) ++ ([1] : List UInt8)) ++ (l.take k)) ++ (r.take k)).map vU8) (callsTo Tryd.func83 rfl (by kernel_rfl) rfl) rfl (fun w hm => wbytes_any b9 _ _ _ _ _ w (hm.start2 (i := 1) (j := 0) rfl rfl (by decide)) hr24 (by omega)) (fun a25 c25 e25 hr25 => ?_)
  refine ow_val (val_assign rfl) rfl ?_
  refine ow_val (val_assign rfl) rfl ?_
  refine ow_nil (into ?_)
  exact sw_ret (fun w hm => ret_two _ _ rfl rfl rfl ⟨_, e25, by rw [he] <;> rfl, hr25.cong rfl (by rw [nodeP, if_pos he]; simp [nodeI, hll, hrl]; omega) (by rw [nodeP, if_pos he]; rfl), hm.only (.cons_cons _ (List.nil_sublist _))⟩)

theorem nodeInput_any (w : World) (v0 : Int) (l r : List UInt8) (hll : l.length = 32) (hrl : r.length = 32) : Calls Tryd.prog 58 #[vInt v0, .agg ((l).map vU8).toArray, .agg ((r).map vU8).toArray] w fun en w' => ∃ u, en = .returned u ∧ ∃ s e', u = .tuple #[s, vInt ((chk v0 [l, r] : Nat) : Int)] ∧ RowE s 5 1 (nodeP v0 l r).length ((nodeP v0 l r).map vU8) e' ∧ Mem w [] [e'] w' := by
  by_cases he : chk v0 [l, r] = 0
  · obtain ⟨k, rfl, h1, h2⟩ := wd_nat (chk_wd he); exact nodeInput_ok k h1 h2 w l r hll hrl he
  · exact nodeInput_err v0 w l r hll hrl he

theorem tab_ok (s : ByteArray) (hs : ((List.range 256).all fun k => s.data[k]? == some (UInt8.ofNat (onesF 8 k))) = true) (k : Nat) (hk : k < 256) : s.data[k]? = some (UInt8.ofNat (onesF 8 k)) := by
  have := List.all_eq_true.1 hs k (by simpa using hk)
  simpa using this
theorem ones_two (x : UInt16) : ((UInt8.ofNat (onesF 8 (x >>> 8).toNat) + UInt8.ofNat (onesF 8 (x &&& 255).toNat)).toNat : Int) = ((ones x : Nat) : Int) := by
  have h1 : (x >>> 8).toNat = x.toNat / 256 := by rw [UInt16.toNat_shiftRight]; show x.toNat >>> 8 = _; rw [Nat.shiftRight_eq_div_pow]
  have h2 : (x &&& 255).toNat = x.toNat % 256 := by rw [UInt16.toNat_and]; show x.toNat &&& (2 ^ 8 - 1) = _; rw [Nat.and_two_pow_sub_one_eq_mod]
  have h3 := onesF_split 8 8 (x.toNat % 256) (x.toNat / 256) (Nat.mod_lt _ (by decide))
  have h4 := onesF_le 8 (x.toNat / 256)
  have h5 := onesF_le 8 (x.toNat % 256)
  have h6 : x.toNat / 256 * 2 ^ 8 + x.toNat % 256 = x.toNat := by omega
  rw [h6] at h3
  rw [h1, h2, UInt8.toNat_add, UInt8.toNat_ofNat', UInt8.toNat_ofNat', ones]
  show _ = ((onesF (8 + 8) x.toNat : Nat) : Int)
  rw [h3]; omega

theorem kids_all (k : Nat) : ∀ (ks : List (List UInt8)), (∀ d ∈ ks, d.length = 32) → k ≤ 32 → (kidsB k ks).length = ks.length * k
  | [], _, _ => by simp [kidsB]
  | d :: r, h, hk => by
    have := kids_all k r (fun x hx => h x (by simp [hx])) hk
    have h1 := h d (by simp)
    simp only [kidsB, List.flatMap_cons, List.length_append, List.length_take, List.length_cons, Nat.succ_mul] at *; omega
theorem kids_len (k : Nat) (ks : List (List UInt8)) (hks : ∀ d ∈ ks, d.length = 32) (hk : k ≤ 32) (i : Nat) (hi : i < ks.length) : i * k + k ≤ ks.length * 32 := by
  have h1 : (i + 1) * k ≤ ks.length * 32 := Nat.mul_le_mul (by omega) hk
  rw [Nat.succ_mul] at h1; exact h1

theorem root_log' {l r : List UInt8} (size : UInt64) (hl : l.length = 32) : ((vU64 size :: (l.map vU8 ++ r.map vU8)).drop 1).take 32 = l.map vU8 := by
  rw [List.drop_succ_cons, List.drop_zero, List.take_append_of_le_length (by rw [List.length_map]; omega), List.take_of_length_le (by rw [List.length_map]; omega)]
theorem root_map' {l r : List UInt8} (size : UInt64) (hl : l.length = 32) (hr : r.length = 32) : ((vU64 size :: (l.map vU8 ++ r.map vU8)).drop 33).take 32 = r.map vU8 := by
  rw [List.drop_succ_cons, List.drop_left' (by rw [List.length_map]; exact hl), List.take_of_length_le (by rw [List.length_map]; omega)]
theorem root_log {l r : List UInt8} (size : UInt64) (hl : l.length = 32) : ((vU64 size :: (l.map vU8 ++ r.map vU8)).drop 1).take l.length = l.map vU8 := by rw [hl]; exact root_log' size hl
theorem root_map {l r : List UInt8} (size : UInt64) (hl : l.length = 32) (hr : r.length = 32) : ((vU64 size :: (l.map vU8 ++ r.map vU8)).drop 33).take r.length = r.map vU8 := by rw [hr]; exact root_map' size hl hr

theorem leaf_any (v0 : Int) (w : World) (hK : KW w) (ap : Option Addr) (m cp : Nat) (p : List UInt8) (hpm : p.length = m) (hr : Rd w ap (p.map vU8)) (hcp : m ≤ cp) (hb : m < 140737488355328) : Calls Tryd.prog 68 #[vInt v0, .slice ap m cp] w fun en w' => ∃ v, en = .returned v ∧ v = .tuple #[.agg (((digO v0 (leafI p) 0).1).map vU8).toArray, vInt ((digO v0 (leafI p) 0).2 : Int)] ∧ Mem w [] [] w' := by
  refine calls_of_sw (vs := [vInt v0, .slice ap m cp]) Tryd.func68 rfl Tryd.ntmps68 rfl (SW.begin ?_)
  refine sw_seq ?_
  refine sw_region ?_
  refine ow_new (acts_alloc zD) rfl (fun b4 hb4 => ?_)
  refine ow_val (val_assign rfl) rfl ?_
  refine ow_nil (into ?_)
  refine sw_seq ?_
  refine sw_region ?_
  refine ow_val (val_move rfl) rfl ?_
  refine ow_val (val_move rfl) rfl ?_
  refine ow_call_row (E := 5) (size := 1) (k := 1 + m) (xs := (leafI p).map vU8) (callsTo Tryd.func93 rfl (by kernel_rfl) rfl) rfl (fun w hm => leafI_any w _ m _ p hpm (hr.mem hm) (by omega) (by omega)) (fun a8 c8 e8 hr8 => ?_)
  refine ow_make (acts_buildSlice (cs := [.slice a8 (1 + m) c8]) Tryd.underlying128 Tryd.sizeOf81 Tryd.zeroValue81 rfl rfl (by kernel_rfl)) rfl (fun b9 hb9 => ?_)
  refine ow_call_pure (v := .tuple #[.agg (((digO v0 (leafI p) 0).1).map vU8).toArray, vInt ((digO v0 (leafI p) 0).2 : Int)]) (callsTo Tryd.func84 rfl (by kernel_rfl) rfl) rfl (fun w hm => dsum1_any v0 w (hK.mem0 hm) b9 (Rd.blk (hm.at (i := 0) rfl)) (leafI p) (by rw [leafI, List.length_append, hpm]; rfl) (hr8.rdAt hm (i := 1) rfl) hr8.le (by omega)) ?_
  refine ow_val (val_extract rfl rfl) rfl ?_
  refine ow_val (val_extract rfl rfl) rfl ?_
  refine ow_do_eq (does_store_all 2 rfl rfl rfl (one_u8s _) Tryd.sizeOf41 (by show (List.map vU8 ((digO v0 (leafI p) 0).1)).length = _; rw [List.length_map]; exact (digO_len _ _ _)) (by show (List.map vU8 zeros32).length = _; rw [List.length_map]; exact zeros32_len)) ?_
  refine ow_val (val_assign rfl) rfl ?_
  refine ow_nil (into ?_)
  exact sw_ret (fun w hm => ret_cell_two 2 rfl rfl rfl hm rfl Tryd.isAgg41 Tryd.sizeOf41 (by rw [List.length_map]; exact digO_len _ _ _) ⟨rfl, hm.forgetAll⟩)

theorem nolog_any (v0 : Int) (w : World) (hK : KW w) : Calls Tryd.prog 63 #[vInt v0] w fun en w' => ∃ v, en = .returned v ∧ v = .tuple #[.agg (((digO v0 [] 0).1).map vU8).toArray, vInt ((digO v0 [] 0).2 : Int)] ∧ Mem w [] [] w' := by
  refine calls_of_sw (vs := [vInt v0]) Tryd.func63 rfl Tryd.ntmps63 rfl (SW.begin ?_)
  refine sw_seq ?_
  refine sw_region ?_
  refine ow_new (acts_alloc zD) rfl (fun b2 hb2 => ?_)
  refine ow_val (val_assign rfl) rfl ?_
  refine ow_nil (into ?_)
  refine sw_seq ?_
  refine sw_region ?_
  refine ow_val (val_move rfl) rfl ?_
  refine ow_call_pure (v := .tuple #[.agg (((digO v0 [] 0).1).map vU8).toArray, vInt ((digO v0 [] 0).2 : Int)]) (callsTo Tryd.func84 rfl (by kernel_rfl) rfl) rfl (fun w hm => dsum0_any v0 w (hK.mem0 hm)) ?_
  refine ow_val (val_extract rfl rfl) rfl ?_
  refine ow_val (val_extract rfl rfl) rfl ?_
  refine ow_do_eq (does_store_all 0 rfl rfl rfl (one_u8s _) Tryd.sizeOf41 (by show (List.map vU8 ((digO v0 [] 0).1)).length = _; rw [List.length_map]; exact (digO_len _ _ _)) (by show (List.map vU8 zeros32).length = _; rw [List.length_map]; exact zeros32_len)) ?_
  refine ow_val (val_assign rfl) rfl ?_
  refine ow_nil (into ?_)
  exact sw_ret (fun w hm => ret_cell_two 0 rfl rfl rfl hm rfl Tryd.isAgg41 Tryd.sizeOf41 (by rw [List.length_map]; exact digO_len _ _ _) ⟨rfl, hm.forgetAll⟩)

theorem nodeP_len (v0 : Int) (l r : List UInt8) (hl : l.length = 32) (hr : r.length = 32) : (nodeP v0 l r).length ≤ 65 := by
  unfold nodeP
  by_cases h : chk v0 [l, r] = 0
  · rw [if_pos h]; simp [nodeI, hl, hr]; omega
  · rw [if_neg h]; simp
theorem rootP_len (v0 : Int) (size : UInt64) (l r : List UInt8) (hl : l.length = 32) (hr : r.length = 32) : (rootP v0 size l r).length ≤ 73 := by
  unfold rootP
  by_cases h : chk v0 [l, r] = 0
  · rw [if_pos h]; simp [rootI, hl, hr, be_len]; omega
  · rw [if_neg h]; simp
theorem branchP_len (v0 : Int) (bm : UInt16) (ks : List (List UInt8)) (hks : ∀ d ∈ ks, d.length = 32) : (branchP v0 bm ks).length ≤ 515 := by
  unfold branchP
  by_cases h : chkB v0 bm ks = 0
  · rw [if_pos h]
    have h0 : chk v0 ks = 0 := by
      cases hc : chk v0 ks with
      | zero => rfl
      | succ n => simp [chkB, hc] at h
    obtain ⟨k, rfl, h1, h2⟩ := wd_nat (chk_wd h0)
    have h3 : ones bm = ks.length := Classical.byContradiction fun h4 => by rw [chkB, if_neg (by simp [h0]), if_pos (.inr h4)] at h; cases h
    have h5 := onesF_le 16 bm.toNat
    have h6 : ones bm ≤ 16 := h5
    have h7 : ks.length * k ≤ 512 := Nat.le_trans (Nat.mul_le_mul (show ks.length ≤ 16 by omega) h2) (by decide)
    simp only [branchI, Int.toNat_natCast, List.length_append, be_len, kids_all k ks hks h2, List.length_cons, List.length_nil]; omega
  · rw [if_neg h]; simp

theorem node_any (w : World) (hK : KW w) (v0 : Int) (l r : List UInt8) (hll : l.length = 32) (hrl : r.length = 32) : Calls Tryd.prog 29 #[vInt v0, .agg ((l).map vU8).toArray, .agg ((r).map vU8).toArray] w fun en w' => ∃ v, en = .returned v ∧ v = .tuple #[.agg (((digO v0 (nodeP v0 l r) (chk v0 [l, r])).1).map vU8).toArray, vInt ((digO v0 (nodeP v0 l r) (chk v0 [l, r])).2 : Int)] ∧ Mem w [] [] w' := by
  have hNP := nodeP_len v0 l r hll hrl
  refine calls_of_sw (vs := [vInt v0, .agg ((l).map vU8).toArray, .agg ((r).map vU8).toArray]) Tryd.func29 rfl Tryd.ntmps29 rfl (SW.begin ?_)
  refine sw_seq ?_
  refine sw_region ?_
  refine ow_new (acts_box rfl) rfl (fun b4 hb4 => ?_)
  refine ow_new (acts_box rfl) rfl (fun b5 hb5 => ?_)
  refine ow_new (acts_alloc zD) rfl (fun b6 hb6 => ?_)
  refine ow_val (val_assign rfl) rfl ?_
  refine ow_nil (into ?_)
  refine sw_seq ?_
  refine sw_region ?_
  refine ow_val (val_move rfl) rfl ?_
  refine ow_val (val_load_all 2 rfl rfl Tryd.isAgg41 Tryd.sizeOf41 (by show (List.map vU8 l).length = _; rw [List.length_map]; exact hll)) rfl ?_
  refine ow_val (val_load_all 1 rfl rfl Tryd.isAgg41 Tryd.sizeOf41 (by show (List.map vU8 r).length = _; rw [List.length_map]; exact hrl)) rfl ?_
  refine ow_call_row2 (E := 5) (size := 1) (k := (nodeP v0 l r).length) (xs := (nodeP v0 l r).map vU8) (x := vInt ((chk v0 [l, r] : Nat) : Int)) (callsTo Tryd.func58 rfl (by kernel_rfl) rfl) rfl (fun w hm => nodeInput_any w v0 l r hll hrl) (fun a14 c14 e14 hr14 => ?_)
  refine ow_val (val_move rfl) rfl ?_
  refine ow_val (val_extract rfl rfl) rfl ?_
  refine ow_val (val_extract rfl rfl) rfl ?_
  refine ow_val (val_assign rfl) rfl ?_
  refine ow_val (val_assign rfl) rfl ?_
  refine ow_nil (into ?_)
  refine sw_seq ?_
  refine sw_region ?_
  refine ow_val (val_move rfl) rfl ?_
  refine ow_val (val_move rfl) rfl ?_
  refine ow_val (val_move rfl) rfl ?_
  refine ow_call_pure (callsTo Tryd.func59 rfl (by kernel_rfl) rfl) rfl (fun w hm => of_any v0  w (hK.mem0 hm) _ ((nodeP v0 l r).length) _ (nodeP v0 l r) rfl (hr14.rdAt hm (i := 0) rfl) hr14.le (by omega) (chk v0 [l, r])) ?_
  refine ow_val (val_extract rfl rfl) rfl ?_
  refine ow_val (val_extract rfl rfl) rfl ?_
  refine ow_do_eq (does_store_all 1 rfl rfl rfl (one_u8s _) Tryd.sizeOf41 (by show (List.map vU8 ((digO v0 (nodeP v0 l r) (chk v0 [l, r])).1)).length = _; rw [List.length_map]; exact (digO_len _ _ _)) (by show (List.map vU8 zeros32).length = _; rw [List.length_map]; exact zeros32_len)) ?_
  refine ow_val (val_assign rfl) rfl ?_
  refine ow_nil (into ?_)
  exact sw_ret (fun w hm => ret_cell_two 1 rfl rfl rfl hm rfl Tryd.isAgg41 Tryd.sizeOf41 (by rw [List.length_map]; exact digO_len _ _ _) ⟨rfl, hm.forgetAll⟩)

theorem root_size {l r : List UInt8} (size : UInt64) (hl : l.length = 32) (hr : r.length = 32) : (vU64 size :: (l.map vU8 ++ r.map vU8)).length = 65 := by simp [hl, hr]
end Go.Proofs.YtcdponddgnkecaaDoor
