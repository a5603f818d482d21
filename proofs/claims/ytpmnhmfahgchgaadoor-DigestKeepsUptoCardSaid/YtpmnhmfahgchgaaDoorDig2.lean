import Derived.Test.YtpmnhmfahgchgaaDoorDig1
import Derived.Test.YtpmnhmfahgchgaaDoorProg
set_option linter.unusedVariables false
set_option linter.unusedSimpArgs false
namespace Go.Proofs.YtpmnhmfahgchgaaDoor
open Go.Sx Go.Ps
theorem zD (w : World) : (zeroValue 27).run Tryd.prog w = .ok (.agg (zeros32.map vU8).toArray) w := by kernel_rfl
theorem cut_splice (k : Nat) (d : List UInt8) (hd : d.length = 32) (hk : k ≤ 32) : (zeros32.map vU8).take 0 ++ ((d.take k).map vU8).take (k * 1) ++ (zeros32.map vU8).drop (0 + k * 1) = (cutw k d).map vU8 := by
  simp only [zeros32, cutw, List.map_append, List.map_replicate, List.drop_replicate, List.take_zero, List.nil_append, Nat.mul_one, Nat.zero_add]
  rw [List.take_of_length_le (by simp; omega)]

theorem width_any (v0 : Int) (w : World) : Calls Tryd.prog 44 #[vInt v0] w fun e w' => ∃ v, e = .returned v ∧ v = .bool (wd v0) ∧ Mem w [] [] w' := by
  refine calls_of_sw (vs := [vInt v0]) Tryd.func44 rfl Tryd.ntmps44 rfl (SW.begin ?_)
  refine sw_seq ?_
  refine sw_region ?_
  refine ow_val (val_assign rfl) rfl ?_   -- 2
  refine ow_nil (into ?_)
  refine sw_seq ?_
  refine sw_region ?_
  refine ow_val (val_move rfl) rfl ?_   -- 3
  by_cases h1 : 1 ≤ v0
  · -- yes
    refine ow_val ((val_geq_int rfl rfl).to (congrArg Value.bool (decide_eq_true (by omega)))) rfl ?_   -- 4
    refine ow_val (val_move rfl) rfl ?_   -- 5
    refine ow_guard_yes rfl rfl rfl ?_
    refine ow_val (val_move rfl) rfl ?_   -- 6
    refine ow_guard_yes rfl rfl rfl ?_
    refine ow_val (val_leq_int rfl rfl) rfl ?_   -- 7
    refine ow_val (val_pick_true rfl rfl) rfl ?_   -- 8
    refine ow_val (val_assign rfl) rfl ?_   -- 2
    refine ow_nil (into ?_)
    exact sw_ret (fun w hm => ret_one _ rfl rfl ⟨by simp [wd, h1] <;> rfl, hm⟩)
  · -- no
    refine ow_val ((val_geq_int rfl rfl).to (congrArg Value.bool (decide_eq_false (by omega)))) rfl ?_   -- 4
    refine ow_val (val_move rfl) rfl ?_   -- 5
    first | refine ow_guard_no rfl rfl rfl rfl rfl ?_ | refine ow_guard_none rfl rfl rfl rfl rfl ?_
    first | refine ow_guard_no rfl rfl rfl rfl rfl ?_ | refine ow_guard_none rfl rfl rfl rfl rfl ?_
    refine ow_val (val_pick_false rfl rfl) rfl ?_   -- 8
    refine ow_val (val_assign rfl) rfl ?_   -- 2
    refine ow_nil (into ?_)
    exact sw_ret (fun w hm => ret_one _ rfl rfl ⟨by simp [wd, h1] <;> rfl, hm⟩)

theorem cut_any (k : Nat) (hk : k ≤ 32) (d : List UInt8) (hd : d.length = 32) (w : World) : Calls Tryd.prog 45 #[vInt (k : Int), .agg ((d).map vU8).toArray] w fun e w' => ∃ v, e = .returned v ∧ v = .agg ((cutw k d).map vU8).toArray ∧ Mem w [] [] w' := by
  refine calls_of_sw (vs := [vInt (k : Int), .agg ((d).map vU8).toArray]) Tryd.func45 rfl Tryd.ntmps45 rfl (SW.begin ?_)
  refine sw_seq ?_
  refine sw_region ?_
  refine ow_new (acts_box rfl) rfl (fun b3 hb3 => ?_)   -- 3
  refine ow_new (acts_alloc zD) rfl (fun b4 hb4 => ?_)   -- 4
  refine ow_nil (into ?_)
  refine sw_seq ?_
  refine sw_region ?_
  refine ow_new (acts_alloc zD) rfl (fun b5 hb5 => ?_)   -- 5
  refine ow_nil (into ?_)
  refine sw_seq ?_
  refine sw_region_lex _ [4] [(0, 0), (1, 0), (2, 0), (3, 0), (4, 2)] (by kernel_rfl) (by kernel_rfl) (fun _ _ _ h => h) (fun _ h => h) (fun _ h => h.drawn _) ?_
  refine lw_pure rfl (val_move rfl) rfl ?_   -- 6
  refine lw_pure rfl (val_slice_array_hi' k 0 rfl rfl Tryd.underlying27 Tryd.sizeOf5 rfl (by omega) rfl) rfl ?_   -- 7
  refine lw_pure rfl (val_move rfl) rfl ?_   -- 8
  refine lw_pure rfl (val_slice_array_hi' k 0 rfl rfl Tryd.underlying27 Tryd.sizeOf5 rfl (by omega) rfl) rfl ?_   -- 9
  refine lw_act_eq rfl (acts_copy_to (size := 1) k ((cutw k d).map vU8) 0 rfl rfl rfl Tryd.underlying25 Tryd.sizeOf5 (fun w hm => (Rd.blk (hm.at (i := 2) rfl)).take1 k) (by simp; omega) (one_u8s _) (by show 0 + k * 1 ≤ (zeros32.map vU8).length; rw [List.length_map, zeros32_len]; omega) (by omega) (cut_splice k d hd (by omega))) rfl (fun h => nomatch h) ?_
  refine lw_nil (into ?_)
  refine sw_seq ?_
  refine sw_region ?_
  refine ow_val (val_load_all 0 rfl rfl Tryd.isAgg27 Tryd.sizeOf27 (by show (List.map vU8 (cutw k d)).length = _; rw [List.length_map]; exact (cutw_len hd (by omega)))) rfl ?_   -- 11
  refine ow_do_eq (does_store_all 1 rfl rfl rfl (one_u8s _) Tryd.sizeOf27 (by show (List.map vU8 (cutw k d)).length = _; rw [List.length_map]; exact (cutw_len hd (by omega))) (by show (List.map vU8 zeros32).length = _; rw [List.length_map]; exact zeros32_len)) ?_
  refine ow_nil (into ?_)
  exact sw_ret (fun w hm => ret_cell 1 rfl rfl hm rfl Tryd.isAgg27 Tryd.sizeOf27 (by rw [List.length_map]; exact cutw_len hd (by omega)) ⟨rfl, hm.forgetAll⟩)

theorem width_is {v0 : Int} {b : Bool} (h : wd v0 = b) (w : World) : Calls Tryd.prog 44 #[vInt v0] w fun e w' => ∃ v, e = .returned v ∧ v = .bool b ∧ Mem w [] [] w' := by rw [← h]; exact width_any v0 w

theorem form_yes (k : Nat) (hw : wd (k : Int) = true) (hk : k ≤ 32) (d : List UInt8) (hd : d.length = 32) (w : World) : Calls Tryd.prog 15 #[vInt (k : Int), .agg ((d).map vU8).toArray] w fun e w' => ∃ v, e = .returned v ∧ v = .bool (fm (k : Int) d) ∧ Mem w [] [] w' := by
  refine calls_of_sw (vs := [vInt (k : Int), .agg ((d).map vU8).toArray]) Tryd.func15 rfl Tryd.ntmps15 rfl (SW.begin ?_)
  refine sw_seq ?_
  refine sw_region ?_
  refine ow_new (acts_box rfl) rfl (fun b3 hb3 => ?_)   -- 3
  refine ow_val (val_assign rfl) rfl ?_   -- 4
  refine ow_nil (into ?_)
  refine sw_seq ?_
  refine sw_region_lex _ [] [(0, 0), (1, 2), (2, 0), (3, 0), (4, 1), (6, 1), (5, 2), (7, 0), (8, 0), (9, 0)] (by kernel_rfl) (by kernel_rfl) (fun _ _ _ h => h) (fun _ h => h) (fun _ h => h.drawn _) ?_
  refine lw_pure rfl (val_move rfl) rfl ?_   -- 5
  refine lw_call_pure (v := .bool true) rfl (callsTo Tryd.func44 rfl (by kernel_rfl) rfl) rfl (fun w hm => width_is hw w) ?_   -- 6
  refine lw_pure rfl (val_move rfl) rfl ?_   -- 7
  refine lwg_pure rfl (wg rfl rfl) (val_move rfl) rfl ?_   -- 8
  refine lwg_held rfl (wg rfl rfl) (val_load_all 0 rfl rfl Tryd.isAgg27 Tryd.sizeOf27 (by show (List.map vU8 d).length = _; rw [List.length_map]; exact hd)) rfl ?_   -- 9
  refine lwg_held rfl (wg rfl rfl) (val_load_all 0 rfl rfl Tryd.isAgg27 Tryd.sizeOf27 (by show (List.map vU8 d).length = _; rw [List.length_map]; exact hd)) rfl ?_   -- 11
  refine lwg_call_pure rfl (wg rfl rfl) (callsTo Tryd.func45 rfl (by kernel_rfl) rfl) rfl (fun w hm => cut_any k (by omega) d hd w) ?_   -- 10
  refine lwg_pure rfl (wg rfl rfl) (val_eql_u8s rfl rfl Tryd.eqGuardType27 Tryd.underlying27 Tryd.underlying5 Tryd.sizeOf5 Tryd.isAgg5 (cutw_len hd (by omega)) hd) rfl ?_   -- 12
  refine lw_pure rfl (val_pick_true rfl rfl) rfl ?_   -- 13
  refine lw_pure rfl (val_assign rfl) rfl ?_   -- 4
  refine lw_nil (into ?_)
  exact sw_ret (fun w hm => ret_one _ rfl rfl ⟨by simp [fm, hw], hm.forgetAll⟩)

theorem form_no (v0 : Int) (hw : wd v0 = false) (d : List UInt8) (hd : d.length = 32) (w : World) : Calls Tryd.prog 15 #[vInt v0, .agg ((d).map vU8).toArray] w fun e w' => ∃ v, e = .returned v ∧ v = .bool (fm v0 d) ∧ Mem w [] [] w' := by
  refine calls_of_sw (vs := [vInt v0, .agg ((d).map vU8).toArray]) Tryd.func15 rfl Tryd.ntmps15 rfl (SW.begin ?_)
  refine sw_seq ?_
  refine sw_region ?_
  refine ow_new (acts_box rfl) rfl (fun b3 hb3 => ?_)   -- 3
  refine ow_val (val_assign rfl) rfl ?_   -- 4
  refine ow_nil (into ?_)
  refine sw_seq ?_
  refine sw_region_lex _ [] [(0, 0), (1, 2), (2, 0), (3, 0), (4, 0), (5, 0), (6, 0), (7, 0), (8, 0), (9, 0)] (by kernel_rfl) (by kernel_rfl) (fun _ _ _ h => h) (fun _ h => h) (fun _ h => h.drawn _) ?_
  refine lw_pure rfl (val_move rfl) rfl ?_   -- 5
  refine lw_call_pure (v := .bool false) rfl (callsTo Tryd.func44 rfl (by kernel_rfl) rfl) rfl (fun w hm => width_is hw w) ?_   -- 6
  refine lw_pure rfl (val_move rfl) rfl ?_   -- 7
  first | refine lwg_no rfl (ng1 rfl rfl) rfl ?_ | refine lwg_no rfl (ng2 rfl rfl) rfl ?_   -- 8
  first | refine lwg_no rfl (ng1 rfl rfl) rfl ?_ | refine lwg_no rfl (ng2 rfl rfl) rfl ?_   -- 9
  first | refine lwg_no rfl (ng1 rfl rfl) rfl ?_ | refine lwg_no rfl (ng2 rfl rfl) rfl ?_   -- 10
  first | refine lwg_no rfl (ng1 rfl rfl) rfl ?_ | refine lwg_no rfl (ng2 rfl rfl) rfl ?_   -- 11
  first | refine lwg_no rfl (ng1 rfl rfl) rfl ?_ | refine lwg_no rfl (ng2 rfl rfl) rfl ?_   -- 12
  refine lw_pure rfl (val_pick_false rfl rfl) rfl ?_   -- 13
  refine lw_pure rfl (val_assign rfl) rfl ?_   -- 4
  refine lw_nil (into ?_)
  exact sw_ret (fun w hm => ret_one _ rfl rfl ⟨by simp [fm, hw] <;> rfl, hm.forgetAll⟩)

theorem form_any (v0 : Int) (d : List UInt8) (hd : d.length = 32) (w : World) : Calls Tryd.prog 15 #[vInt v0, .agg ((d).map vU8).toArray] w fun e w' => ∃ v, e = .returned v ∧ v = .bool (fm v0 d) ∧ Mem w [] [] w' := by
  cases hw : wd v0 with
  | true => obtain ⟨k, rfl, h1, h2⟩ := wd_nat hw; exact form_yes k hw h2 d hd w
  | false => exact form_no v0 hw d hd w
theorem form_is {v0 : Int} {d : List UInt8} {b : Bool} (h : fm v0 d = b) (hd : d.length = 32) (w : World) : Calls Tryd.prog 15 #[vInt v0, .agg ((d).map vU8).toArray] w fun e w' => ∃ v, e = .returned v ∧ v = .bool b ∧ Mem w [] [] w' := by rw [← h]; exact form_any v0 d hd w

theorem check_no (v0 : Int) (hw : wd v0 = false) (w : World) (a : Option Addr) (c : Nat) (ks : List (List UInt8)) : Calls Tryd.prog 82 #[vInt v0, .slice a ks.length c] w fun e w' => ∃ v, e = .returned v ∧ v = vInt ((chk v0 ks : Nat) : Int) ∧ Mem w [] [] w' := by
  refine calls_of_sw (vs := [vInt v0, .slice a ks.length c]) Tryd.func82 rfl Tryd.ntmps82 rfl (SW.begin ?_)
  refine sw_seq ?_
  refine sw_region ?_
  refine ow_val (val_assign rfl) rfl ?_   -- 4
  refine ow_nil (into ?_)
  refine sw_seq ?_
  refine sw_seq ?_
  refine sw_region ?_
  refine ow_val (val_move rfl) rfl ?_   -- 7
  refine ow_call_pure (v := .bool false) (callsTo Tryd.func44 rfl (by kernel_rfl) rfl) rfl (fun w hm => width_is hw w) ?_   -- 8
  refine ow_val (val_not rfl) rfl ?_   -- 9
  refine ow_nil (into ?_)
  refine sw_true rfl rfl ?_
  refine sw_seq ?_
  refine sw_region ?_
  refine ow_val (val_assign rfl) rfl ?_   -- 4
  refine ow_nil (into ?_)
  refine sw_ret (fun w hm => ?_)
  try dsimp only [thenP, blockP, Nat.beq, cond]
  exact ret_one _ rfl rfl ⟨by rw [chk_no hw]; rfl, hm.forgetAll⟩

theorem check_yes (v0 : Int) (hw : wd v0 = true) (w : World) (a : Option Addr) (c : Nat) (ks : List (List UInt8)) (hks : ∀ d ∈ ks, d.length = 32) (hr : Rd w a (ks.flatMap fun d => d.map vU8)) (hc : ks.length ≤ c) (hl : ks.length < 9223372036854775808) : Calls Tryd.prog 82 #[vInt v0, .slice a ks.length c] w fun e w' => ∃ v, e = .returned v ∧ v = vInt ((chk v0 ks : Nat) : Int) ∧ Mem w [] [] w' := by
  refine calls_of_sw (vs := [vInt v0, .slice a ks.length c]) Tryd.func82 rfl Tryd.ntmps82 rfl (SW.begin ?_)
  refine sw_seq ?_
  refine sw_region ?_
  refine ow_val (val_assign rfl) rfl ?_   -- 4
  refine ow_nil (into ?_)
  refine sw_seq ?_
  refine sw_seq ?_
  refine sw_region ?_
  refine ow_val (val_move rfl) rfl ?_   -- 7
  refine ow_call_pure (v := .bool true) (callsTo Tryd.func44 rfl (by kernel_rfl) rfl) rfl (fun w hm => width_is hw w) ?_   -- 8
  refine ow_val (val_not rfl) rfl ?_   -- 9
  refine ow_nil (into ?_)
  refine sw_false rfl rfl ?_
  refine sw_skip (into ?_)
  refine sw_seq ?_
  refine sw_seq ?_
  refine sw_region ?_
  refine ow_val (val_move rfl) rfl ?_   -- 10
  refine ow_val (val_len rfl Tryd.underlying45) rfl ?_   -- 11
  refine ow_val (val_move rfl) rfl ?_   -- 12
  refine ow_nil (into ?_)
  refine sw_block ?_
  refine sw_loop (σ := Nat) (fun i => i ≤ ks.length ∧ ∀ j, j < i → fm v0 (ks.getD j default) = true) (fun i => [(12, vInt (i : Int)), (11, vInt (ks.length : Int)), (10, .slice a ks.length c), (0, vInt v0)]) (fun _ => Mem w [] []) (fun i => ks.length - i) 0 ⟨Nat.zero_le _, fun j h => absurd h (Nat.not_lt_zero j)⟩ ⟨rfl, rfl, rfl, rfl, trivial⟩ (fun w hm => hm.forgetAll) ?_
  rintro i ⟨hi, hall⟩
  refine sw_seq ?_
  refine sw_region ?_
  refine ow_val (val_lss_int rfl rfl) rfl ?_   -- 13
  refine ow_nil (into ?_)
  refine sw_seq ?_
  refine sw_if rfl (fun h0 => ?_) (fun h0 => ?_)
  · -- then
    obtain ⟨ba, oa, rfl⟩ := hr.addr (by rw [flatMap_size ks (fun x hx => by rw [List.length_map]; exact hks x hx)]; omega)
    refine sw_skip (into ?_)
    refine sw_seq ?_
    refine sw_block ?_
    refine sw_seq ?_
    refine sw_region ?_
    refine ow_val (val_indexAddr_slice (i) (oa + i * 32) rfl rfl Tryd.underlying45 Tryd.sizeOf27 (by omega) (by omega) (by omega)) rfl ?_   -- 14
    refine ow_val (val_load_elem (cells := fun d => d.map vU8) (l := ks) (o := oa) (i := i) rfl Tryd.isAgg27 Tryd.sizeOf27 (fun x hx => by rw [List.length_map]; exact hks x hx) (by omega) (by omega) (fun w' hm => hr.mem hm)) rfl ?_   -- 15
    refine ow_new (acts_alloc zD) rfl (fun b6 hb6 => ?_)   -- 6
    refine ow_do_eq (does_store_all 0 rfl rfl rfl (one_u8s _) Tryd.sizeOf27 (by show (List.map vU8 (ks.getD i default)).length = _; rw [List.length_map]; exact (hks _ (getD_mem (by omega)))) (by show (List.map vU8 zeros32).length = _; rw [List.length_map]; exact zeros32_len)) ?_
    refine ow_nil (into ?_)
    refine sw_seq ?_
    refine sw_region ?_
    refine ow_val (val_move rfl) rfl ?_   -- 16
    refine ow_val (val_load_all 0 rfl rfl Tryd.isAgg27 Tryd.sizeOf27 (by show (List.map vU8 (ks.getD i default)).length = _; rw [List.length_map]; exact (hks _ (getD_mem (by omega))))) rfl ?_   -- 17
    refine ow_call_pure (callsTo Tryd.func15 rfl (by kernel_rfl) rfl) rfl (fun w hm => form_any v0 (ks.getD i default) (hks _ (getD_mem (by omega))) w) ?_   -- 18
    refine ow_val (val_not rfl) rfl ?_   -- 19
    refine ow_nil (into ?_)
    refine sw_cond rfl (fun hf0 => ?_) (fun hf0 => ?_)
    · -- then
      have hf : fm v0 (ks.getD i default) = false := by simpa using hf0
      refine sw_seq ?_
      refine sw_region ?_
      refine ow_val (val_assign rfl) rfl ?_   -- 4
      refine ow_nil (into ?_)
      refine sw_ret (fun w hm => ?_)
      try dsimp only [thenP, blockP, Nat.beq, cond]
      exact ret_one _ rfl rfl ⟨by rw [chk_bad hw (getD_mem (i := i) (by omega)) (by simpa using hf)]; rfl, hm.forgetAll⟩
    · -- else
      have hf : fm v0 (ks.getD i default) = true := by simpa using hf0
      refine sw_skip (into ?_)
      refine sw_region ?_
      refine ow_val (val_add_int ((i + 1 : Nat) : Int) rfl rfl (by omega) (by omega)) rfl ?_   -- 20
      refine ow_val (val_move rfl) rfl ?_   -- 12
      exact ow_nil (fun w hm => ⟨i + 1, ⟨by omega, fun j hj => (Nat.lt_or_ge j i).elim (hall j) (fun h => (show i = j by omega) ▸ hf)⟩, by omega, ⟨rfl, rfl, rfl, rfl, trivial⟩, hm.forgetAll⟩)
  · -- else
    refine sw_exit (into ?_)
    refine sw_seq ?_
    refine sw_region ?_
    refine ow_val (val_assign rfl) rfl ?_   -- 4
    refine ow_nil (into ?_)
    exact sw_ret (fun w hm => ret_one _ rfl rfl ⟨by rw [chk_all hw (fun d hd => by obtain ⟨j, hj⟩ := List.mem_iff_getElem?.1 hd; have hj2 := (List.getElem?_eq_some_iff.1 hj).1; have h9 := hall j (by omega); simpa [List.getD_eq_getElem?_getD, hj] using h9)]; rfl, hm⟩)

theorem check_any (v0 : Int) (w : World) (a : Option Addr) (c : Nat) (ks : List (List UInt8)) (hks : ∀ d ∈ ks, d.length = 32) (hr : Rd w a (ks.flatMap fun d => d.map vU8)) (hc : ks.length ≤ c) (hl : ks.length < 9223372036854775808) : Calls Tryd.prog 82 #[vInt v0, .slice a ks.length c] w fun e w' => ∃ v, e = .returned v ∧ v = vInt ((chk v0 ks : Nat) : Int) ∧ Mem w [] [] w' := by
  cases hw : wd v0 with
  | true => exact check_yes v0 hw w a c ks hks hr hc hl
  | false => exact check_no v0 hw w a c ks

theorem dsum_no (v0 : Int) (hw : wd v0 = false) (w : World) (a : Option Addr) (c n : Nat) (p : List UInt8) : Calls Tryd.prog 17 #[vInt v0, .slice a n c] w fun en w' => ∃ v, en = .returned v ∧ v = .tuple #[.agg (((digO v0 p 0).1).map vU8).toArray, vInt ((digO v0 p 0).2 : Int)] ∧ Mem w [] [] w' := by
  refine calls_of_sw (vs := [vInt v0, .slice a n c]) Tryd.func17 rfl Tryd.ntmps17 rfl (SW.begin ?_)
  refine sw_seq ?_
  refine sw_region ?_
  refine ow_new (acts_alloc zD) rfl (fun b4 hb4 => ?_)   -- 4
  refine ow_val (val_assign rfl) rfl ?_   -- 5
  refine ow_nil (into ?_)
  refine sw_seq ?_
  refine sw_seq ?_
  refine sw_region ?_
  refine ow_val (val_move rfl) rfl ?_   -- 9
  refine ow_call_pure (v := .bool false) (callsTo Tryd.func44 rfl (by kernel_rfl) rfl) rfl (fun w hm => width_is hw w) ?_   -- 10
  refine ow_val (val_not rfl) rfl ?_   -- 11
  refine ow_nil (into ?_)
  refine sw_true rfl rfl ?_
  refine sw_seq ?_
  refine sw_region ?_
  refine ow_val (val_build' (cs := zeros32.map vU8) rfl (by kernel_rfl)) rfl ?_   -- 12
  refine ow_do_eq (does_store_all 0 rfl rfl rfl (one_u8s _) Tryd.sizeOf27 (by show (List.map vU8 zeros32).length = _; rw [List.length_map]; exact zeros32_len) (by show (List.map vU8 zeros32).length = _; rw [List.length_map]; exact zeros32_len)) ?_
  refine ow_val (val_assign rfl) rfl ?_   -- 5
  refine ow_nil (into ?_)
  refine sw_ret (fun w hm => ?_)
  try dsimp only [thenP, blockP, Nat.beq, cond]
  exact ret_cell_two 0 rfl rfl rfl hm rfl Tryd.isAgg27 Tryd.sizeOf27 rfl ⟨by rw [digO_no hw]; rfl, hm.forgetAll⟩

theorem dsum_yes (k : Nat) (hw : wd (k : Int) = true) (h1 : 1 ≤ k) (h2 : k ≤ 32) (w : World) (hK : KW w) (a : Option Addr) (c : Nat) (ps : List (Sl UInt8)) (hr : Rd w a (ps.map Sl.v)) (hps : ∀ s ∈ ps, Rd w s.a (s.xs.map vU8) ∧ s.xs.length ≤ s.c ∧ s.xs.length < 9223372036854775808) (hc : ps.length ≤ c) (hl : ps.length < 9223372036854775808) : Calls Tryd.prog 17 #[vInt (k : Int), .slice a ps.length c] w fun en w' => ∃ v, en = .returned v ∧ v = .tuple #[.agg (((digO (k : Int) (ps.flatMap (·.xs)) 0).1).map vU8).toArray, vInt ((digO (k : Int) (ps.flatMap (·.xs)) 0).2 : Int)] ∧ Mem w [] [] w' := by
  refine calls_of_sw (vs := [vInt (k : Int), .slice a ps.length c]) Tryd.func17 rfl Tryd.ntmps17 rfl (SW.begin ?_)
  refine sw_seq ?_
  refine sw_region ?_
  refine ow_new (acts_alloc zD) rfl (fun b4 hb4 => ?_)   -- 4
  refine ow_val (val_assign rfl) rfl ?_   -- 5
  refine ow_nil (into ?_)
  refine sw_seq ?_
  refine sw_seq ?_
  refine sw_region ?_
  refine ow_val (val_move rfl) rfl ?_   -- 9
  refine ow_call_pure (v := .bool true) (callsTo Tryd.func44 rfl (by kernel_rfl) rfl) rfl (fun w hm => width_is hw w) ?_   -- 10
  refine ow_val (val_not rfl) rfl ?_   -- 11
  refine ow_nil (into ?_)
  refine sw_false rfl rfl ?_
  refine sw_skip (into ?_)
  refine sw_seq ?_
  refine sw_region ?_
  refine ow_call_blk (fun b => .pointer (some ⟨b, 0, none⟩)) (callsTo Tryd.func47 rfl (by kernel_rfl) rfl) rfl (fun w hm => newS_any w) (fun b13 hb13 => ?_)   -- 13
  refine ow_val (val_assign rfl) rfl ?_   -- 6
  refine ow_nil (into ?_)
  refine sw_seq ?_
  refine sw_seq ?_
  refine sw_region ?_
  refine ow_val (val_move rfl) rfl ?_   -- 14
  refine ow_val (val_len rfl Tryd.underlying32) rfl ?_   -- 15
  refine ow_val (val_move rfl) rfl ?_   -- 16
  refine ow_nil (into ?_)
  refine sw_block ?_
  refine sw_loop (σ := Nat × Option (List UInt8)) (fun x => x.1 ≤ ps.length ∧ txt x.2 = (ps.take x.1).flatMap (·.xs)) (fun x => [(16, vInt (x.1 : Int)), (15, vInt (ps.length : Int)), (14, .slice a ps.length c), (6, .pointer (some ⟨b13, 0, none⟩)), (4, .pointer (some ⟨b4, 0, none⟩)), (0, vInt (k : Int))]) (fun x => Mem w [] [some (b13, blk (shCells (stc x.2)) 117), some (b4, blk (zeros32.map vU8) 27)]) (fun x => ps.length - x.1) (0, none) ⟨Nat.zero_le _, rfl⟩ ⟨rfl, rfl, rfl, rfl, rfl, rfl, trivial⟩ (fun w hm => hm) ?_
  rintro ⟨i, o⟩ ⟨hi, ho⟩
  simp only at hi ho ⊢
  refine sw_seq ?_
  refine sw_region ?_
  refine ow_val (val_lss_int rfl rfl) rfl ?_   -- 17
  refine ow_nil (into ?_)
  refine sw_seq ?_
  refine sw_if rfl (fun h0 => ?_) (fun h0 => ?_)
  · -- then
    obtain ⟨ba, oa, rfl⟩ := hr.addr (by rw [List.length_map]; omega)
    have hE := hps _ (getD_mem (l := ps) (i := i) (by omega))
    have hE1 := hE.2.1
    have hE2 := hE.2.2
    refine sw_skip (into ?_)
    refine sw_seq ?_
    refine sw_block ?_
    refine sw_seq ?_
    refine sw_region ?_
    refine ow_val (val_indexAddr_slice (i) (oa + i) rfl rfl Tryd.underlying32 Tryd.sizeOf25 (by omega) (by omega) (by omega)) rfl ?_   -- 18
    refine ow_val (val_load (v := Sl.v (ps.getD i default)) rfl Tryd.isAgg25 (fun w' hm => Rd.get (p := ps) (k := i) (hr.mem hm) (by omega) (by omega))) rfl ?_   -- 19
    refine ow_val (val_assign rfl) rfl ?_   -- 8
    refine ow_nil (into ?_)
    refine sw_region ?_
    refine ow_val (val_move rfl) rfl ?_   -- 20
    refine ow_val (val_move rfl) rfl ?_   -- 21
    refine ow_call_turn 0 rfl (callsTo Tryd.func48 rfl (by kernel_rfl) rfl) rfl (fun w hm => writeS_any b13 o _ _ _ ((ps.getD i default).xs) rfl w (hm.at (i := 0) rfl) (hK.mem0 hm) (by have := hK.pos; simp only [List.mem_singleton]; omega) ((hps _ (getD_mem (i := i) (by omega))).1.mem hm) (fun h b' o' e hbb => by simp only [List.mem_singleton] at hbb; have h2 := ((hps _ (getD_mem (i := i) (by omega))).1).lt e (by simpa using h); omega) (by omega) (by omega)) ?_   -- 22
    refine ow_nil (into ?_)
    refine sw_region ?_
    refine ow_val (val_add_int ((i + 1 : Nat) : Int) rfl rfl (by omega) (by omega)) rfl ?_   -- 23
    refine ow_val (val_move rfl) rfl ?_   -- 16
    exact ow_nil (fun w hm => ⟨(i + 1, _), ⟨by dsimp only; omega, (by show txt o ++ _ = _; rw [ho, take_getD (by omega), List.flatMap_append, List.flatMap_cons, List.flatMap_nil, List.append_nil])⟩, by dsimp only; omega, ⟨rfl, rfl, rfl, rfl, rfl, rfl, trivial⟩, hm⟩)
  · -- else
    obtain rfl : i = ps.length := by omega
    rw [List.take_length] at ho
    refine sw_exit (into ?_)
    refine sw_seq ?_
    refine sw_region ?_
    refine ow_val (val_move rfl) rfl ?_   -- 24
    refine ow_val (val_move rfl) rfl ?_   -- 25
    refine ow_call_pure (callsTo Tryd.func49 rfl (by kernel_rfl) rfl) rfl (fun w hm => sumS_any b13 o w (hm.at (i := 0) rfl) (hK.mem0 hm)) ?_   -- 26
    refine ow_call_pure (callsTo Tryd.func45 rfl (by kernel_rfl) rfl) rfl (fun w hm => cut_any k (by omega) (shaOf (txt o)) (hash_len _) w) ?_   -- 27
    refine ow_do_eq (does_store_all 1 rfl rfl rfl (one_u8s _) Tryd.sizeOf27 (by show (List.map vU8 (cutw k (shaOf (txt o)))).length = _; rw [List.length_map]; exact (cutw_len (hash_len _) (by omega))) (by show (List.map vU8 zeros32).length = _; rw [List.length_map]; exact zeros32_len)) ?_
    refine ow_val (val_assign rfl) rfl ?_   -- 5
    refine ow_nil (into ?_)
    exact sw_ret (fun w hm => ret_cell_two 1 rfl rfl rfl hm rfl Tryd.isAgg27 Tryd.sizeOf27 (by rw [List.length_map]; exact cutw_len (hash_len _) (by omega)) ⟨by rw [digO_yes h1 h2, ho]; rfl, hm.forgetAll⟩)

theorem dsum_any (v0 : Int) (w : World) (hK : KW w) (a : Option Addr) (c : Nat) (ps : List (Sl UInt8)) (hr : Rd w a (ps.map Sl.v)) (hps : ∀ s ∈ ps, Rd w s.a (s.xs.map vU8) ∧ s.xs.length ≤ s.c ∧ s.xs.length < 9223372036854775808) (hc : ps.length ≤ c) (hl : ps.length < 9223372036854775808) : Calls Tryd.prog 17 #[vInt v0, .slice a ps.length c] w fun en w' => ∃ v, en = .returned v ∧ v = .tuple #[.agg (((digO v0 (ps.flatMap (·.xs)) 0).1).map vU8).toArray, vInt ((digO v0 (ps.flatMap (·.xs)) 0).2 : Int)] ∧ Mem w [] [] w' := by
  cases hw : wd v0 with
  | true => obtain ⟨k, rfl, h1, h2⟩ := wd_nat hw; exact dsum_yes k hw h1 h2 w hK a c ps hr hps hc hl
  | false => exact dsum_no v0 hw w a c ps.length _

theorem dsum0_any (v0 : Int) (w : World) (hK : KW w) : Calls Tryd.prog 17 #[vInt v0, .slice none 0 0] w fun en w' => ∃ v, en = .returned v ∧ v = .tuple #[.agg (((digO v0 [] 0).1).map vU8).toArray, vInt ((digO v0 [] 0).2 : Int)] ∧ Mem w [] [] w' :=
  dsum_any v0 w hK none 0 [] (Rd.nil _ _) (fun _ h => by cases h) (Nat.le_refl _) (by decide)

theorem dsum1_any (v0 : Int) (w : World) (hK : KW w) (b : Nat) {a0 : Option Addr} {m0 c0 : Nat} (hr : Rd w (some ⟨b, 0, none⟩) [.slice a0 m0 c0]) (p0 : List UInt8) (h0 : p0.length = m0) (r0 : Rd w a0 (p0.map vU8)) (l0 : m0 ≤ c0) (k0 : m0 < 9223372036854775808) : Calls Tryd.prog 17 #[vInt v0, .slice (some ⟨b, 0, none⟩) 1 1] w fun en w' => ∃ v, en = .returned v ∧ v = .tuple #[.agg (((digO v0 p0 0).1).map vU8).toArray, vInt ((digO v0 p0 0).2 : Int)] ∧ Mem w [] [] w' := by
  subst h0
  have h := dsum_any v0 w hK (some ⟨b, 0, none⟩) 1 [⟨a0, c0, p0⟩] hr (fun s hs => by
    simp only [List.mem_cons, List.not_mem_nil, or_false] at hs
    subst hs
    exact ⟨r0, l0, k0⟩) (by simp) (by simp)
  simpa using h

theorem dsum3_any (v0 : Int) (w : World) (hK : KW w) (b : Nat) {a0 : Option Addr} {m0 c0 : Nat} {a1 : Option Addr} {m1 c1 : Nat} {a2 : Option Addr} {m2 c2 : Nat} (hr : Rd w (some ⟨b, 0, none⟩) [.slice a0 m0 c0, .slice a1 m1 c1, .slice a2 m2 c2]) (p0 : List UInt8) (h0 : p0.length = m0) (r0 : Rd w a0 (p0.map vU8)) (l0 : m0 ≤ c0) (k0 : m0 < 9223372036854775808) (p1 : List UInt8) (h1 : p1.length = m1) (r1 : Rd w a1 (p1.map vU8)) (l1 : m1 ≤ c1) (k1 : m1 < 9223372036854775808) (p2 : List UInt8) (h2 : p2.length = m2) (r2 : Rd w a2 (p2.map vU8)) (l2 : m2 ≤ c2) (k2 : m2 < 9223372036854775808) : Calls Tryd.prog 17 #[vInt v0, .slice (some ⟨b, 0, none⟩) 3 3] w fun en w' => ∃ v, en = .returned v ∧ v = .tuple #[.agg (((digO v0 (p0 ++ p1 ++ p2) 0).1).map vU8).toArray, vInt ((digO v0 (p0 ++ p1 ++ p2) 0).2 : Int)] ∧ Mem w [] [] w' := by
  subst h0; subst h1; subst h2
  have h := dsum_any v0 w hK (some ⟨b, 0, none⟩) 3 [⟨a0, c0, p0⟩, ⟨a1, c1, p1⟩, ⟨a2, c2, p2⟩] hr (fun s hs => by
    simp only [List.mem_cons, List.not_mem_nil, or_false] at hs
    rcases hs with rfl | rfl | rfl
    · exact ⟨r0, l0, k0⟩
    · exact ⟨r1, l1, k1⟩
    · exact ⟨r2, l2, k2⟩) (by simp) (by simp)
  simpa [List.append_assoc] using h

theorem of_err (v0 : Int) (w : World) (ap : Option Addr) (m cp : Nat) (p : List UInt8) (e : Nat) (he : e ≠ 0) : Calls Tryd.prog 101 #[vInt v0, .slice ap m cp, vInt (e : Int)] w fun en w' => ∃ v, en = .returned v ∧ v = .tuple #[.agg (((digO v0 p e).1).map vU8).toArray, vInt ((digO v0 p e).2 : Int)] ∧ Mem w [] [] w' := by
  refine calls_of_sw (vs := [vInt v0, .slice ap m cp, vInt (e : Int)]) Tryd.func101 rfl Tryd.ntmps101 rfl (SW.begin ?_)
  refine sw_seq ?_
  refine sw_region ?_
  refine ow_new (acts_alloc zD) rfl (fun b6 hb6 => ?_)   -- 6
  refine ow_val (val_assign rfl) rfl ?_   -- 7
  refine ow_nil (into ?_)
  refine sw_seq ?_
  refine sw_seq ?_
  refine sw_region ?_
  refine ow_val (val_move rfl) rfl ?_   -- 8
  refine ow_val (val_neq_int rfl rfl) rfl ?_   -- 9
  refine ow_nil (into ?_)
  refine sw_true rfl (by simp [he]) ?_
  refine sw_seq ?_
  refine sw_region ?_
  refine ow_val (val_build' (cs := zeros32.map vU8) rfl (by kernel_rfl)) rfl ?_   -- 10
  refine ow_val (val_move rfl) rfl ?_   -- 11
  refine ow_do_eq (does_store_all 0 rfl rfl rfl (one_u8s _) Tryd.sizeOf27 (by show (List.map vU8 zeros32).length = _; rw [List.length_map]; exact zeros32_len) (by show (List.map vU8 zeros32).length = _; rw [List.length_map]; exact zeros32_len)) ?_
  refine ow_val (val_assign rfl) rfl ?_   -- 7
  refine ow_nil (into ?_)
  refine sw_ret (fun w hm => ?_)
  try dsimp only [thenP, blockP, Nat.beq, cond]
  exact ret_cell_two 0 rfl rfl rfl hm rfl Tryd.isAgg27 Tryd.sizeOf27 rfl ⟨by rw [digO_err he] <;> rfl, hm.forgetAll⟩

theorem of_ok (v0 : Int) (w : World) (hK : KW w) (ap : Option Addr) (m cp : Nat) (p : List UInt8) (hpm : p.length = m) (hr : Rd w ap (p.map vU8)) (hcp : m ≤ cp) (hl : m < 9223372036854775808) : Calls Tryd.prog 101 #[vInt v0, .slice ap m cp, vInt ((0 : Nat) : Int)] w fun en w' => ∃ v, en = .returned v ∧ v = .tuple #[.agg (((digO v0 p 0).1).map vU8).toArray, vInt ((digO v0 p 0).2 : Int)] ∧ Mem w [] [] w' := by
  refine calls_of_sw (vs := [vInt v0, .slice ap m cp, vInt ((0 : Nat) : Int)]) Tryd.func101 rfl Tryd.ntmps101 rfl (SW.begin ?_)
  refine sw_seq ?_
  refine sw_region ?_
  refine ow_new (acts_alloc zD) rfl (fun b6 hb6 => ?_)   -- 6
  refine ow_val (val_assign rfl) rfl ?_   -- 7
  refine ow_nil (into ?_)
  refine sw_seq ?_
  refine sw_seq ?_
  refine sw_region ?_
  refine ow_val (val_move rfl) rfl ?_   -- 8
  refine ow_val ((val_neq_int rfl rfl).to (v' := .bool false) (congrArg Value.bool (decide_eq_false (fun h => h (by simp))))) rfl ?_   -- 9
  refine ow_nil (into ?_)
  refine sw_false rfl (by simp) ?_
  refine sw_skip (into ?_)
  refine sw_seq ?_
  refine sw_region ?_
  refine ow_val (val_move rfl) rfl ?_   -- 12
  refine ow_val (val_move rfl) rfl ?_   -- 13
  refine ow_make (acts_buildSlice (cs := [.slice ap m cp]) Tryd.underlying32 Tryd.sizeOf25 Tryd.zeroValue25 rfl rfl (by kernel_rfl)) rfl (fun b14 hb14 => ?_)   -- 14
  refine ow_call_pure (v := .tuple #[.agg (((digO v0 p 0).1).map vU8).toArray, vInt ((digO v0 p 0).2 : Int)]) (callsTo Tryd.func17 rfl (by kernel_rfl) rfl) rfl (fun w hm => dsum1_any v0 w (hK.mem0 hm) b14 (Rd.blk (hm.at (i := 0) rfl)) p hpm (hr.mem hm) (by omega) (by omega)) ?_   -- 15
  refine ow_val (val_extract rfl rfl) rfl ?_   -- 16
  refine ow_val (val_extract rfl rfl) rfl ?_   -- 17
  refine ow_do_eq (does_store_all 1 rfl rfl rfl (one_u8s _) Tryd.sizeOf27 (by show (List.map vU8 ((digO v0 p 0).1)).length = _; rw [List.length_map]; exact (digO_len _ _ _)) (by show (List.map vU8 zeros32).length = _; rw [List.length_map]; exact zeros32_len)) ?_
  refine ow_val (val_assign rfl) rfl ?_   -- 7
  refine ow_nil (into ?_)
  exact sw_ret (fun w hm => ret_cell_two 1 rfl rfl rfl hm rfl Tryd.isAgg27 Tryd.sizeOf27 (by rw [List.length_map]; exact digO_len _ _ _) ⟨rfl, hm.forgetAll⟩)

theorem of_any (v0 : Int) (w : World) (hK : KW w) (ap : Option Addr) (m cp : Nat) (p : List UInt8) (hpm : p.length = m) (hr : Rd w ap (p.map vU8)) (hcp : m ≤ cp) (hl : m < 9223372036854775808) (e : Nat) : Calls Tryd.prog 101 #[vInt v0, .slice ap m cp, vInt (e : Int)] w fun en w' => ∃ v, en = .returned v ∧ v = .tuple #[.agg (((digO v0 p e).1).map vU8).toArray, vInt ((digO v0 p e).2 : Int)] ∧ Mem w [] [] w' := by
  by_cases he : e = 0
  · subst he; exact of_ok v0 w hK ap m cp p hpm hr hcp hl
  · exact of_err v0 w ap m cp p e he

theorem zW (w : World) : (zeroValue 109).run Tryd.prog w = .ok (.agg #[.slice none 0 0]) w := by kernel_rfl

theorem tagged_any (x : UInt8) (w : World) (ap : Option Addr) (m cp : Nat) (p : List UInt8) (hpm : p.length = m) (hr : Rd w ap (p.map vU8)) (hcp : m ≤ cp) (hb : m < 140737488355328) : Calls Tryd.prog 91 #[vU8 x, .slice ap m cp] w fun en w' => ∃ v, en = .returned v ∧ ∃ e', RowE v 5 1 (1 + m) (([x] ++ p).map vU8) e' ∧ Mem w [] [e'] w' := by
  refine calls_of_sw (vs := [vU8 x, .slice ap m cp]) Tryd.func91 rfl Tryd.ntmps91 rfl (SW.begin ?_)
  refine sw_seq ?_
  refine sw_region ?_
  refine ow_val (val_assign rfl) rfl ?_   -- 4
  refine ow_nil (into ?_)
  refine sw_seq ?_
  refine sw_region ?_
  refine ow_new (acts_alloc zW) rfl (fun b5 hb5 => ?_)   -- 5
  refine ow_place ?_
  refine ow_nil (into ?_)
  refine sw_seq ?_
  refine sw_region ?_
  refine ow_val (val_move rfl) rfl ?_   -- 6
  refine ow_call_wr (k := 1) (E := 5) (T := 109) (xs := (([] : List UInt8) ++ ([x] : List UInt8)).map vU8) 1 0 rfl rfl (by decide) (callsTo Tryd.func83 rfl (by kernel_rfl) rfl) rfl (fun w hm hs => wu8_any b5 none 0 0 ([] : List UInt8) none w hs (RowE.nil _ _) x (by omega)) (fun a7 c7 e7 hr7 => ?_)   -- 7
  refine ow_nil (into ?_)
  refine sw_seq ?_
  refine sw_region ?_
  refine ow_val (val_move rfl) rfl ?_   -- 8
  refine ow_call_wr (k := 1 + m) (E := 5) (T := 109) (xs := ((([] : List UInt8) ++ ([x] : List UInt8)) ++ p).map vU8) 1 0 rfl rfl (by decide) (callsTo Tryd.func85 rfl (by kernel_rfl) rfl) rfl (fun w hm hs => wraw_any b5 a7 1 c7 (([] : List UInt8) ++ ([x] : List UInt8)) e7 w hs hr7 ap m _ p hpm (hr.mem hm) (hm.argNe hr (fun _ _ _ _ h => by cases h) (i := 1) (j := 0) rfl rfl) (by omega) (by omega)) (fun a9 c9 e9 hr9 => ?_)   -- 9
  refine ow_nil (into ?_)
  refine sw_seq ?_
  refine sw_region ?_
  refine ow_call_row (E := 5) (size := 1) (k := 1 + m) (xs := ((([] : List UInt8) ++ ([x] : List UInt8)) ++ p).map vU8) (callsTo Tryd.func86 rfl (by kernel_rfl) rfl) rfl (fun w hm => wbytes_any b5 _ _ _ _ _ w (hm.start2 (i := 1) (j := 0) rfl rfl (by decide)) hr9 (by omega)) (fun a10 c10 e10 hr10 => ?_)   -- 10
  refine ow_val (val_assign rfl) rfl ?_   -- 4
  refine ow_nil (into ?_)
  exact sw_ret (fun w hm => ret_one _ rfl rfl ⟨e10, hr10, hm.only (.cons_cons _ (List.nil_sublist _))⟩)

theorem leafI_any (w : World) (ap : Option Addr) (m cp : Nat) (p : List UInt8) (hpm : p.length = m) (hr : Rd w ap (p.map vU8)) (hcp : m ≤ cp) (hb : m < 140737488355328) : Calls Tryd.prog 52 #[.slice ap m cp] w fun en w' => ∃ v, en = .returned v ∧ ∃ e', RowE v 5 1 (1 + m) ((leafI p).map vU8) e' ∧ Mem w [] [e'] w' := by
  refine calls_of_sw (vs := [.slice ap m cp]) Tryd.func52 rfl Tryd.ntmps52 rfl (SW.begin ?_)
  refine sw_seq ?_
  refine sw_region ?_
  refine ow_val (val_assign rfl) rfl ?_   -- 2
  refine ow_nil (into ?_)
  refine sw_seq ?_
  refine sw_region ?_
  refine ow_val (val_move rfl) rfl ?_   -- 3
  refine ow_call_row (E := 5) (size := 1) (k := 1 + m) (xs := (leafI p).map vU8) (callsTo Tryd.func91 rfl (by kernel_rfl) rfl) rfl (fun w hm => tagged_any 0 w ap m cp p hpm (hr.mem hm) hcp hb) (fun a4 c4 e4 hr4 => ?_)   -- 4
  refine ow_val (val_assign rfl) rfl ?_   -- 2
  refine ow_nil (into ?_)
  exact sw_ret (fun w hm => ret_one _ rfl rfl ⟨e4, hr4, hm.only (.cons_cons _ (List.nil_sublist _))⟩)

theorem keyI_any (w : World) (ap : Option Addr) (m cp : Nat) (p : List UInt8) (hpm : p.length = m) (hr : Rd w ap (p.map vU8)) (hcp : m ≤ cp) (hb : m < 140737488355328) : Calls Tryd.prog 54 #[.slice ap m cp] w fun en w' => ∃ v, en = .returned v ∧ ∃ e', RowE v 5 1 (1 + m) ((keyI p).map vU8) e' ∧ Mem w [] [e'] w' := by
  refine calls_of_sw (vs := [.slice ap m cp]) Tryd.func54 rfl Tryd.ntmps54 rfl (SW.begin ?_)
  refine sw_seq ?_
  refine sw_region ?_
  refine ow_val (val_assign rfl) rfl ?_   -- 2
  refine ow_nil (into ?_)
  refine sw_seq ?_
  refine sw_region ?_
  refine ow_val (val_move rfl) rfl ?_   -- 3
  refine ow_call_row (E := 5) (size := 1) (k := 1 + m) (xs := (keyI p).map vU8) (callsTo Tryd.func91 rfl (by kernel_rfl) rfl) rfl (fun w hm => tagged_any 2 w ap m cp p hpm (hr.mem hm) hcp hb) (fun a4 c4 e4 hr4 => ?_)   -- 4
  refine ow_val (val_assign rfl) rfl ?_   -- 2
  refine ow_nil (into ?_)
  exact sw_ret (fun w hm => ret_one _ rfl rfl ⟨e4, hr4, hm.only (.cons_cons _ (List.nil_sublist _))⟩)

theorem nodeInput_err (v0 : Int) (w : World) (l r : List UInt8) (hll : l.length = 32) (hrl : r.length = 32) (he : ¬ chk v0 [l, r] = 0) : Calls Tryd.prog 53 #[vInt v0, .agg ((l).map vU8).toArray, .agg ((r).map vU8).toArray] w fun en w' => ∃ u, en = .returned u ∧ ∃ s e', u = .tuple #[s, vInt ((chk v0 [l, r] : Nat) : Int)] ∧ RowE s 5 1 (nodeP v0 l r).length ((nodeP v0 l r).map vU8) e' ∧ Mem w [] [e'] w' := by
  refine calls_of_sw (vs := [vInt v0, .agg ((l).map vU8).toArray, .agg ((r).map vU8).toArray]) Tryd.func53 rfl Tryd.ntmps53 rfl (SW.begin ?_)
  refine sw_seq ?_
  refine sw_region ?_
  refine ow_new (acts_box rfl) rfl (fun b4 hb4 => ?_)   -- 4
  refine ow_new (acts_box rfl) rfl (fun b5 hb5 => ?_)   -- 5
  refine ow_val (val_assign rfl) rfl ?_   -- 6
  refine ow_val (val_assign rfl) rfl ?_   -- 7
  refine ow_nil (into ?_)
  refine sw_seq ?_
  refine sw_seq ?_
  refine sw_region ?_
  refine ow_val (val_move rfl) rfl ?_   -- 10
  refine ow_val (val_load_all 1 rfl rfl Tryd.isAgg27 Tryd.sizeOf27 (by show (List.map vU8 l).length = _; rw [List.length_map]; exact hll)) rfl ?_   -- 11
  refine ow_val (val_load_all 0 rfl rfl Tryd.isAgg27 Tryd.sizeOf27 (by show (List.map vU8 r).length = _; rw [List.length_map]; exact hrl)) rfl ?_   -- 12
  refine ow_make (acts_buildSlice (cs := [l.map vU8, r.map vU8].flatten) Tryd.underlying45 Tryd.sizeOf27 zD rfl rfl (fill_aggs [l.map vU8, r.map vU8] (by decide) rfl (by simp only [List.forall_mem_cons, List.length_map]; exact ⟨hll, hrl, fun _ h => by cases h⟩))) rfl (fun b13 hb13 => ?_)   -- 13
  refine ow_call_pure (callsTo Tryd.func82 rfl (by kernel_rfl) rfl) rfl (fun w hm => check_any v0 w (some ⟨b13, 0, none⟩) 2 [l, r] (by simp only [List.forall_mem_cons]; exact ⟨hll, hrl, fun _ h => by cases h⟩) (Rd.blk (hm.at (i := 0) rfl)) (by simp) (by simp)) ?_   -- 14
  refine ow_val (val_assign rfl) rfl ?_   -- 8
  refine ow_nil (into ?_)
  refine sw_seq ?_
  refine sw_region ?_
  refine ow_val (val_move rfl) rfl ?_   -- 15
  refine ow_val (val_neq_int rfl rfl) rfl ?_   -- 16
  refine ow_nil (into ?_)
  refine sw_true rfl (by simp [he]) ?_
  refine sw_seq ?_
  refine sw_region ?_
  refine ow_val (val_move rfl) rfl ?_   -- 17
  refine ow_val (val_assign rfl) rfl ?_   -- 6
  refine ow_val (val_assign rfl) rfl ?_   -- 7
  refine ow_nil (into ?_)
  refine sw_ret (fun w hm => ?_)
  try dsimp only [thenP, blockP, Nat.beq, cond]
  exact ret_two _ _ rfl rfl rfl ⟨_, none, rfl, by rw [nodeP, if_neg he]; exact RowE.nil _ _, hm.forgetAll.place⟩

theorem nodeInput_ok (k : Nat) (h1 : 1 ≤ k) (h2 : k ≤ 32) (w : World) (l r : List UInt8) (hll : l.length = 32) (hrl : r.length = 32) (he : chk (k : Int) [l, r] = 0) : Calls Tryd.prog 53 #[vInt (k : Int), .agg ((l).map vU8).toArray, .agg ((r).map vU8).toArray] w fun en w' => ∃ u, en = .returned u ∧ ∃ s e', u = .tuple #[s, vInt ((chk (k : Int) [l, r] : Nat) : Int)] ∧ RowE s 5 1 (nodeP (k : Int) l r).length ((nodeP (k : Int) l r).map vU8) e' ∧ Mem w [] [e'] w' := by
  refine calls_of_sw (vs := [vInt (k : Int), .agg ((l).map vU8).toArray, .agg ((r).map vU8).toArray]) Tryd.func53 rfl Tryd.ntmps53 rfl (SW.begin ?_)
  refine sw_seq ?_
  refine sw_region ?_
  refine ow_new (acts_box rfl) rfl (fun b4 hb4 => ?_)   -- 4
  refine ow_new (acts_box rfl) rfl (fun b5 hb5 => ?_)   -- 5
  refine ow_val (val_assign rfl) rfl ?_   -- 6
  refine ow_val (val_assign rfl) rfl ?_   -- 7
  refine ow_nil (into ?_)
  refine sw_seq ?_
  refine sw_seq ?_
  refine sw_region ?_
  refine ow_val (val_move rfl) rfl ?_   -- 10
  refine ow_val (val_load_all 1 rfl rfl Tryd.isAgg27 Tryd.sizeOf27 (by show (List.map vU8 l).length = _; rw [List.length_map]; exact hll)) rfl ?_   -- 11
  refine ow_val (val_load_all 0 rfl rfl Tryd.isAgg27 Tryd.sizeOf27 (by show (List.map vU8 r).length = _; rw [List.length_map]; exact hrl)) rfl ?_   -- 12
  refine ow_make (acts_buildSlice (cs := [l.map vU8, r.map vU8].flatten) Tryd.underlying45 Tryd.sizeOf27 zD rfl rfl (fill_aggs [l.map vU8, r.map vU8] (by decide) rfl (by simp only [List.forall_mem_cons, List.length_map]; exact ⟨hll, hrl, fun _ h => by cases h⟩))) rfl (fun b13 hb13 => ?_)   -- 13
  refine ow_call_pure (v := vInt ((0 : Nat) : Int)) (callsTo Tryd.func82 rfl (by kernel_rfl) rfl) rfl (fun w hm => (by have h := check_any (k : Int) w (some ⟨b13, 0, none⟩) 2 [l, r] (by simp only [List.forall_mem_cons]; exact ⟨hll, hrl, fun _ h => by cases h⟩) (Rd.blk (hm.at (i := 0) rfl)) (by simp) (by simp); rw [he] at h; exact h)) ?_   -- 14
  refine ow_val (val_assign rfl) rfl ?_   -- 8
  refine ow_nil (into ?_)
  refine sw_seq ?_
  refine sw_region ?_
  refine ow_val (val_move rfl) rfl ?_   -- 15
  refine ow_val ((val_neq_int rfl rfl).to (v' := .bool false) (congrArg Value.bool (decide_eq_false (fun h => h (by simp))))) rfl ?_   -- 16
  refine ow_nil (into ?_)
  refine sw_false rfl (by simp) ?_
  refine sw_skip (into ?_)
  refine sw_seq ?_
  refine sw_region ?_
  refine ow_new (acts_alloc zW) rfl (fun b9 hb9 => ?_)   -- 9
  refine ow_place ?_
  refine ow_nil (into ?_)
  refine sw_seq ?_
  refine sw_region ?_
  refine ow_call_wr (k := 1) (E := 5) (T := 109) (xs := (([] : List UInt8) ++ ([1] : List UInt8)).map vU8) 1 0 rfl rfl (by decide) (callsTo Tryd.func83 rfl (by kernel_rfl) rfl) rfl (fun w hm hs => wu8_any b9 none 0 0 ([] : List UInt8) none w hs (RowE.nil _ _) 1 (by omega)) (fun a18 c18 e18 hr18 => ?_)   -- 18
  refine ow_nil (into ?_)
  refine sw_seq ?_
  refine sw_region ?_
  refine ow_val (val_move rfl) rfl ?_   -- 19
  refine ow_val (val_slice_array_hi' k 0 rfl rfl Tryd.underlying27 Tryd.sizeOf5 rfl (by omega) rfl) rfl ?_   -- 20
  refine ow_call_wr (k := 1 + k) (E := 5) (T := 109) (xs := ((([] : List UInt8) ++ ([1] : List UInt8)) ++ (l.take k)).map vU8) 1 0 rfl rfl (by decide) (callsTo Tryd.func85 rfl (by kernel_rfl) rfl) rfl (fun w hm hs => wraw_any b9 a18 1 c18 (([] : List UInt8) ++ ([1] : List UInt8)) e18 w hs hr18 (some ⟨b4, 0, none⟩) k _ (l.take k) (by rw [List.length_take, hll]; omega) ((Rd.blk (hm.at (i := 4) rfl)).take1 k) (fun _ => hm.ownNe (k := 4) (i := 1) (j := 0) rfl rfl rfl (by decide) (by decide)) (by omega) (by omega)) (fun a21 c21 e21 hr21 => ?_)   -- 21
  refine ow_nil (into ?_)
  refine sw_seq ?_
  refine sw_region ?_
  refine ow_val (val_move rfl) rfl ?_   -- 22
  refine ow_val (val_slice_array_hi' k 0 rfl rfl Tryd.underlying27 Tryd.sizeOf5 rfl (by omega) rfl) rfl ?_   -- 23
  refine ow_call_wr (k := 1 + k + k) (E := 5) (T := 109) (xs := (((([] : List UInt8) ++ ([1] : List UInt8)) ++ (l.take k)) ++ (r.take k)).map vU8) 1 0 rfl rfl (by decide) (callsTo Tryd.func85 rfl (by kernel_rfl) rfl) rfl (fun w hm hs => wraw_any b9 a21 (1 + k) c21 ((([] : List UInt8) ++ ([1] : List UInt8)) ++ (l.take k)) e21 w hs hr21 (some ⟨b5, 0, none⟩) k _ (r.take k) (by rw [List.length_take, hrl]; omega) ((Rd.blk (hm.at (i := 3) rfl)).take1 k) (fun _ => hm.ownNe (k := 3) (i := 1) (j := 0) rfl rfl rfl (by decide) (by decide)) (by omega) (by omega)) (fun a24 c24 e24 hr24 => ?_)   -- 24
  refine ow_nil (into ?_)
  refine sw_seq ?_
  refine sw_region ?_
  refine ow_call_row (E := 5) (size := 1) (k := 1 + k + k) (xs := (((([] : List UInt8) ++ ([1] : List UInt8)) ++ (l.take k)) ++ (r.take k)).map vU8) (callsTo Tryd.func86 rfl (by kernel_rfl) rfl) rfl (fun w hm => wbytes_any b9 _ _ _ _ _ w (hm.start2 (i := 1) (j := 0) rfl rfl (by decide)) hr24 (by omega)) (fun a25 c25 e25 hr25 => ?_)   -- 25
  refine ow_val (val_assign rfl) rfl ?_   -- 6
  refine ow_val (val_assign rfl) rfl ?_   -- 7
  refine ow_nil (into ?_)
  exact sw_ret (fun w hm => ret_two _ _ rfl rfl rfl ⟨_, e25, by rw [he] <;> rfl, hr25.cong rfl (by rw [nodeP, if_pos he]; simp [nodeI, hll, hrl]; omega) (by rw [nodeP, if_pos he]; rfl), hm.only (.cons_cons _ (List.nil_sublist _))⟩)

theorem nodeInput_any (w : World) (v0 : Int) (l r : List UInt8) (hll : l.length = 32) (hrl : r.length = 32) : Calls Tryd.prog 53 #[vInt v0, .agg ((l).map vU8).toArray, .agg ((r).map vU8).toArray] w fun en w' => ∃ u, en = .returned u ∧ ∃ s e', u = .tuple #[s, vInt ((chk v0 [l, r] : Nat) : Int)] ∧ RowE s 5 1 (nodeP v0 l r).length ((nodeP v0 l r).map vU8) e' ∧ Mem w [] [e'] w' := by
  by_cases he : chk v0 [l, r] = 0
  · obtain ⟨k, rfl, h1, h2⟩ := wd_nat (chk_wd he); exact nodeInput_ok k h1 h2 w l r hll hrl he
  · exact nodeInput_err v0 w l r hll hrl he

theorem zPr (w : World) : (zeroValue 101).run Tryd.prog w = .ok (.agg #[.slice none 0 0, .slice none 0 0]) w := by kernel_rfl
theorem prs_take {ps : List (Sl UInt8 × Sl UInt8)} {i : Nat} (h : i < ps.length) : pairsB (prs (ps.take (i + 1))) = pairsB (prs (ps.take i)) ++ (blob (ps.getD i default).1.xs ++ blob (ps.getD i default).2.xs) := by
  rw [take_getD h, prs, prs, List.map_append, pairsB, pairsB, List.flatMap_append]; simp
theorem pairsB_le : ∀ (l : List (Sl UInt8 × Sl UInt8)) (i : Nat), (pairsB (prs (l.take i))).length ≤ (pairsB (prs l)).length
  | [], i => by simp
  | x :: r, 0 => by simp [prs, pairsB]
  | x :: r, i + 1 => by have := pairsB_le r i; simp only [List.take_succ_cons, prs, pairsB, List.map_cons, List.flatMap_cons, List.length_append] at *; omega

theorem bucketI_any (w : World) (a : Option Addr) (c : Nat) (ps : List (Sl UInt8 × Sl UInt8)) (hr : Rd w a (ps.flatMap fun x => [x.1.v, x.2.v])) (hps : ∀ s ∈ ps, (Rd w s.1.a (s.1.xs.map vU8) ∧ s.1.xs.length ≤ s.1.c ∧ s.1.xs.length < 9223372036854775808) ∧ (Rd w s.2.a (s.2.xs.map vU8) ∧ s.2.xs.length ≤ s.2.c ∧ s.2.xs.length < 9223372036854775808)) (hc : ps.length ≤ c) (hl : ps.length < 9223372036854775808) (hb : (pairsB (prs ps)).length ≤ 140737488300000) : Calls Tryd.prog 55 #[.slice a ps.length c] w fun en w' => ∃ v, en = .returned v ∧ ∃ e', RowE v 5 1 (bucketI (prs ps)).length ((bucketI (prs ps)).map vU8) e' ∧ Mem w [] [e'] w' := by
  have hu := uvar_len (UInt64.ofNat ps.length)
  refine calls_of_sw (vs := [.slice a ps.length c]) Tryd.func55 rfl Tryd.ntmps55 rfl (SW.begin ?_)
  refine sw_seq ?_
  refine sw_region ?_
  refine ow_val (val_assign rfl) rfl ?_   -- 2
  refine ow_nil (into ?_)
  refine sw_seq ?_
  refine sw_region ?_
  refine ow_new (acts_alloc zW) rfl (fun b3 hb3 => ?_)   -- 3
  refine ow_place ?_
  refine ow_nil (into ?_)
  refine sw_seq ?_
  refine sw_region ?_
  refine ow_call_wr (k := 1) (E := 5) (T := 109) (xs := (([] : List UInt8) ++ ([3] : List UInt8)).map vU8) 1 0 rfl rfl (by decide) (callsTo Tryd.func83 rfl (by kernel_rfl) rfl) rfl (fun w hm hs => wu8_any b3 none 0 0 ([] : List UInt8) none w hs (RowE.nil _ _) 3 (by omega)) (fun a6 c6 e6 hr6 => ?_)   -- 6
  refine ow_nil (into ?_)
  refine sw_seq ?_
  refine sw_region ?_
  refine ow_val (val_move rfl) rfl ?_   -- 7
  refine ow_val (val_len rfl Tryd.underlying43) rfl ?_   -- 8
  refine ow_val (val_conv_n_u64 ps.length Tryd.underlying3 Tryd.underlying46 rfl rfl) rfl ?_   -- 9
  refine ow_call_wr (k := 1 + ((uvar (UInt64.ofNat ps.length)).length)) (E := 5) (T := 109) (xs := ((([] : List UInt8) ++ ([3] : List UInt8)) ++ (uvar (UInt64.ofNat ps.length))).map vU8) 1 0 rfl rfl (by decide) (callsTo Tryd.func92 rfl (by kernel_rfl) rfl) rfl (fun w hm hs => wuvar_any b3 a6 1 c6 (([] : List UInt8) ++ ([3] : List UInt8)) e6 w hs hr6 (UInt64.ofNat ps.length) (by have := uvar_len (UInt64.ofNat ps.length); omega)) (fun a10 c10 e10 hr10 => ?_)   -- 10
  refine ow_nil (into ?_)
  refine sw_seq ?_
  refine sw_seq ?_
  refine sw_region ?_
  refine ow_val (val_move rfl) rfl ?_   -- 11
  refine ow_val (val_len rfl Tryd.underlying43) rfl ?_   -- 12
  refine ow_val (val_move rfl) rfl ?_   -- 13
  refine ow_nil (into ?_)
  refine sw_block ?_
  obtain ⟨K, hK⟩ : ∃ K, K = 1 + (uvar (UInt64.ofNat ps.length)).length := ⟨_, rfl⟩
  obtain ⟨X, hX⟩ : ∃ X : List UInt8, X = ([] ++ [3] ++ uvar (UInt64.ofNat ps.length)) := ⟨_, rfl⟩
  refine sw_loop (σ := Nat × Option Addr × Nat × Ent × Nat) (fun x => x.1 ≤ ps.length ∧ x.2.2.2.2 = K + (pairsB (prs (ps.take x.1))).length ∧ RowE (.slice x.2.1 x.2.2.2.2 x.2.2.1) 5 1 x.2.2.2.2 ((X ++ pairsB (prs (ps.take x.1))).map vU8) x.2.2.2.1) (fun x => [(13, vInt (x.1 : Int)), (12, vInt (ps.length : Int)), (11, .slice a ps.length c), (3, .pointer (some ⟨b3, 0, none⟩))]) (fun x => Mem w [] [x.2.2.2.1, some (b3, blk [.slice x.2.1 x.2.2.2.2 x.2.2.1] 109)]) (fun x => ps.length - x.1) (0, a10, c10, e10, K) ⟨Nat.zero_le _, (by simp [prs, pairsB]), (by dsimp only; subst hX; subst hK; exact hr10.cong rfl rfl (by simp [prs, pairsB]))⟩ ⟨rfl, rfl, rfl, rfl, trivial⟩ (fun w hm => by subst hK; exact hm) ?_
  rintro ⟨i, a1, c1, e1, k1⟩ ⟨hi, hk1, hrow1⟩
  simp only at hi hk1 hrow1 ⊢
  refine sw_seq ?_
  refine sw_region ?_
  refine ow_val (val_lss_int rfl rfl) rfl ?_   -- 14
  refine ow_nil (into ?_)
  refine sw_seq ?_
  refine sw_if rfl (fun h0 => ?_) (fun h0 => ?_)
  · -- then
    obtain ⟨ba, oa, rfl⟩ := hr.addr (by rw [flatMap_size ps (n := 2) (fun _ _ => rfl)]; omega)
    have hE := hps _ (getD_mem (l := ps) (i := i) (by omega))
    have hE1 := hE.1.2.1
    have hE2 := hE.1.2.2
    have hE3 := hE.2.2.1
    have hE4 := hE.2.2.2
    have hpt := prs_take (ps := ps) (i := i) (by omega)
    have hpl := pairsB_le ps (i + 1)
    rw [hpt] at hpl
    simp only [List.length_append] at hpl
    refine sw_skip (into ?_)
    refine sw_seq ?_
    refine sw_block ?_
    refine sw_seq ?_
    refine sw_region ?_
    refine ow_val (val_indexAddr_slice (i) (oa + i * 2) rfl rfl Tryd.underlying43 Tryd.sizeOf101 (by omega) (by omega) (by omega)) rfl ?_   -- 15
    refine ow_val ((val_load_elem (cells := (fun x => [x.1.v, x.2.v])) (l := ps) (o := oa) (i := i) rfl Tryd.isAgg101 Tryd.sizeOf101 (fun _ _ => rfl) (by omega) (by omega) (fun w' hm => hr.mem hm))) rfl ?_   -- 16
    refine ow_new (acts_alloc zPr) rfl (fun b5 hb5 => ?_)   -- 5
    refine ow_do_eq (does_store_all 0 rfl rfl rfl (by simp [Value.oneCell', Sl.v]) Tryd.sizeOf101 rfl rfl) ?_
    refine ow_nil (into ?_)
    refine sw_seq ?_
    refine sw_region ?_
    refine ow_val (val_fieldAddr (m := 0) (e := 0) rfl Tryd.underlying101 rfl rfl Tryd.sizeOf25 rfl) rfl ?_   -- 17
    refine ow_val (val_load_at 0 rfl rfl Tryd.isAgg25 rfl) rfl ?_   -- 18
    refine ow_call_wr (k := k1 + ((blob ((ps.getD i default).1.xs)).length)) (E := 5) (T := 109) (xs := ((X ++ pairsB (prs (ps.take i))) ++ (blob ((ps.getD i default).1.xs))).map vU8) 2 1 rfl rfl (by decide) (callsTo Tryd.func93 rfl (by kernel_rfl) rfl) rfl (fun w hm hs => wblob_any b3 a1 k1 c1 (X ++ pairsB (prs (ps.take i))) e1 w hs hrow1 (ps.getD i default).1.a ((ps.getD i default).1.xs.length) _ ((ps.getD i default).1.xs) rfl ((hps _ (getD_mem (i := i) (by omega))).1.1.mem hm) (hm.argNe (hps _ (getD_mem (i := i) (by omega))).1.1 (fun _ _ _ _ h => by cases h) (i := 2) (j := 1) rfl rfl) (by omega) (by have := blob_len ((ps.getD i default).1.xs); omega)) (fun a19 c19 e19 hr19 => ?_)   -- 19
    refine ow_nil (into ?_)
    refine sw_region ?_
    refine ow_val (val_fieldAddr (m := 0) (e := 1) rfl Tryd.underlying101 rfl rfl Tryd.sizeOf25 rfl) rfl ?_   -- 20
    refine ow_val (val_load_at 0 rfl rfl Tryd.isAgg25 rfl) rfl ?_   -- 21
    refine ow_call_wr (k := k1 + ((blob ((ps.getD i default).1.xs)).length) + ((blob ((ps.getD i default).2.xs)).length)) (E := 5) (T := 109) (xs := (((X ++ pairsB (prs (ps.take i))) ++ (blob ((ps.getD i default).1.xs))) ++ (blob ((ps.getD i default).2.xs))).map vU8) 2 1 rfl rfl (by decide) (callsTo Tryd.func93 rfl (by kernel_rfl) rfl) rfl (fun w hm hs => wblob_any b3 a19 (k1 + ((blob ((ps.getD i default).1.xs)).length)) c19 ((X ++ pairsB (prs (ps.take i))) ++ (blob ((ps.getD i default).1.xs))) e19 w hs hr19 (ps.getD i default).2.a ((ps.getD i default).2.xs.length) _ ((ps.getD i default).2.xs) rfl ((hps _ (getD_mem (i := i) (by omega))).2.1.mem hm) (hm.argNe (hps _ (getD_mem (i := i) (by omega))).2.1 (fun _ _ _ _ h => by cases h) (i := 2) (j := 1) rfl rfl) (by omega) (by have := blob_len ((ps.getD i default).2.xs); omega)) (fun a22 c22 e22 hr22 => ?_)   -- 22
    refine ow_nil (into ?_)
    refine sw_region ?_
    refine ow_val (val_add_int ((i + 1 : Nat) : Int) rfl rfl (by omega) (by omega)) rfl ?_   -- 23
    refine ow_val (val_move rfl) rfl ?_   -- 13
    exact ow_nil (fun w hm => ⟨(i + 1, a22, c22, e22, _), ⟨by dsimp only; omega, (by dsimp only; rw [hpt, hk1]; simp only [List.length_append]; omega), (by dsimp only; exact hr22.cong rfl rfl (by rw [hpt]; simp only [List.append_assoc]))⟩, by dsimp only; omega, ⟨rfl, rfl, rfl, rfl, trivial⟩, hm.only (.cons _ (.cons_cons _ (.cons_cons _ (List.nil_sublist _))))⟩)
  · -- else
    obtain rfl : i = ps.length := by omega
    rw [List.take_length] at hrow1 hk1
    refine sw_exit (into ?_)
    refine sw_seq ?_
    refine sw_region ?_
    refine ow_call_row (E := 5) (size := 1) (k := k1) (xs := (X ++ pairsB (prs ps)).map vU8) (callsTo Tryd.func86 rfl (by kernel_rfl) rfl) rfl (fun w hm => wbytes_any b3 _ _ _ _ _ w (hm.start2 (i := 1) (j := 0) rfl rfl (by decide)) hrow1 (by omega)) (fun a24 c24 e24 hr24 => ?_)   -- 24
    refine ow_val (val_assign rfl) rfl ?_   -- 2
    refine ow_nil (into ?_)
    exact sw_ret (fun w hm => ret_one _ rfl rfl ⟨e24, hr24.cong rfl (by rw [hk1, hK, bucketI, prs, List.length_append, List.length_append, List.length_map]; rfl) (by rw [hX, bucketI]; simp [prs]), hm.only (.cons_cons _ (List.nil_sublist _))⟩)

theorem tab_ok (s : ByteArray) (hs : ((List.range 256).all fun k => s.data[k]? == some (UInt8.ofNat (onesF 8 k))) = true) (k : Nat) (hk : k < 256) : s.data[k]? = some (UInt8.ofNat (onesF 8 k)) := by
  have := List.all_eq_true.1 hs k (by simpa using hk)
  simpa using this
theorem ones_two (x : UInt16) : ((UInt8.ofNat (onesF 8 (x >>> 8).toNat) + UInt8.ofNat (onesF 8 (x &&& 255).toNat)).toNat : Int) = ((ones x : Nat) : Int) := by
  have h1 : (x >>> 8).toNat = x.toNat / 256 := by rw [UInt16.toNat_shiftRight]; show x.toNat >>> 8 = _; rw [Nat.shiftRight_eq_div_pow]
  have h2 : (x &&& 255).toNat = x.toNat % 256 := by rw [UInt16.toNat_and]; show x.toNat &&& (2 ^ 8 - 1) = _; rw [Nat.and_two_pow_sub_one_eq_mod]
  have h3 := onesF_split 8 8 (x.toNat % 256) (x.toNat / 256) (Nat.mod_lt _ (by decide))
  have h4 := onesF_le 8 (x.toNat / 256)
  have h5 := onesF_le 8 (x.toNat % 256)
  have h6 : x.toNat / 256 * 2 ^ 8 + x.toNat % 256 = x.toNat := by omega
  rw [h6] at h3
  rw [h1, h2, UInt8.toNat_add, UInt8.toNat_ofNat', UInt8.toNat_ofNat', ones]
  show _ = ((onesF (8 + 8) x.toNat : Nat) : Int)
  rw [h3]; omega

theorem ones_any (x : UInt16) (w : World) : Calls Tryd.prog 94 #[vU16 x] w fun e w' => ∃ v, e = .returned v ∧ v = vInt ((ones x : Nat) : Int) ∧ Mem w [] [] w' := by
  refine calls_of_sw (vs := [vU16 x]) Tryd.func94 rfl Tryd.ntmps94 rfl (SW.begin ?_)
  refine sw_seq ?_
  refine sw_region ?_
  refine ow_val (val_assign rfl) rfl ?_   -- 2
  refine ow_nil (into ?_)
  refine sw_seq ?_
  refine sw_region_lex _ [] [(0, 0), (1, 0), (2, 0), (3, 0), (4, 0), (5, 0), (6, 0), (7, 0), (8, 0)] (by kernel_rfl) (by kernel_rfl) (fun _ _ _ h => h) (fun _ h => h) (fun _ h => h.drawn _) ?_
  refine lw_pure rfl (val_move rfl) rfl ?_   -- 3
  refine lw_pure rfl (val_shr_u16 (8) rfl rfl (by first | rfl | omega) (by omega)) rfl ?_   -- 4
  refine lw_pure rfl (val_index_string (v := UInt8.ofNat (onesF 8 (x >>> 8).toNat)) (x >>> 8).toNat rfl rfl Tryd.underlying9 rfl (tab_ok _ (by kernel_rfl) _ (by rw [UInt16.toNat_shiftRight]; show x.toNat >>> 8 < 256; rw [Nat.shiftRight_eq_div_pow]; have := x.toNat_lt; omega))) rfl ?_   -- 5
  refine lw_pure rfl (val_move rfl) rfl ?_   -- 6
  refine lw_pure rfl (val_and_u16 rfl rfl) rfl ?_   -- 7
  refine lw_pure rfl (val_index_string (v := UInt8.ofNat (onesF 8 (x &&& 255).toNat)) (x &&& 255).toNat rfl rfl Tryd.underlying9 rfl (tab_ok _ (by kernel_rfl) _ (by rw [UInt16.toNat_and]; exact Nat.lt_of_le_of_lt Nat.and_le_right (by decide)))) rfl ?_   -- 8
  refine lw_pure rfl (val_add_u8 rfl rfl) rfl ?_   -- 9
  refine lw_pure rfl (val_conv_u8_i64 Tryd.underlying5 Tryd.underlying3 rfl) rfl ?_   -- 10
  refine lw_pure rfl (val_assign rfl) rfl ?_   -- 2
  refine lw_nil (into ?_)
  exact sw_ret (fun w hm => ret_one _ rfl rfl ⟨congrArg vInt (ones_two x), hm⟩)

theorem branchInput_err (v0 : Int) (bm : UInt16) (w : World) (a : Option Addr) (c : Nat) (ks : List (List UInt8)) (hks : ∀ d ∈ ks, d.length = 32) (hr : Rd w a (ks.flatMap fun d => d.map vU8)) (hc : ks.length ≤ c) (hl : ks.length < 9223372036854775808) (he : chk v0 ks ≠ 0) : Calls Tryd.prog 56 #[vInt v0, vU16 bm, .slice a ks.length c] w fun en w' => ∃ u, en = .returned u ∧ ∃ s e', u = .tuple #[s, vInt ((chkB v0 bm ks : Nat) : Int)] ∧ RowE s 5 1 (branchP v0 bm ks).length ((branchP v0 bm ks).map vU8) e' ∧ Mem w [] [e'] w' := by
  refine calls_of_sw (vs := [vInt v0, vU16 bm, .slice a ks.length c]) Tryd.func56 rfl Tryd.ntmps56 rfl (SW.begin ?_)
  refine sw_seq ?_
  refine sw_region ?_
  refine ow_val (val_assign rfl) rfl ?_   -- 6
  refine ow_val (val_assign rfl) rfl ?_   -- 7
  refine ow_nil (into ?_)
  refine sw_seq ?_
  refine sw_seq ?_
  refine sw_region ?_
  refine ow_val (val_move rfl) rfl ?_   -- 12
  refine ow_val (val_move rfl) rfl ?_   -- 13
  refine ow_call_pure (callsTo Tryd.func82 rfl (by kernel_rfl) rfl) rfl (fun w hm => check_any v0 w a c ks hks (hr.mem hm) hc hl) ?_   -- 14
  refine ow_val (val_assign rfl) rfl ?_   -- 8
  refine ow_nil (into ?_)
  refine sw_seq ?_
  refine sw_region ?_
  refine ow_val (val_move rfl) rfl ?_   -- 15
  refine ow_val (val_neq_int rfl rfl) rfl ?_   -- 16
  refine ow_nil (into ?_)
  refine sw_true rfl (by simp [he]) ?_
  refine sw_seq ?_
  refine sw_region ?_
  refine ow_val (val_move rfl) rfl ?_   -- 17
  refine ow_val (val_assign rfl) rfl ?_   -- 6
  refine ow_val (val_assign rfl) rfl ?_   -- 7
  refine ow_nil (into ?_)
  refine sw_ret (fun w hm => ?_)
  try dsimp only [thenP, blockP, Nat.beq, cond]
  exact ret_two _ _ rfl rfl rfl ⟨_, none, by rw [chkB, if_pos he], by rw [branchP, if_neg (by rw [chkB, if_pos he]; exact he)]; exact RowE.nil _ _, hm.forgetAll.place⟩

theorem branchInput_bad (v0 : Int) (bm : UInt16) (w : World) (a : Option Addr) (c : Nat) (ks : List (List UInt8)) (hks : ∀ d ∈ ks, d.length = 32) (hr : Rd w a (ks.flatMap fun d => d.map vU8)) (hc : ks.length ≤ c) (hl : ks.length < 9223372036854775808) (he : chk v0 ks = 0) (hb : bm = 0 ∨ ones bm ≠ ks.length) : Calls Tryd.prog 56 #[vInt v0, vU16 bm, .slice a ks.length c] w fun en w' => ∃ u, en = .returned u ∧ ∃ s e', u = .tuple #[s, vInt ((chkB v0 bm ks : Nat) : Int)] ∧ RowE s 5 1 (branchP v0 bm ks).length ((branchP v0 bm ks).map vU8) e' ∧ Mem w [] [e'] w' := by
  refine calls_of_sw (vs := [vInt v0, vU16 bm, .slice a ks.length c]) Tryd.func56 rfl Tryd.ntmps56 rfl (SW.begin ?_)
  refine sw_seq ?_
  refine sw_region ?_
  refine ow_val (val_assign rfl) rfl ?_   -- 6
  refine ow_val (val_assign rfl) rfl ?_   -- 7
  refine ow_nil (into ?_)
  refine sw_seq ?_
  refine sw_seq ?_
  refine sw_region ?_
  refine ow_val (val_move rfl) rfl ?_   -- 12
  refine ow_val (val_move rfl) rfl ?_   -- 13
  refine ow_call_pure (v := vInt ((0 : Nat) : Int)) (callsTo Tryd.func82 rfl (by kernel_rfl) rfl) rfl (fun w hm => (by have h := check_any v0 w a c ks hks (hr.mem hm) hc hl; rw [he] at h; exact h)) ?_   -- 14
  refine ow_val (val_assign rfl) rfl ?_   -- 8
  refine ow_nil (into ?_)
  refine sw_seq ?_
  refine sw_region ?_
  refine ow_val (val_move rfl) rfl ?_   -- 15
  refine ow_val ((val_neq_int rfl rfl).to (v' := .bool false) (congrArg Value.bool (decide_eq_false (fun h => h (by simp))))) rfl ?_   -- 16
  refine ow_nil (into ?_)
  refine sw_false rfl (by simp) ?_
  refine sw_skip (into ?_)
  refine sw_seq ?_
  refine sw_seq ?_
  refine sw_region ?_
  refine ow_val (val_move rfl) rfl ?_   -- 18
  by_cases hbm : bm = 0
  · -- yes
    refine ow_val ((val_eql_u16 rfl rfl).to (congrArg Value.bool (decide_eq_true ((by rw [hbm]; rfl))))) rfl ?_   -- 19
    refine ow_val (val_move rfl) rfl ?_   -- 20
    first | refine ow_guard_no rfl rfl rfl rfl rfl ?_ | refine ow_guard_none rfl rfl rfl rfl rfl ?_
    first | refine ow_guard_no rfl rfl rfl rfl rfl ?_ | refine ow_guard_none rfl rfl rfl rfl rfl ?_
    first | refine ow_guard_no rfl rfl rfl rfl rfl ?_ | refine ow_guard_none rfl rfl rfl rfl rfl ?_
    first | refine ow_guard_no rfl rfl rfl rfl rfl ?_ | refine ow_guard_none rfl rfl rfl rfl rfl ?_
    first | refine ow_guard_no rfl rfl rfl rfl rfl ?_ | refine ow_guard_none rfl rfl rfl rfl rfl ?_
    refine ow_val (val_pick_true rfl rfl) rfl ?_   -- 26
    refine ow_nil (into ?_)
    refine sw_true rfl (by simp) ?_
    refine sw_seq ?_
    refine sw_region ?_
    refine ow_val (val_assign rfl) rfl ?_   -- 6
    refine ow_val (val_assign rfl) rfl ?_   -- 7
    refine ow_nil (into ?_)
    refine sw_ret (fun w hm => ?_)
    try dsimp only [thenP, blockP, Nat.beq, cond]
    exact ret_two _ _ rfl rfl rfl ⟨_, none, by rw [chkB, if_neg (by simp [he]), if_pos hb] <;> rfl, by rw [branchP, if_neg (by rw [chkB, if_neg (by simp [he]), if_pos hb]; decide)]; exact RowE.nil _ _, hm.forgetAll.place⟩
  · -- no
    refine ow_val ((val_eql_u16 rfl rfl).to (congrArg Value.bool (decide_eq_false ((fun h => hbm (h.trans rfl)))))) rfl ?_   -- 19
    refine ow_val (val_move rfl) rfl ?_   -- 20
    refine ow_guard_yes rfl rfl rfl ?_
    refine ow_val (val_move rfl) rfl ?_   -- 21
    refine ow_guard_yes rfl rfl rfl ?_
    refine ow_call_pure (callsTo Tryd.func94 rfl (by kernel_rfl) rfl) rfl (fun w hm => ones_any bm w) ?_   -- 22
    refine ow_guard_yes rfl rfl rfl ?_
    refine ow_val (val_move rfl) rfl ?_   -- 23
    refine ow_guard_yes rfl rfl rfl ?_
    refine ow_val (val_len rfl Tryd.underlying45) rfl ?_   -- 24
    by_cases hon : ones bm ≠ ks.length
    · -- yes
      refine ow_guard_yes rfl rfl rfl ?_
      refine ow_val ((val_neq_int rfl rfl).to (congrArg Value.bool (decide_eq_true ((by omega))))) rfl ?_   -- 25
      refine ow_val (val_pick_false rfl rfl) rfl ?_   -- 26
      refine ow_nil (into ?_)
      refine sw_true rfl rfl ?_
      refine sw_seq ?_
      refine sw_region ?_
      refine ow_val (val_assign rfl) rfl ?_   -- 6
      refine ow_val (val_assign rfl) rfl ?_   -- 7
      refine ow_nil (into ?_)
      refine sw_ret (fun w hm => ?_)
      try dsimp only [thenP, blockP, Nat.beq, cond]
      exact ret_two _ _ rfl rfl rfl ⟨_, none, by rw [chkB, if_neg (by simp [he]), if_pos hb] <;> rfl, by rw [branchP, if_neg (by rw [chkB, if_neg (by simp [he]), if_pos hb]; decide)]; exact RowE.nil _ _, hm.forgetAll.place⟩
    · exact hb.elim (fun h => absurd h hbm) (fun h => absurd h hon)

theorem kids_all (k : Nat) : ∀ (ks : List (List UInt8)), (∀ d ∈ ks, d.length = 32) → k ≤ 32 → (kidsB k ks).length = ks.length * k
  | [], _, _ => by simp [kidsB]
  | d :: r, h, hk => by
    have := kids_all k r (fun x hx => h x (by simp [hx])) hk
    have h1 := h d (by simp)
    simp only [kidsB, List.flatMap_cons, List.length_append, List.length_take, List.length_cons, Nat.succ_mul] at *; omega
theorem kids_len (k : Nat) (ks : List (List UInt8)) (hks : ∀ d ∈ ks, d.length = 32) (hk : k ≤ 32) (i : Nat) (hi : i < ks.length) : i * k + k ≤ ks.length * 32 := by
  have h1 : (i + 1) * k ≤ ks.length * 32 := Nat.mul_le_mul (by omega) hk
  rw [Nat.succ_mul] at h1; exact h1

theorem branchInput_ok (k : Nat) (h1 : 1 ≤ k) (h2 : k ≤ 32) (bm : UInt16) (w : World) (a : Option Addr) (c : Nat) (ks : List (List UInt8)) (hks : ∀ d ∈ ks, d.length = 32) (hr : Rd w a (ks.flatMap fun d => d.map vU8)) (hc : ks.length ≤ c) (hl : ks.length < 9223372036854775808) (he : chk (k : Int) ks = 0) (hbn : ¬ (bm = 0 ∨ ones bm ≠ ks.length)) : Calls Tryd.prog 56 #[vInt (k : Int), vU16 bm, .slice a ks.length c] w fun en w' => ∃ u, en = .returned u ∧ ∃ s e', u = .tuple #[s, vInt ((chkB (k : Int) bm ks : Nat) : Int)] ∧ RowE s 5 1 (branchP (k : Int) bm ks).length ((branchP (k : Int) bm ks).map vU8) e' ∧ Mem w [] [e'] w' := by
  have hB : chkB (k : Int) bm ks = 0 := by rw [chkB, if_neg (by simp [he]), if_neg hbn]
  have hon16 := onesF_le 16 bm.toNat
  have hon17 : ones bm ≤ 16 := hon16
  have hon18 : ones bm = ks.length := Classical.byContradiction fun h => hbn (.inr h)
  have hkk : ks.length * k ≤ 512 := Nat.le_trans (Nat.mul_le_mul (show ks.length ≤ 16 by omega) h2) (by decide)
  have hbm0 : ¬ bm = 0 := fun h => hbn (.inl h)
  refine calls_of_sw (vs := [vInt (k : Int), vU16 bm, .slice a ks.length c]) Tryd.func56 rfl Tryd.ntmps56 rfl (SW.begin ?_)
  refine sw_seq ?_
  refine sw_region ?_
  refine ow_val (val_assign rfl) rfl ?_   -- 6
  refine ow_val (val_assign rfl) rfl ?_   -- 7
  refine ow_nil (into ?_)
  refine sw_seq ?_
  refine sw_seq ?_
  refine sw_region ?_
  refine ow_val (val_move rfl) rfl ?_   -- 12
  refine ow_val (val_move rfl) rfl ?_   -- 13
  refine ow_call_pure (v := vInt ((0 : Nat) : Int)) (callsTo Tryd.func82 rfl (by kernel_rfl) rfl) rfl (fun w hm => (by have h := check_any (k : Int) w a c ks hks (hr.mem hm) hc hl; rw [he] at h; exact h)) ?_   -- 14
  refine ow_val (val_assign rfl) rfl ?_   -- 8
  refine ow_nil (into ?_)
  refine sw_seq ?_
  refine sw_region ?_
  refine ow_val (val_move rfl) rfl ?_   -- 15
  refine ow_val ((val_neq_int rfl rfl).to (v' := .bool false) (congrArg Value.bool (decide_eq_false (fun h => h (by simp))))) rfl ?_   -- 16
  refine ow_nil (into ?_)
  refine sw_false rfl (by simp) ?_
  refine sw_skip (into ?_)
  refine sw_seq ?_
  refine sw_seq ?_
  refine sw_region ?_
  refine ow_val (val_move rfl) rfl ?_   -- 18
  by_cases hbm : bm = 0
  · first | exact absurd hbm hbm0 | (exfalso; omega)
  · -- no
    refine ow_val ((val_eql_u16 rfl rfl).to (congrArg Value.bool (decide_eq_false ((fun h => hbm (h.trans rfl)))))) rfl ?_   -- 19
    refine ow_val (val_move rfl) rfl ?_   -- 20
    refine ow_guard_yes rfl rfl rfl ?_
    refine ow_val (val_move rfl) rfl ?_   -- 21
    refine ow_guard_yes rfl rfl rfl ?_
    refine ow_call_pure (callsTo Tryd.func94 rfl (by kernel_rfl) rfl) rfl (fun w hm => ones_any bm w) ?_   -- 22
    refine ow_guard_yes rfl rfl rfl ?_
    refine ow_val (val_move rfl) rfl ?_   -- 23
    refine ow_guard_yes rfl rfl rfl ?_
    refine ow_val (val_len rfl Tryd.underlying45) rfl ?_   -- 24
    by_cases hon : ones bm ≠ ks.length
    · first | exact absurd hbm hbm0 | (exfalso; omega)
    · -- no
      refine ow_guard_yes rfl rfl rfl ?_
      refine ow_val ((val_neq_int rfl rfl).to (congrArg Value.bool (decide_eq_false ((by omega))))) rfl ?_   -- 25
      refine ow_val (val_pick_false rfl rfl) rfl ?_   -- 26
      refine ow_nil (into ?_)
      refine sw_false rfl (by simp) ?_
      refine sw_skip (into ?_)
      refine sw_seq ?_
      refine sw_region ?_
      refine ow_new (acts_alloc zW) rfl (fun b9 hb9 => ?_)   -- 9
      refine ow_place ?_
      refine ow_nil (into ?_)
      refine sw_seq ?_
      refine sw_region ?_
      refine ow_call_wr (k := 1) (E := 5) (T := 109) (xs := (([] : List UInt8) ++ ([4] : List UInt8)).map vU8) 1 0 rfl rfl (by decide) (callsTo Tryd.func83 rfl (by kernel_rfl) rfl) rfl (fun w hm hs => wu8_any b9 none 0 0 ([] : List UInt8) none w hs (RowE.nil _ _) 4 (by omega)) (fun a27 c27 e27 hr27 => ?_)   -- 27
      refine ow_nil (into ?_)
      refine sw_seq ?_
      refine sw_region ?_
      refine ow_val (val_move rfl) rfl ?_   -- 28
      refine ow_call_wr (k := 1 + 2) (E := 5) (T := 109) (xs := ((([] : List UInt8) ++ ([4] : List UInt8)) ++ (be bm.toUInt64 2)).map vU8) 1 0 rfl rfl (by decide) (callsTo Tryd.func95 rfl (by kernel_rfl) rfl) rfl (fun w hm hs => wu16_any b9 a27 1 c27 (([] : List UInt8) ++ ([4] : List UInt8)) e27 w hs hr27 bm (by omega)) (fun a29 c29 e29 hr29 => ?_)   -- 29
      refine ow_nil (into ?_)
      refine sw_seq ?_
      refine sw_seq ?_
      refine sw_region ?_
      refine ow_val (val_move rfl) rfl ?_   -- 30
      refine ow_val (val_len rfl Tryd.underlying45) rfl ?_   -- 31
      refine ow_val (val_move rfl) rfl ?_   -- 32
      refine ow_nil (into ?_)
      refine sw_block ?_
      obtain ⟨X, hX⟩ : ∃ X : List UInt8, X = ([] ++ [4] ++ be bm.toUInt64 2) := ⟨_, rfl⟩
      refine sw_loop (σ := Nat × Option Addr × Nat × Ent × Nat) (fun x => x.1 ≤ ks.length ∧ x.2.2.2.2 = 3 + x.1 * k ∧ RowE (.slice x.2.1 x.2.2.2.2 x.2.2.1) 5 1 x.2.2.2.2 ((X ++ kidsB k (ks.take x.1)).map vU8) x.2.2.2.1) (fun x => [(32, vInt (x.1 : Int)), (31, vInt (ks.length : Int)), (30, .slice a ks.length c), (9, .pointer (some ⟨b9, 0, none⟩)), (0, vInt (k : Int))]) (fun x => Mem w [] [x.2.2.2.1, some (b9, blk [.slice x.2.1 x.2.2.2.2 x.2.2.1] 109)]) (fun x => ks.length - x.1) (0, a29, c29, e29, 3) ⟨Nat.zero_le _, (by simp), (by dsimp only; subst hX; exact hr29.cong rfl rfl (by simp [kidsB]))⟩ ⟨rfl, rfl, rfl, rfl, rfl, trivial⟩ (fun w hm => hm) ?_
      rintro ⟨i, a1, c1, e1, k1⟩ ⟨hi, hk1, hrow1⟩
      simp only at hi hk1 hrow1 ⊢
      refine sw_seq ?_
      refine sw_region ?_
      refine ow_val (val_lss_int rfl rfl) rfl ?_   -- 33
      refine ow_nil (into ?_)
      refine sw_seq ?_
      refine sw_if rfl (fun h0 => ?_) (fun h0 => ?_)
      · -- then
        obtain ⟨ba, oa, rfl⟩ := hr.addr (by rw [flatMap_size ks (fun x hx => by rw [List.length_map]; exact hks x hx)]; omega)
        have hkl := kids_len k ks hks h2 i (by omega)
        have hd := hks _ (getD_mem (l := ks) (i := i) (by omega))
        refine sw_skip (into ?_)
        refine sw_seq ?_
        refine sw_block ?_
        refine sw_seq ?_
        refine sw_region ?_
        refine ow_val (val_indexAddr_slice (i) (oa + i * 32) rfl rfl Tryd.underlying45 Tryd.sizeOf27 (by omega) (by omega) (by omega)) rfl ?_   -- 34
        refine ow_val (val_load_elem (cells := fun d => d.map vU8) (l := ks) (o := oa) (i := i) rfl Tryd.isAgg27 Tryd.sizeOf27 (fun x hx => by rw [List.length_map]; exact hks x hx) (by omega) (by omega) (fun w' hm => hr.mem hm)) rfl ?_   -- 35
        refine ow_new (acts_alloc zD) rfl (fun b11 hb11 => ?_)   -- 11
        refine ow_do_eq (does_store_all 0 rfl rfl rfl (one_u8s _) Tryd.sizeOf27 (by show (List.map vU8 (ks.getD i default)).length = _; rw [List.length_map]; exact (hks _ (getD_mem (by omega)))) (by show (List.map vU8 zeros32).length = _; rw [List.length_map]; exact zeros32_len)) ?_
        refine ow_nil (into ?_)
        refine sw_region ?_
        refine ow_val (val_move rfl) rfl ?_   -- 36
        refine ow_val (val_slice_array_hi' k 0 rfl rfl Tryd.underlying27 Tryd.sizeOf5 rfl (by omega) rfl) rfl ?_   -- 37
        refine ow_call_wr (k := k1 + k) (E := 5) (T := 109) (xs := ((X ++ (kidsB k (ks.take i))) ++ ((ks.getD i default).take k)).map vU8) 2 1 rfl rfl (by decide) (callsTo Tryd.func85 rfl (by kernel_rfl) rfl) rfl (fun w hm hs => wraw_any b9 a1 k1 c1 (X ++ (kidsB k (ks.take i))) e1 w hs hrow1 (some ⟨b11, 0, none⟩) k _ (((ks.getD i default).take k)) ((by rw [List.length_take, (hks _ (getD_mem (by omega)))]; omega)) ((Rd.blk (hm.at (i := 0) rfl)).take1 k) (fun _ => hm.ownNe (k := 0) (i := 2) (j := 1) rfl rfl rfl (by decide) (by decide)) (by omega) (by omega)) (fun a38 c38 e38 hr38 => ?_)   -- 38
        refine ow_nil (into ?_)
        refine sw_region ?_
        refine ow_val (val_add_int ((i + 1 : Nat) : Int) rfl rfl (by omega) (by omega)) rfl ?_   -- 39
        refine ow_val (val_move rfl) rfl ?_   -- 32
        exact ow_nil (fun w hm => ⟨(i + 1, a38, c38, e38, _), ⟨by dsimp only; omega, (by dsimp only; rw [hk1, Nat.succ_mul]; omega), (by dsimp only; exact hr38.cong rfl rfl (by rw [take_getD (l := ks) (by omega), kidsB, kidsB, List.flatMap_append, List.flatMap_cons, List.flatMap_nil, List.append_nil, List.append_assoc]))⟩, by dsimp only; omega, ⟨rfl, rfl, rfl, rfl, rfl, trivial⟩, hm.only (.cons _ (.cons_cons _ (.cons_cons _ (List.nil_sublist _))))⟩)
      · -- else
        obtain rfl : i = ks.length := by omega
        rw [List.take_length] at hrow1
        refine sw_exit (into ?_)
        refine sw_seq ?_
        refine sw_region ?_
        refine ow_call_row (E := 5) (size := 1) (k := k1) (xs := (X ++ kidsB k ks).map vU8) (callsTo Tryd.func86 rfl (by kernel_rfl) rfl) rfl (fun w hm => wbytes_any b9 _ _ _ _ _ w (hm.start2 (i := 1) (j := 0) rfl rfl (by decide)) hrow1 (by omega)) (fun a40 c40 e40 hr40 => ?_)   -- 40
        refine ow_val (val_assign rfl) rfl ?_   -- 6
        refine ow_val (val_assign rfl) rfl ?_   -- 7
        refine ow_nil (into ?_)
        exact sw_ret (fun w hm => ret_two _ _ rfl rfl rfl ⟨_, e40, by rw [hB] <;> rfl, hr40.cong rfl (by rw [hk1, branchP, if_pos hB, Int.toNat_natCast, branchI, List.length_append, List.length_append, be_len, kids_all k ks hks h2]; simp) (by rw [hX, branchP, if_pos hB, branchI]; rfl), hm.only (.cons_cons _ (List.nil_sublist _))⟩)

theorem branchInput_any (w : World) (v0 : Int) (bm : UInt16) (a : Option Addr) (c : Nat) (ks : List (List UInt8)) (hks : ∀ d ∈ ks, d.length = 32) (hr : Rd w a (ks.flatMap fun d => d.map vU8)) (hc : ks.length ≤ c) (hl : ks.length < 9223372036854775808) : Calls Tryd.prog 56 #[vInt v0, vU16 bm, .slice a ks.length c] w fun en w' => ∃ u, en = .returned u ∧ ∃ s e', u = .tuple #[s, vInt ((chkB v0 bm ks : Nat) : Int)] ∧ RowE s 5 1 (branchP v0 bm ks).length ((branchP v0 bm ks).map vU8) e' ∧ Mem w [] [e'] w' := by
  by_cases he : chk v0 ks = 0
  · by_cases hb : bm = 0 ∨ ones bm ≠ ks.length
    · exact branchInput_bad v0 bm w a c ks hks hr hc hl he hb
    · obtain ⟨k, rfl, h1, h2⟩ := wd_nat (chk_wd he); exact branchInput_ok k h1 h2 bm w a c ks hks hr hc hl he hb
  · exact branchInput_err v0 bm w a c ks hks hr hc hl he

theorem root_log' {l r : List UInt8} (size : UInt64) (hl : l.length = 32) : ((vU64 size :: (l.map vU8 ++ r.map vU8)).drop 1).take 32 = l.map vU8 := by
  rw [List.drop_succ_cons, List.drop_zero, List.take_append_of_le_length (by rw [List.length_map]; omega), List.take_of_length_le (by rw [List.length_map]; omega)]
theorem root_map' {l r : List UInt8} (size : UInt64) (hl : l.length = 32) (hr : r.length = 32) : ((vU64 size :: (l.map vU8 ++ r.map vU8)).drop 33).take 32 = r.map vU8 := by
  rw [List.drop_succ_cons, List.drop_left' (by rw [List.length_map]; exact hl), List.take_of_length_le (by rw [List.length_map]; omega)]
theorem root_log {l r : List UInt8} (size : UInt64) (hl : l.length = 32) : ((vU64 size :: (l.map vU8 ++ r.map vU8)).drop 1).take l.length = l.map vU8 := by rw [hl]; exact root_log' size hl
theorem root_map {l r : List UInt8} (size : UInt64) (hl : l.length = 32) (hr : r.length = 32) : ((vU64 size :: (l.map vU8 ++ r.map vU8)).drop 33).take r.length = r.map vU8 := by rw [hr]; exact root_map' size hl hr

theorem rootInput_err (v0 : Int) (size : UInt64) (w : World) (l r : List UInt8) (hll : l.length = 32) (hrl : r.length = 32) (he : ¬ chk v0 [l, r] = 0) : Calls Tryd.prog 43 #[vInt v0, .agg (vU64 size :: (l.map vU8 ++ r.map vU8)).toArray] w fun en w' => ∃ u, en = .returned u ∧ ∃ s e', u = .tuple #[s, vInt ((chk v0 [l, r] : Nat) : Int)] ∧ RowE s 5 1 (rootP v0 size l r).length ((rootP v0 size l r).map vU8) e' ∧ Mem w [] [e'] w' := by
  refine calls_of_sw (vs := [vInt v0, .agg (vU64 size :: (l.map vU8 ++ r.map vU8)).toArray]) Tryd.func43 rfl Tryd.ntmps43 rfl (SW.begin ?_)
  refine sw_seq ?_
  refine sw_region ?_
  refine ow_new (acts_box rfl) rfl (fun b3 hb3 => ?_)   -- 3
  refine ow_val (val_assign rfl) rfl ?_   -- 4
  refine ow_val (val_assign rfl) rfl ?_   -- 5
  refine ow_nil (into ?_)
  refine sw_seq ?_
  refine sw_seq ?_
  refine sw_region ?_
  refine ow_val (val_move rfl) rfl ?_   -- 8
  refine ow_val (val_fieldAddr (m := 31) (e := 1) rfl Tryd.underlying48 rfl rfl Tryd.sizeOf27 rfl) rfl ?_   -- 9
  refine ow_val (val_load_part 0 rfl rfl Tryd.isAgg27 Tryd.sizeOf27 (by show (List.map vU8 l).length = _; rw [List.length_map]; exact hll) (root_log' size hll)) rfl ?_   -- 10
  refine ow_val (val_fieldAddr (m := 31) (e := 33) rfl Tryd.underlying48 rfl rfl Tryd.sizeOf27 rfl) rfl ?_   -- 11
  refine ow_val (val_load_part 0 rfl rfl Tryd.isAgg27 Tryd.sizeOf27 (by show (List.map vU8 r).length = _; rw [List.length_map]; exact hrl) (root_map' size hll hrl)) rfl ?_   -- 12
  refine ow_make (acts_buildSlice (cs := [l.map vU8, r.map vU8].flatten) Tryd.underlying45 Tryd.sizeOf27 zD rfl rfl (fill_aggs [l.map vU8, r.map vU8] (by decide) rfl (by simp only [List.forall_mem_cons, List.length_map]; exact ⟨hll, hrl, fun _ h => by cases h⟩))) rfl (fun b13 hb13 => ?_)   -- 13
  refine ow_call_pure (callsTo Tryd.func82 rfl (by kernel_rfl) rfl) rfl (fun w hm => check_any v0 w (some ⟨b13, 0, none⟩) 2 [l, r] (by simp only [List.forall_mem_cons]; exact ⟨hll, hrl, fun _ h => by cases h⟩) (Rd.blk (hm.at (i := 0) rfl)) (by simp) (by simp)) ?_   -- 14
  refine ow_val (val_assign rfl) rfl ?_   -- 6
  refine ow_nil (into ?_)
  refine sw_seq ?_
  refine sw_region ?_
  refine ow_val (val_move rfl) rfl ?_   -- 15
  refine ow_val (val_neq_int rfl rfl) rfl ?_   -- 16
  refine ow_nil (into ?_)
  refine sw_true rfl (by simp [he]) ?_
  refine sw_seq ?_
  refine sw_region ?_
  refine ow_val (val_move rfl) rfl ?_   -- 17
  refine ow_val (val_assign rfl) rfl ?_   -- 4
  refine ow_val (val_assign rfl) rfl ?_   -- 5
  refine ow_nil (into ?_)
  refine sw_ret (fun w hm => ?_)
  try dsimp only [thenP, blockP, Nat.beq, cond]
  exact ret_two _ _ rfl rfl rfl ⟨_, none, rfl, by rw [rootP, if_neg he]; exact RowE.nil _ _, hm.forgetAll.place⟩

theorem rootInput_ok (k : Nat) (h1 : 1 ≤ k) (h2 : k ≤ 32) (size : UInt64) (w : World) (l r : List UInt8) (hll : l.length = 32) (hrl : r.length = 32) (he : chk (k : Int) [l, r] = 0) : Calls Tryd.prog 43 #[vInt (k : Int), .agg (vU64 size :: (l.map vU8 ++ r.map vU8)).toArray] w fun en w' => ∃ u, en = .returned u ∧ ∃ s e', u = .tuple #[s, vInt ((chk (k : Int) [l, r] : Nat) : Int)] ∧ RowE s 5 1 (rootP (k : Int) size l r).length ((rootP (k : Int) size l r).map vU8) e' ∧ Mem w [] [e'] w' := by
  refine calls_of_sw (vs := [vInt (k : Int), .agg (vU64 size :: (l.map vU8 ++ r.map vU8)).toArray]) Tryd.func43 rfl Tryd.ntmps43 rfl (SW.begin ?_)
  refine sw_seq ?_
  refine sw_region ?_
  refine ow_new (acts_box rfl) rfl (fun b3 hb3 => ?_)   -- 3
  refine ow_val (val_assign rfl) rfl ?_   -- 4
  refine ow_val (val_assign rfl) rfl ?_   -- 5
  refine ow_nil (into ?_)
  refine sw_seq ?_
  refine sw_seq ?_
  refine sw_region ?_
  refine ow_val (val_move rfl) rfl ?_   -- 8
  refine ow_val (val_fieldAddr (m := 31) (e := 1) rfl Tryd.underlying48 rfl rfl Tryd.sizeOf27 rfl) rfl ?_   -- 9
  refine ow_val (val_load_part 0 rfl rfl Tryd.isAgg27 Tryd.sizeOf27 (by show (List.map vU8 l).length = _; rw [List.length_map]; exact hll) (root_log' size hll)) rfl ?_   -- 10
  refine ow_val (val_fieldAddr (m := 31) (e := 33) rfl Tryd.underlying48 rfl rfl Tryd.sizeOf27 rfl) rfl ?_   -- 11
  refine ow_val (val_load_part 0 rfl rfl Tryd.isAgg27 Tryd.sizeOf27 (by show (List.map vU8 r).length = _; rw [List.length_map]; exact hrl) (root_map' size hll hrl)) rfl ?_   -- 12
  refine ow_make (acts_buildSlice (cs := [l.map vU8, r.map vU8].flatten) Tryd.underlying45 Tryd.sizeOf27 zD rfl rfl (fill_aggs [l.map vU8, r.map vU8] (by decide) rfl (by simp only [List.forall_mem_cons, List.length_map]; exact ⟨hll, hrl, fun _ h => by cases h⟩))) rfl (fun b13 hb13 => ?_)   -- 13
  refine ow_call_pure (v := vInt ((0 : Nat) : Int)) (callsTo Tryd.func82 rfl (by kernel_rfl) rfl) rfl (fun w hm => (by have h := check_any (k : Int) w (some ⟨b13, 0, none⟩) 2 [l, r] (by simp only [List.forall_mem_cons]; exact ⟨hll, hrl, fun _ h => by cases h⟩) (Rd.blk (hm.at (i := 0) rfl)) (by simp) (by simp); rw [he] at h; exact h)) ?_   -- 14
  refine ow_val (val_assign rfl) rfl ?_   -- 6
  refine ow_nil (into ?_)
  refine sw_seq ?_
  refine sw_region ?_
  refine ow_val (val_move rfl) rfl ?_   -- 15
  refine ow_val ((val_neq_int rfl rfl).to (v' := .bool false) (congrArg Value.bool (decide_eq_false (fun h => h (by simp))))) rfl ?_   -- 16
  refine ow_nil (into ?_)
  refine sw_false rfl (by simp) ?_
  refine sw_skip (into ?_)
  refine sw_seq ?_
  refine sw_region ?_
  refine ow_new (acts_alloc zW) rfl (fun b7 hb7 => ?_)   -- 7
  refine ow_place ?_
  refine ow_nil (into ?_)
  refine sw_seq ?_
  refine sw_region ?_
  refine ow_call_wr (k := 1) (E := 5) (T := 109) (xs := (([] : List UInt8) ++ ([6] : List UInt8)).map vU8) 1 0 rfl rfl (by decide) (callsTo Tryd.func83 rfl (by kernel_rfl) rfl) rfl (fun w hm hs => wu8_any b7 none 0 0 ([] : List UInt8) none w hs (RowE.nil _ _) 6 (by omega)) (fun a18 c18 e18 hr18 => ?_)   -- 18
  refine ow_nil (into ?_)
  refine sw_seq ?_
  refine sw_region ?_
  refine ow_val (val_fieldAddr (m := 0) (e := 0) rfl Tryd.underlying48 rfl rfl Tryd.sizeOf46 rfl) rfl ?_   -- 19
  refine ow_val (val_load_at 3 rfl rfl Tryd.isAgg46 rfl) rfl ?_   -- 20
  refine ow_call_wr (k := 1 + 8) (E := 5) (T := 109) (xs := ((([] : List UInt8) ++ ([6] : List UInt8)) ++ (be size 8)).map vU8) 1 0 rfl rfl (by decide) (callsTo Tryd.func84 rfl (by kernel_rfl) rfl) rfl (fun w hm hs => wu64_any b7 a18 1 c18 (([] : List UInt8) ++ ([6] : List UInt8)) e18 w hs hr18 size (by omega)) (fun a21 c21 e21 hr21 => ?_)   -- 21
  refine ow_nil (into ?_)
  refine sw_seq ?_
  refine sw_region ?_
  refine ow_val (val_fieldAddr (m := 31) (e := 1) rfl Tryd.underlying48 rfl rfl Tryd.sizeOf27 rfl) rfl ?_   -- 22
  refine ow_val (val_move rfl) rfl ?_   -- 23
  refine ow_val (val_slice_array_hi' k 1 rfl rfl Tryd.underlying27 Tryd.sizeOf5 rfl (by omega) rfl) rfl ?_   -- 24
  refine ow_call_wr (k := 1 + 8 + k) (E := 5) (T := 109) (xs := (((([] : List UInt8) ++ ([6] : List UInt8)) ++ (be size 8)) ++ (l.take k)).map vU8) 1 0 rfl rfl (by decide) (callsTo Tryd.func85 rfl (by kernel_rfl) rfl) rfl (fun w hm hs => wraw_any b7 a21 (1 + 8) c21 ((([] : List UInt8) ++ ([6] : List UInt8)) ++ (be size 8)) e21 w hs hr21 (some ⟨b3, 1, none⟩) k _ (l.take k) (by rw [List.length_take, hll]; omega) ((Rd.ownP (V := vU8) (p := l) 1 hm (i := 3) rfl (root_log size hll)).take1 k) (fun _ => hm.ownNe (k := 3) (i := 1) (j := 0) rfl rfl rfl (by decide) (by decide)) (by omega) (by omega)) (fun a25 c25 e25 hr25 => ?_)   -- 25
  refine ow_nil (into ?_)
  refine sw_seq ?_
  refine sw_region ?_
  refine ow_val (val_fieldAddr (m := 31) (e := 33) rfl Tryd.underlying48 rfl rfl Tryd.sizeOf27 rfl) rfl ?_   -- 26
  refine ow_val (val_move rfl) rfl ?_   -- 27
  refine ow_val (val_slice_array_hi' k 33 rfl rfl Tryd.underlying27 Tryd.sizeOf5 rfl (by omega) rfl) rfl ?_   -- 28
  refine ow_call_wr (k := 1 + 8 + k + k) (E := 5) (T := 109) (xs := ((((([] : List UInt8) ++ ([6] : List UInt8)) ++ (be size 8)) ++ (l.take k)) ++ (r.take k)).map vU8) 1 0 rfl rfl (by decide) (callsTo Tryd.func85 rfl (by kernel_rfl) rfl) rfl (fun w hm hs => wraw_any b7 a25 (1 + 8 + k) c25 (((([] : List UInt8) ++ ([6] : List UInt8)) ++ (be size 8)) ++ (l.take k)) e25 w hs hr25 (some ⟨b3, 33, none⟩) k _ (r.take k) (by rw [List.length_take, hrl]; omega) ((Rd.ownP (V := vU8) (p := r) 33 hm (i := 3) rfl (root_map size hll hrl)).take1 k) (fun _ => hm.ownNe (k := 3) (i := 1) (j := 0) rfl rfl rfl (by decide) (by decide)) (by omega) (by omega)) (fun a29 c29 e29 hr29 => ?_)   -- 29
  refine ow_nil (into ?_)
  refine sw_seq ?_
  refine sw_region ?_
  refine ow_call_row (E := 5) (size := 1) (k := 1 + 8 + k + k) (xs := ((((([] : List UInt8) ++ ([6] : List UInt8)) ++ (be size 8)) ++ (l.take k)) ++ (r.take k)).map vU8) (callsTo Tryd.func86 rfl (by kernel_rfl) rfl) rfl (fun w hm => wbytes_any b7 _ _ _ _ _ w (hm.start2 (i := 1) (j := 0) rfl rfl (by decide)) hr29 (by omega)) (fun a30 c30 e30 hr30 => ?_)   -- 30
  refine ow_val (val_assign rfl) rfl ?_   -- 4
  refine ow_val (val_assign rfl) rfl ?_   -- 5
  refine ow_nil (into ?_)
  exact sw_ret (fun w hm => ret_two _ _ rfl rfl rfl ⟨_, e30, by rw [he] <;> rfl, hr30.cong rfl (by rw [rootP, if_pos he, Int.toNat_natCast, rootI]; simp only [List.length_append, be_len, List.length_take, hll, hrl, List.length_cons, List.length_nil]; omega) (by rw [rootP, if_pos he]; rfl), hm.only (.cons_cons _ (List.nil_sublist _))⟩)

theorem rootInput_any (w : World) (v0 : Int) (size : UInt64) (l r : List UInt8) (hll : l.length = 32) (hrl : r.length = 32) : Calls Tryd.prog 43 #[vInt v0, .agg (vU64 size :: (l.map vU8 ++ r.map vU8)).toArray] w fun en w' => ∃ u, en = .returned u ∧ ∃ s e', u = .tuple #[s, vInt ((chk v0 [l, r] : Nat) : Int)] ∧ RowE s 5 1 (rootP v0 size l r).length ((rootP v0 size l r).map vU8) e' ∧ Mem w [] [e'] w' := by
  by_cases he : chk v0 [l, r] = 0
  · obtain ⟨k, rfl, h1, h2⟩ := wd_nat (chk_wd he); exact rootInput_ok k h1 h2 size w l r hll hrl he
  · exact rootInput_err v0 size w l r hll hrl he

theorem leaf_any (v0 : Int) (w : World) (hK : KW w) (ap : Option Addr) (m cp : Nat) (p : List UInt8) (hpm : p.length = m) (hr : Rd w ap (p.map vU8)) (hcp : m ≤ cp) (hb : m < 140737488355328) : Calls Tryd.prog 30 #[vInt v0, .slice ap m cp] w fun en w' => ∃ v, en = .returned v ∧ v = .tuple #[.agg (((digO v0 (leafI p) 0).1).map vU8).toArray, vInt ((digO v0 (leafI p) 0).2 : Int)] ∧ Mem w [] [] w' := by
  refine calls_of_sw (vs := [vInt v0, .slice ap m cp]) Tryd.func30 rfl Tryd.ntmps30 rfl (SW.begin ?_)
  refine sw_seq ?_
  refine sw_region ?_
  refine ow_new (acts_alloc zD) rfl (fun b4 hb4 => ?_)   -- 4
  refine ow_val (val_assign rfl) rfl ?_   -- 5
  refine ow_nil (into ?_)
  refine sw_seq ?_
  refine sw_region ?_
  refine ow_val (val_move rfl) rfl ?_   -- 6
  refine ow_val (val_move rfl) rfl ?_   -- 7
  refine ow_call_row (E := 5) (size := 1) (k := 1 + m) (xs := (leafI p).map vU8) (callsTo Tryd.func52 rfl (by kernel_rfl) rfl) rfl (fun w hm => leafI_any w _ m _ p hpm (hr.mem hm) (by omega) (by omega)) (fun a8 c8 e8 hr8 => ?_)   -- 8
  refine ow_make (acts_buildSlice (cs := [.slice a8 (1 + m) c8]) Tryd.underlying32 Tryd.sizeOf25 Tryd.zeroValue25 rfl rfl (by kernel_rfl)) rfl (fun b9 hb9 => ?_)   -- 9
  refine ow_call_pure (v := .tuple #[.agg (((digO v0 (leafI p) 0).1).map vU8).toArray, vInt ((digO v0 (leafI p) 0).2 : Int)]) (callsTo Tryd.func17 rfl (by kernel_rfl) rfl) rfl (fun w hm => dsum1_any v0 w (hK.mem0 hm) b9 (Rd.blk (hm.at (i := 0) rfl)) (leafI p) (by rw [leafI, List.length_append, hpm]; rfl) (hr8.rdAt hm (i := 1) rfl) hr8.le (by omega)) ?_   -- 10
  refine ow_val (val_extract rfl rfl) rfl ?_   -- 11
  refine ow_val (val_extract rfl rfl) rfl ?_   -- 12
  refine ow_do_eq (does_store_all 2 rfl rfl rfl (one_u8s _) Tryd.sizeOf27 (by show (List.map vU8 ((digO v0 (leafI p) 0).1)).length = _; rw [List.length_map]; exact (digO_len _ _ _)) (by show (List.map vU8 zeros32).length = _; rw [List.length_map]; exact zeros32_len)) ?_
  refine ow_val (val_assign rfl) rfl ?_   -- 5
  refine ow_nil (into ?_)
  exact sw_ret (fun w hm => ret_cell_two 2 rfl rfl rfl hm rfl Tryd.isAgg27 Tryd.sizeOf27 (by rw [List.length_map]; exact digO_len _ _ _) ⟨rfl, hm.forgetAll⟩)

theorem key_any (v0 : Int) (w : World) (hK : KW w) (ap : Option Addr) (m cp : Nat) (p : List UInt8) (hpm : p.length = m) (hr : Rd w ap (p.map vU8)) (hcp : m ≤ cp) (hb : m < 140737488355328) : Calls Tryd.prog 68 #[vInt v0, .slice ap m cp] w fun en w' => ∃ v, en = .returned v ∧ v = .tuple #[.agg (((digO v0 (keyI p) 0).1).map vU8).toArray, vInt ((digO v0 (keyI p) 0).2 : Int)] ∧ Mem w [] [] w' := by
  refine calls_of_sw (vs := [vInt v0, .slice ap m cp]) Tryd.func68 rfl Tryd.ntmps68 rfl (SW.begin ?_)
  refine sw_seq ?_
  refine sw_region ?_
  refine ow_new (acts_alloc zD) rfl (fun b4 hb4 => ?_)   -- 4
  refine ow_val (val_assign rfl) rfl ?_   -- 5
  refine ow_nil (into ?_)
  refine sw_seq ?_
  refine sw_region ?_
  refine ow_val (val_move rfl) rfl ?_   -- 6
  refine ow_val (val_move rfl) rfl ?_   -- 7
  refine ow_call_row (E := 5) (size := 1) (k := 1 + m) (xs := (keyI p).map vU8) (callsTo Tryd.func54 rfl (by kernel_rfl) rfl) rfl (fun w hm => keyI_any w _ m _ p hpm (hr.mem hm) (by omega) (by omega)) (fun a8 c8 e8 hr8 => ?_)   -- 8
  refine ow_make (acts_buildSlice (cs := [.slice a8 (1 + m) c8]) Tryd.underlying32 Tryd.sizeOf25 Tryd.zeroValue25 rfl rfl (by kernel_rfl)) rfl (fun b9 hb9 => ?_)   -- 9
  refine ow_call_pure (v := .tuple #[.agg (((digO v0 (keyI p) 0).1).map vU8).toArray, vInt ((digO v0 (keyI p) 0).2 : Int)]) (callsTo Tryd.func17 rfl (by kernel_rfl) rfl) rfl (fun w hm => dsum1_any v0 w (hK.mem0 hm) b9 (Rd.blk (hm.at (i := 0) rfl)) (keyI p) (by rw [keyI, List.length_append, hpm]; rfl) (hr8.rdAt hm (i := 1) rfl) hr8.le (by omega)) ?_   -- 10
  refine ow_val (val_extract rfl rfl) rfl ?_   -- 11
  refine ow_val (val_extract rfl rfl) rfl ?_   -- 12
  refine ow_do_eq (does_store_all 2 rfl rfl rfl (one_u8s _) Tryd.sizeOf27 (by show (List.map vU8 ((digO v0 (keyI p) 0).1)).length = _; rw [List.length_map]; exact (digO_len _ _ _)) (by show (List.map vU8 zeros32).length = _; rw [List.length_map]; exact zeros32_len)) ?_
  refine ow_val (val_assign rfl) rfl ?_   -- 5
  refine ow_nil (into ?_)
  exact sw_ret (fun w hm => ret_cell_two 2 rfl rfl rfl hm rfl Tryd.isAgg27 Tryd.sizeOf27 (by rw [List.length_map]; exact digO_len _ _ _) ⟨rfl, hm.forgetAll⟩)

theorem nolog_any (v0 : Int) (w : World) (hK : KW w) : Calls Tryd.prog 20 #[vInt v0] w fun en w' => ∃ v, en = .returned v ∧ v = .tuple #[.agg (((digO v0 [] 0).1).map vU8).toArray, vInt ((digO v0 [] 0).2 : Int)] ∧ Mem w [] [] w' := by
  refine calls_of_sw (vs := [vInt v0]) Tryd.func20 rfl Tryd.ntmps20 rfl (SW.begin ?_)
  refine sw_seq ?_
  refine sw_region ?_
  refine ow_new (acts_alloc zD) rfl (fun b2 hb2 => ?_)   -- 2
  refine ow_val (val_assign rfl) rfl ?_   -- 3
  refine ow_nil (into ?_)
  refine sw_seq ?_
  refine sw_region ?_
  refine ow_val (val_move rfl) rfl ?_   -- 4
  refine ow_call_pure (v := .tuple #[.agg (((digO v0 [] 0).1).map vU8).toArray, vInt ((digO v0 [] 0).2 : Int)]) (callsTo Tryd.func17 rfl (by kernel_rfl) rfl) rfl (fun w hm => dsum0_any v0 w (hK.mem0 hm)) ?_   -- 5
  refine ow_val (val_extract rfl rfl) rfl ?_   -- 6
  refine ow_val (val_extract rfl rfl) rfl ?_   -- 7
  refine ow_do_eq (does_store_all 0 rfl rfl rfl (one_u8s _) Tryd.sizeOf27 (by show (List.map vU8 ((digO v0 [] 0).1)).length = _; rw [List.length_map]; exact (digO_len _ _ _)) (by show (List.map vU8 zeros32).length = _; rw [List.length_map]; exact zeros32_len)) ?_
  refine ow_val (val_assign rfl) rfl ?_   -- 3
  refine ow_nil (into ?_)
  exact sw_ret (fun w hm => ret_cell_two 0 rfl rfl rfl hm rfl Tryd.isAgg27 Tryd.sizeOf27 (by rw [List.length_map]; exact digO_len _ _ _) ⟨rfl, hm.forgetAll⟩)

theorem nomap_any (v0 : Int) (w : World) (hK : KW w) : Calls Tryd.prog 13 #[vInt v0] w fun en w' => ∃ v, en = .returned v ∧ v = .tuple #[.agg (((digO v0 [5] 0).1).map vU8).toArray, vInt ((digO v0 [5] 0).2 : Int)] ∧ Mem w [] [] w' := by
  refine calls_of_sw (vs := [vInt v0]) Tryd.func13 rfl Tryd.ntmps13 rfl (SW.begin ?_)
  refine sw_seq ?_
  refine sw_region ?_
  refine ow_new (acts_alloc zD) rfl (fun b2 hb2 => ?_)   -- 2
  refine ow_val (val_assign rfl) rfl ?_   -- 3
  refine ow_nil (into ?_)
  refine sw_seq ?_
  refine sw_region ?_
  refine ow_val (val_move rfl) rfl ?_   -- 4
  refine ow_make (acts_buildSlice (cs := ([5] : List UInt8).map vU8) Tryd.underlying25 Tryd.sizeOf5 Tryd.zeroValue5 rfl rfl (by kernel_rfl)) rfl (fun b5 hb5 => ?_)   -- 5
  refine ow_make (acts_buildSlice (cs := [.slice (some ⟨b5, 0, none⟩) 1 1]) Tryd.underlying32 Tryd.sizeOf25 Tryd.zeroValue25 rfl rfl (by kernel_rfl)) rfl (fun b6 hb6 => ?_)   -- 6
  refine ow_call_pure (v := .tuple #[.agg (((digO v0 ([5] : List UInt8) 0).1).map vU8).toArray, vInt ((digO v0 ([5] : List UInt8) 0).2 : Int)]) (callsTo Tryd.func17 rfl (by kernel_rfl) rfl) rfl (fun w hm => dsum1_any v0 w (hK.mem0 hm) b6 (Rd.blk (hm.at (i := 0) rfl)) ([5] : List UInt8) rfl (Rd.blk (hm.at (i := 1) rfl)) (by omega) (by omega)) ?_   -- 7
  refine ow_val (val_extract rfl rfl) rfl ?_   -- 8
  refine ow_val (val_extract rfl rfl) rfl ?_   -- 9
  refine ow_do_eq (does_store_all 2 rfl rfl rfl (one_u8s _) Tryd.sizeOf27 (by show (List.map vU8 ((digO v0 ([5] : List UInt8) 0).1)).length = _; rw [List.length_map]; exact (digO_len _ _ _)) (by show (List.map vU8 zeros32).length = _; rw [List.length_map]; exact zeros32_len)) ?_
  refine ow_val (val_assign rfl) rfl ?_   -- 3
  refine ow_nil (into ?_)
  exact sw_ret (fun w hm => ret_cell_two 2 rfl rfl rfl hm rfl Tryd.isAgg27 Tryd.sizeOf27 (by rw [List.length_map]; exact digO_len _ _ _) ⟨rfl, hm.forgetAll⟩)

theorem nodeP_len (v0 : Int) (l r : List UInt8) (hl : l.length = 32) (hr : r.length = 32) : (nodeP v0 l r).length ≤ 65 := by
  unfold nodeP
  by_cases h : chk v0 [l, r] = 0
  · rw [if_pos h]; simp [nodeI, hl, hr]; omega
  · rw [if_neg h]; simp
theorem rootP_len (v0 : Int) (size : UInt64) (l r : List UInt8) (hl : l.length = 32) (hr : r.length = 32) : (rootP v0 size l r).length ≤ 73 := by
  unfold rootP
  by_cases h : chk v0 [l, r] = 0
  · rw [if_pos h]; simp [rootI, hl, hr, be_len]; omega
  · rw [if_neg h]; simp
theorem branchP_len (v0 : Int) (bm : UInt16) (ks : List (List UInt8)) (hks : ∀ d ∈ ks, d.length = 32) : (branchP v0 bm ks).length ≤ 515 := by
  unfold branchP
  by_cases h : chkB v0 bm ks = 0
  · rw [if_pos h]
    have h0 : chk v0 ks = 0 := by
      cases hc : chk v0 ks with
      | zero => rfl
      | succ n => simp [chkB, hc] at h
    obtain ⟨k, rfl, h1, h2⟩ := wd_nat (chk_wd h0)
    have h3 : ones bm = ks.length := Classical.byContradiction fun h4 => by rw [chkB, if_neg (by simp [h0]), if_pos (.inr h4)] at h; cases h
    have h5 := onesF_le 16 bm.toNat
    have h6 : ones bm ≤ 16 := h5
    have h7 : ks.length * k ≤ 512 := Nat.le_trans (Nat.mul_le_mul (show ks.length ≤ 16 by omega) h2) (by decide)
    simp only [branchI, Int.toNat_natCast, List.length_append, be_len, kids_all k ks hks h2, List.length_cons, List.length_nil]; omega
  · rw [if_neg h]; simp

theorem node_any (w : World) (hK : KW w) (v0 : Int) (l r : List UInt8) (hll : l.length = 32) (hrl : r.length = 32) : Calls Tryd.prog 67 #[vInt v0, .agg ((l).map vU8).toArray, .agg ((r).map vU8).toArray] w fun en w' => ∃ v, en = .returned v ∧ v = .tuple #[.agg (((digO v0 (nodeP v0 l r) (chk v0 [l, r])).1).map vU8).toArray, vInt ((digO v0 (nodeP v0 l r) (chk v0 [l, r])).2 : Int)] ∧ Mem w [] [] w' := by
  have hNP := nodeP_len v0 l r hll hrl
  refine calls_of_sw (vs := [vInt v0, .agg ((l).map vU8).toArray, .agg ((r).map vU8).toArray]) Tryd.func67 rfl Tryd.ntmps67 rfl (SW.begin ?_)
  refine sw_seq ?_
  refine sw_region ?_
  refine ow_new (acts_box rfl) rfl (fun b4 hb4 => ?_)   -- 4
  refine ow_new (acts_box rfl) rfl (fun b5 hb5 => ?_)   -- 5
  refine ow_new (acts_alloc zD) rfl (fun b6 hb6 => ?_)   -- 6
  refine ow_val (val_assign rfl) rfl ?_   -- 7
  refine ow_nil (into ?_)
  refine sw_seq ?_
  refine sw_region ?_
  refine ow_val (val_move rfl) rfl ?_   -- 11
  refine ow_val (val_load_all 2 rfl rfl Tryd.isAgg27 Tryd.sizeOf27 (by show (List.map vU8 l).length = _; rw [List.length_map]; exact hll)) rfl ?_   -- 12
  refine ow_val (val_load_all 1 rfl rfl Tryd.isAgg27 Tryd.sizeOf27 (by show (List.map vU8 r).length = _; rw [List.length_map]; exact hrl)) rfl ?_   -- 13
  refine ow_call_row2 (E := 5) (size := 1) (k := (nodeP v0 l r).length) (xs := (nodeP v0 l r).map vU8) (x := vInt ((chk v0 [l, r] : Nat) : Int)) (callsTo Tryd.func53 rfl (by kernel_rfl) rfl) rfl (fun w hm => nodeInput_any w v0 l r hll hrl) (fun a14 c14 e14 hr14 => ?_)   -- 14
  refine ow_val (val_move rfl) rfl ?_   -- 10
  refine ow_val (val_extract rfl rfl) rfl ?_   -- 15
  refine ow_val (val_extract rfl rfl) rfl ?_   -- 16
  refine ow_val (val_assign rfl) rfl ?_   -- 8
  refine ow_val (val_assign rfl) rfl ?_   -- 9
  refine ow_nil (into ?_)
  refine sw_seq ?_
  refine sw_region ?_
  refine ow_val (val_move rfl) rfl ?_   -- 17
  refine ow_val (val_move rfl) rfl ?_   -- 18
  refine ow_val (val_move rfl) rfl ?_   -- 19
  refine ow_call_pure (callsTo Tryd.func101 rfl (by kernel_rfl) rfl) rfl (fun w hm => of_any v0  w (hK.mem0 hm) _ ((nodeP v0 l r).length) _ (nodeP v0 l r) rfl (hr14.rdAt hm (i := 0) rfl) hr14.le (by omega) (chk v0 [l, r])) ?_   -- 20
  refine ow_val (val_extract rfl rfl) rfl ?_   -- 21
  refine ow_val (val_extract rfl rfl) rfl ?_   -- 22
  refine ow_do_eq (does_store_all 1 rfl rfl rfl (one_u8s _) Tryd.sizeOf27 (by show (List.map vU8 ((digO v0 (nodeP v0 l r) (chk v0 [l, r])).1)).length = _; rw [List.length_map]; exact (digO_len _ _ _)) (by show (List.map vU8 zeros32).length = _; rw [List.length_map]; exact zeros32_len)) ?_
  refine ow_val (val_assign rfl) rfl ?_   -- 7
  refine ow_nil (into ?_)
  exact sw_ret (fun w hm => ret_cell_two 1 rfl rfl rfl hm rfl Tryd.isAgg27 Tryd.sizeOf27 (by rw [List.length_map]; exact digO_len _ _ _) ⟨rfl, hm.forgetAll⟩)

theorem branch_any (w : World) (hK : KW w) (v0 : Int) (bm : UInt16) (a : Option Addr) (c : Nat) (ks : List (List UInt8)) (hks : ∀ d ∈ ks, d.length = 32) (hr : Rd w a (ks.flatMap fun d => d.map vU8)) (hc : ks.length ≤ c) (hl : ks.length < 9223372036854775808) : Calls Tryd.prog 70 #[vInt v0, vU16 bm, .slice a ks.length c] w fun en w' => ∃ v, en = .returned v ∧ v = .tuple #[.agg (((digO v0 (branchP v0 bm ks) (chkB v0 bm ks)).1).map vU8).toArray, vInt ((digO v0 (branchP v0 bm ks) (chkB v0 bm ks)).2 : Int)] ∧ Mem w [] [] w' := by
  have hNP := branchP_len v0 bm ks hks
  refine calls_of_sw (vs := [vInt v0, vU16 bm, .slice a ks.length c]) Tryd.func70 rfl Tryd.ntmps70 rfl (SW.begin ?_)
  refine sw_seq ?_
  refine sw_region ?_
  refine ow_new (acts_alloc zD) rfl (fun b6 hb6 => ?_)   -- 6
  refine ow_val (val_assign rfl) rfl ?_   -- 7
  refine ow_nil (into ?_)
  refine sw_seq ?_
  refine sw_region ?_
  refine ow_val (val_move rfl) rfl ?_   -- 11
  refine ow_val (val_move rfl) rfl ?_   -- 12
  refine ow_val (val_move rfl) rfl ?_   -- 13
  refine ow_call_row2 (E := 5) (size := 1) (k := (branchP v0 bm ks).length) (xs := (branchP v0 bm ks).map vU8) (x := vInt ((chkB v0 bm ks : Nat) : Int)) (callsTo Tryd.func56 rfl (by kernel_rfl) rfl) rfl (fun w hm => branchInput_any w v0 bm a c ks hks (hr.mem hm) (by omega) (by omega)) (fun a14 c14 e14 hr14 => ?_)   -- 14
  refine ow_val (val_move rfl) rfl ?_   -- 10
  refine ow_val (val_extract rfl rfl) rfl ?_   -- 15
  refine ow_val (val_extract rfl rfl) rfl ?_   -- 16
  refine ow_val (val_assign rfl) rfl ?_   -- 8
  refine ow_val (val_assign rfl) rfl ?_   -- 9
  refine ow_nil (into ?_)
  refine sw_seq ?_
  refine sw_region ?_
  refine ow_val (val_move rfl) rfl ?_   -- 17
  refine ow_val (val_move rfl) rfl ?_   -- 18
  refine ow_val (val_move rfl) rfl ?_   -- 19
  refine ow_call_pure (callsTo Tryd.func101 rfl (by kernel_rfl) rfl) rfl (fun w hm => of_any v0  w (hK.mem0 hm) _ ((branchP v0 bm ks).length) _ (branchP v0 bm ks) rfl (hr14.rdAt hm (i := 0) rfl) hr14.le (by omega) (chkB v0 bm ks)) ?_   -- 20
  refine ow_val (val_extract rfl rfl) rfl ?_   -- 21
  refine ow_val (val_extract rfl rfl) rfl ?_   -- 22
  refine ow_do_eq (does_store_all 1 rfl rfl rfl (one_u8s _) Tryd.sizeOf27 (by show (List.map vU8 ((digO v0 (branchP v0 bm ks) (chkB v0 bm ks)).1)).length = _; rw [List.length_map]; exact (digO_len _ _ _)) (by show (List.map vU8 zeros32).length = _; rw [List.length_map]; exact zeros32_len)) ?_
  refine ow_val (val_assign rfl) rfl ?_   -- 7
  refine ow_nil (into ?_)
  exact sw_ret (fun w hm => ret_cell_two 1 rfl rfl rfl hm rfl Tryd.isAgg27 Tryd.sizeOf27 (by rw [List.length_map]; exact digO_len _ _ _) ⟨rfl, hm.forgetAll⟩)

theorem bucket_any (w : World) (hK : KW w) (v0 : Int) (a : Option Addr) (c : Nat) (ps : List (Sl UInt8 × Sl UInt8)) (hr : Rd w a (ps.flatMap fun x => [x.1.v, x.2.v])) (hps : ∀ s ∈ ps, (Rd w s.1.a (s.1.xs.map vU8) ∧ s.1.xs.length ≤ s.1.c ∧ s.1.xs.length < 9223372036854775808) ∧ (Rd w s.2.a (s.2.xs.map vU8) ∧ s.2.xs.length ≤ s.2.c ∧ s.2.xs.length < 9223372036854775808)) (hc : ps.length ≤ c) (hl : ps.length < 9223372036854775808) (hb : (pairsB (prs ps)).length ≤ 140737488300000) : Calls Tryd.prog 69 #[vInt v0, .slice a ps.length c] w fun en w' => ∃ v, en = .returned v ∧ v = .tuple #[.agg (((digO v0 (bucketI (prs ps)) 0).1).map vU8).toArray, vInt ((digO v0 (bucketI (prs ps)) 0).2 : Int)] ∧ Mem w [] [] w' := by
  have hbl : (bucketI (prs ps)).length ≤ 140737488300011 := by
    have hu := uvar_len (UInt64.ofNat (prs ps).length)
    simp only [bucketI, List.length_append, List.length_cons, List.length_nil]; omega
  refine calls_of_sw (vs := [vInt v0, .slice a ps.length c]) Tryd.func69 rfl Tryd.ntmps69 rfl (SW.begin ?_)
  refine sw_seq ?_
  refine sw_region ?_
  refine ow_new (acts_alloc zD) rfl (fun b4 hb4 => ?_)   -- 4
  refine ow_val (val_assign rfl) rfl ?_   -- 5
  refine ow_nil (into ?_)
  refine sw_seq ?_
  refine sw_region ?_
  refine ow_val (val_move rfl) rfl ?_   -- 6
  refine ow_val (val_move rfl) rfl ?_   -- 7
  refine ow_call_row (E := 5) (size := 1) (k := (bucketI (prs ps)).length) (xs := (bucketI (prs ps)).map vU8) (callsTo Tryd.func55 rfl (by kernel_rfl) rfl) rfl (fun w hm => bucketI_any w a c ps (hr.mem hm) (fun s hs => ⟨⟨(hps s hs).1.1.mem hm, (hps s hs).1.2⟩, ⟨(hps s hs).2.1.mem hm, (hps s hs).2.2⟩⟩) hc hl hb) (fun a8 c8 e8 hr8 => ?_)   -- 8
  refine ow_make (acts_buildSlice (cs := [.slice a8 ((bucketI (prs ps)).length) c8]) Tryd.underlying32 Tryd.sizeOf25 Tryd.zeroValue25 rfl rfl (by kernel_rfl)) rfl (fun b9 hb9 => ?_)   -- 9
  refine ow_call_pure (v := .tuple #[.agg (((digO v0 ((bucketI (prs ps))) 0).1).map vU8).toArray, vInt ((digO v0 ((bucketI (prs ps))) 0).2 : Int)]) (callsTo Tryd.func17 rfl (by kernel_rfl) rfl) rfl (fun w hm => dsum1_any v0 w (hK.mem0 hm) b9 (Rd.blk (hm.at (i := 0) rfl)) ((bucketI (prs ps))) rfl (hr8.rdAt hm (i := 1) rfl) hr8.le (by omega)) ?_   -- 10
  refine ow_val (val_extract rfl rfl) rfl ?_   -- 11
  refine ow_val (val_extract rfl rfl) rfl ?_   -- 12
  refine ow_do_eq (does_store_all 2 rfl rfl rfl (one_u8s _) Tryd.sizeOf27 (by show (List.map vU8 ((digO v0 ((bucketI (prs ps))) 0).1)).length = _; rw [List.length_map]; exact (digO_len _ _ _)) (by show (List.map vU8 zeros32).length = _; rw [List.length_map]; exact zeros32_len)) ?_
  refine ow_val (val_assign rfl) rfl ?_   -- 5
  refine ow_nil (into ?_)
  exact sw_ret (fun w hm => ret_cell_two 2 rfl rfl rfl hm rfl Tryd.isAgg27 Tryd.sizeOf27 (by rw [List.length_map]; exact digO_len _ _ _) ⟨rfl, hm.forgetAll⟩)

theorem root_size {l r : List UInt8} (size : UInt64) (hl : l.length = 32) (hr : r.length = 32) : (vU64 size :: (l.map vU8 ++ r.map vU8)).length = 65 := by simp [hl, hr]

theorem root_any (w : World) (hK : KW w) (v0 : Int) (size : UInt64) (l r : List UInt8) (hll : l.length = 32) (hrl : r.length = 32) : Calls Tryd.prog 71 #[vInt v0, .agg (vU64 size :: (l.map vU8 ++ r.map vU8)).toArray] w fun en w' => ∃ v, en = .returned v ∧ v = .tuple #[.agg (((digO v0 (rootP v0 size l r) (chk v0 [l, r])).1).map vU8).toArray, vInt ((digO v0 (rootP v0 size l r) (chk v0 [l, r])).2 : Int)] ∧ Mem w [] [] w' := by
  have hNP := rootP_len v0 size l r hll hrl
  refine calls_of_sw (vs := [vInt v0, .agg (vU64 size :: (l.map vU8 ++ r.map vU8)).toArray]) Tryd.func71 rfl Tryd.ntmps71 rfl (SW.begin ?_)
  refine sw_seq ?_
  refine sw_region ?_
  refine ow_new (acts_box rfl) rfl (fun b3 hb3 => ?_)   -- 3
  refine ow_new (acts_alloc zD) rfl (fun b4 hb4 => ?_)   -- 4
  refine ow_val (val_assign rfl) rfl ?_   -- 5
  refine ow_nil (into ?_)
  refine sw_seq ?_
  refine sw_region ?_
  refine ow_val (val_move rfl) rfl ?_   -- 9
  refine ow_val (val_load_all 1 rfl rfl Tryd.isAgg48 Tryd.sizeOf48 (root_size size hll hrl)) rfl ?_   -- 10
  refine ow_call_row2 (E := 5) (size := 1) (k := (rootP v0 size l r).length) (xs := (rootP v0 size l r).map vU8) (x := vInt ((chk v0 [l, r] : Nat) : Int)) (callsTo Tryd.func43 rfl (by kernel_rfl) rfl) rfl (fun w hm => rootInput_any w v0 size l r hll hrl) (fun a11 c11 e11 hr11 => ?_)   -- 11
  refine ow_val (val_move rfl) rfl ?_   -- 8
  refine ow_val (val_extract rfl rfl) rfl ?_   -- 12
  refine ow_val (val_extract rfl rfl) rfl ?_   -- 13
  refine ow_val (val_assign rfl) rfl ?_   -- 6
  refine ow_val (val_assign rfl) rfl ?_   -- 7
  refine ow_nil (into ?_)
  refine sw_seq ?_
  refine sw_region ?_
  refine ow_val (val_move rfl) rfl ?_   -- 14
  refine ow_val (val_move rfl) rfl ?_   -- 15
  refine ow_val (val_move rfl) rfl ?_   -- 16
  refine ow_call_pure (callsTo Tryd.func101 rfl (by kernel_rfl) rfl) rfl (fun w hm => of_any v0  w (hK.mem0 hm) _ ((rootP v0 size l r).length) _ (rootP v0 size l r) rfl (hr11.rdAt hm (i := 0) rfl) hr11.le (by omega) (chk v0 [l, r])) ?_   -- 17
  refine ow_val (val_extract rfl rfl) rfl ?_   -- 18
  refine ow_val (val_extract rfl rfl) rfl ?_   -- 19
  refine ow_do_eq (does_store_all 1 rfl rfl rfl (one_u8s _) Tryd.sizeOf27 (by show (List.map vU8 ((digO v0 (rootP v0 size l r) (chk v0 [l, r])).1)).length = _; rw [List.length_map]; exact (digO_len _ _ _)) (by show (List.map vU8 zeros32).length = _; rw [List.length_map]; exact zeros32_len)) ?_
  refine ow_val (val_assign rfl) rfl ?_   -- 5
  refine ow_nil (into ?_)
  exact sw_ret (fun w hm => ret_cell_two 1 rfl rfl rfl hm rfl Tryd.isAgg27 Tryd.sizeOf27 (by rw [List.length_map]; exact digO_len _ _ _) ⟨rfl, hm.forgetAll⟩)
end Go.Proofs.YtpmnhmfahgchgaaDoor
