import Derived.Test.YtcdponddgnkecaaDoorMck2
import Derived.Test.YtcdponddgnkecaaDoorProg
set_option linter.unusedVariables false
set_option linter.unusedSimpArgs false
namespace Go.Proofs.YtcdponddgnkecaaDoor
open Go.Sx Go.Ps
theorem kiD : (Tryd.prog.info? 41).map (fun i => (i.zero, i.size, i.bytes)) = some (some (.agg (zeros32.map vU8).toArray), 32, 32) := by kernel_rfl
theorem kone_dgs (l : List (List UInt8)) : ∀ u ∈ l.flatMap (fun d => d.map vU8), u.oneCell' = true := by
  intro u hu
  obtain ⟨d, _, hd⟩ := List.mem_flatMap.1 hu
  exact one_u8s _ u hd
theorem kflatMap_size' {l : List (List UInt8)} {m : Nat} (hm : l.length = m) (h : ∀ d ∈ l, d.length = 32) : (l.flatMap fun d => d.map vU8).length = m * 32 := by
  rw [flatMap_size l (n := 32) (fun y hy => by rw [List.length_map]; exact h y hy), hm]
theorem mcheck_len (v0 : Int) (w : World) (a : Option Addr) (m c : Nat) (proof : List (List UInt8)) (hpm : proof.length = m) (hpl : ∀ d ∈ proof, d.length = 32) (hr : Rd w a (proof.flatMap fun d => d.map vU8)) (hc : m ≤ c) (hl : m < 9223372036854775808) : Calls Tryd.prog 89 #[vInt v0, .slice a m c] w fun e w' => ∃ v, e = .returned v ∧ v = vInt ((chk v0 proof : Nat) : Int) ∧ Mem w [] [] w' := by
  subst hpm; exact mcheck_any v0 w a c proof hpl hr hc hl
theorem rcheck_len (v0 : Int) (w : World) (a : Option Addr) (m c : Nat) (proof : List (List UInt8)) (hpm : proof.length = m) (hpl : ∀ d ∈ proof, d.length = 32) (hr : Rd w a (proof.flatMap fun d => d.map vU8)) (hc : m ≤ c) (hl : m < 9223372036854775808) : Calls Tryd.prog 85 #[vInt v0, .slice a m c] w fun e w' => ∃ v, e = .returned v ∧ v = vInt ((chk v0 proof : Nat) : Int) ∧ Mem w [] [] w' := by
  subst hpm; exact rcheck_any v0 w a c proof hpl hr hc hl

theorem mall_e (v0 : Int) (w : World) (a : Option Addr) (c : Nat) (proof : List (List UInt8)) (hpl : ∀ d ∈ proof, d.length = 32) (hr : Rd w a (proof.flatMap fun d => d.map vU8)) (hc : proof.length ≤ c) (hl : proof.length < 9223372036854775808) (b : Option Addr) (c' : Nat) (ls : List (List UInt8)) (hql : ∀ d ∈ ls, d.length = 32) (hq : Rd w b (ls.flatMap fun d => d.map vU8)) (hc' : ls.length ≤ c') (hl' : ls.length < 9223372036854775808) (he : chk v0 ls ≠ 0) : Calls Tryd.prog 62 #[vInt v0, .slice a proof.length c, .slice b ls.length c'] w fun e w' => ∃ v, e = .returned v ∧ v = vInt ((allE v0 proof ls : Nat) : Int) ∧ Mem w [] [] w' := by
  refine calls_of_sw (vs := [vInt v0, .slice a proof.length c, .slice b ls.length c']) Tryd.func62 rfl Tryd.ntmps62 rfl (SW.begin ?_)
  refine sw_seq ?_
  refine sw_region ?_
  refine ow_val (val_assign rfl) rfl ?_
  refine ow_nil (into ?_)
  refine sw_seq ?_
  refine sw_seq ?_
  refine sw_region ?_
  refine ow_val (val_move rfl) rfl ?_
  refine ow_val (val_move rfl) rfl ?_
  refine ow_call_pure (callsTo Tryd.func89 rfl (by kernel_rfl) rfl) rfl (fun w hm => mcheck_len v0 w b ls.length c' ls rfl hql (hq.mem hm) (by omega) (by omega)) ?_
  refine ow_val (val_assign rfl) rfl ?_
  refine ow_nil (into ?_)
  refine sw_seq ?_
  refine sw_region ?_
  refine ow_val (val_move rfl) rfl ?_
  refine ow_val ((val_neq_int rfl rfl).to (v' := .bool true) (congrArg Value.bool (decide_eq_true (by omega)))) rfl ?_
  refine ow_nil (into ?_)
  refine sw_true rfl rfl ?_
  refine sw_seq ?_
  refine sw_region ?_
  refine ow_val (val_move rfl) rfl ?_
  refine ow_val (val_assign rfl) rfl ?_
  refine ow_nil (into ?_)
  refine sw_ret (fun w hm => ?_)
  try dsimp only [thenP, blockP, Nat.beq, cond]
  exact ret_one _ rfl rfl ⟨by rw [allE, if_pos he] <;> rfl, hm.forgetAll⟩

theorem mall_o (v0 : Int) (w : World) (a : Option Addr) (c : Nat) (proof : List (List UInt8)) (hpl : ∀ d ∈ proof, d.length = 32) (hr : Rd w a (proof.flatMap fun d => d.map vU8)) (hc : proof.length ≤ c) (hl : proof.length < 9223372036854775808) (b : Option Addr) (c' : Nat) (ls : List (List UInt8)) (hql : ∀ d ∈ ls, d.length = 32) (hq : Rd w b (ls.flatMap fun d => d.map vU8)) (hc' : ls.length ≤ c') (hl' : ls.length < 9223372036854775808) (he : chk v0 ls = 0) : Calls Tryd.prog 62 #[vInt v0, .slice a proof.length c, .slice b ls.length c'] w fun e w' => ∃ v, e = .returned v ∧ v = vInt ((allE v0 proof ls : Nat) : Int) ∧ Mem w [] [] w' := by
  refine calls_of_sw (vs := [vInt v0, .slice a proof.length c, .slice b ls.length c']) Tryd.func62 rfl Tryd.ntmps62 rfl (SW.begin ?_)
  refine sw_seq ?_
  refine sw_region ?_
  refine ow_val (val_assign rfl) rfl ?_
  refine ow_nil (into ?_)
  refine sw_seq ?_
  refine sw_seq ?_
  refine sw_region ?_
  refine ow_val (val_move rfl) rfl ?_
  refine ow_val (val_move rfl) rfl ?_
  refine ow_call_pure (callsTo Tryd.func89 rfl (by kernel_rfl) rfl) rfl (fun w hm => mcheck_len v0 w b ls.length c' ls rfl hql (hq.mem hm) (by omega) (by omega)) ?_
  refine ow_val (val_assign rfl) rfl ?_
  refine ow_nil (into ?_)
  refine sw_seq ?_
  refine sw_region ?_
  refine ow_val (val_move rfl) rfl ?_
  refine ow_val ((val_neq_int rfl rfl).to (v' := .bool false) (congrArg Value.bool (decide_eq_false (fun h => h (by omega))))) rfl ?_
  refine ow_nil (into ?_)
  refine sw_false rfl rfl ?_
  refine sw_skip (into ?_)
  refine sw_seq ?_
  refine sw_region ?_
  refine ow_val (val_move rfl) rfl ?_
  refine ow_val (val_move rfl) rfl ?_
  refine ow_call_pure (callsTo Tryd.func89 rfl (by kernel_rfl) rfl) rfl (fun w hm => mcheck_len v0 w a proof.length c proof rfl hpl (hr.mem hm) (by omega) (by omega)) ?_
  refine ow_val (val_assign rfl) rfl ?_
  refine ow_nil (into ?_)
  exact sw_ret (fun w hm => ret_one _ rfl rfl ⟨by rw [allE, if_neg (by simp [he])] <;> rfl, hm.forgetAll⟩)

theorem mall_any (v0 : Int) (w : World) (a : Option Addr) (m c : Nat) (proof : List (List UInt8)) (hpm : proof.length = m) (hpl : ∀ d ∈ proof, d.length = 32) (hr : Rd w a (proof.flatMap fun d => d.map vU8)) (hc : m ≤ c) (hl : m < 9223372036854775808) (b : Option Addr) (m' c' : Nat) (ls : List (List UInt8)) (hqm : ls.length = m') (hql : ∀ d ∈ ls, d.length = 32) (hq : Rd w b (ls.flatMap fun d => d.map vU8)) (hc' : m' ≤ c') (hl' : m' < 9223372036854775808) : Calls Tryd.prog 62 #[vInt v0, .slice a m c, .slice b m' c'] w fun e w' => ∃ v, e = .returned v ∧ v = vInt ((allE v0 proof ls : Nat) : Int) ∧ Mem w [] [] w' := by
  subst hpm; subst hqm
  by_cases he : chk v0 ls = 0
  · exact mall_o v0 w a c proof hpl hr hc hl b c' ls hql hq hc' hl' he
  · exact mall_e v0 w a c proof hpl hr hc hl b c' ls hql hq hc' hl' he

theorem mroot_err (v0 : Int) (leaf : List UInt8) (hll : leaf.length = 32) (i n : UInt64) (w : World) (a : Option Addr) (c : Nat) (proof : List (List UInt8)) (hpl : ∀ d ∈ proof, d.length = 32) (hr : Rd w a (proof.flatMap fun d => d.map vU8)) (hc : proof.length ≤ c) (hl : proof.length < 9223372036854775808) (hb : (proof.length + 2) * 32 ≤ 140737488355328) (he : allE v0 proof [leaf] ≠ 0) : Calls Tryd.prog 34 #[vInt v0, .agg ((leaf).map vU8).toArray, vU64 i, vU64 n, .slice a proof.length c] w fun e w' => ∃ v, e = .returned v ∧ v = .tuple #[.agg (((rootO v0 leaf i n proof).1).map vU8).toArray, vInt (((rootO v0 leaf i n proof).2 : Nat) : Int)] ∧ Mem w [] [] w' := by
  refine calls_of_sw (vs := [vInt v0, .agg ((leaf).map vU8).toArray, vU64 i, vU64 n, .slice a proof.length c]) Tryd.func34 rfl Tryd.ntmps34 rfl (SW.begin ?_)
  refine sw_seq ?_
  refine sw_region ?_
  refine ow_new (acts_box rfl) rfl (fun b6 hb6 => ?_)
  refine ow_new (acts_alloc zD) rfl (fun b10 hb10 => ?_)
  refine ow_val (val_assign rfl) rfl ?_
  refine ow_nil (into ?_)
  refine sw_seq ?_
  refine sw_seq ?_
  refine sw_region ?_
  refine ow_val (val_move rfl) rfl ?_
  refine ow_val (val_move rfl) rfl ?_
  refine ow_val (val_load_all 1 rfl rfl Tryd.isAgg41 Tryd.sizeOf41 (by show (List.map vU8 leaf).length = _; rw [List.length_map]; exact hll)) rfl ?_
  refine ow_make (acts_buildSlice (cs := [leaf.map vU8].flatten) Tryd.underlying22 Tryd.sizeOf41 zD rfl rfl (fill_aggs [leaf.map vU8] (by decide) rfl (by simp only [List.forall_mem_cons, List.length_map]; exact ⟨hll, fun _ h => by cases h⟩))) rfl (fun b18 hb18 => ?_)
  refine ow_call_pure (callsTo Tryd.func62 rfl (by kernel_rfl) rfl) rfl (fun w hm => mall_any v0 w a proof.length c proof rfl hpl (hr.mem hm) (by omega) (by omega) (some ⟨b18, 0, none⟩) 1 1 ([leaf]) rfl (by simp only [List.forall_mem_cons]; exact ⟨hll, fun _ h => by cases h⟩) (Rd.blk (hm.at (i := 0) rfl)) (by decide) (by decide)) ?_
  refine ow_val (val_assign rfl) rfl ?_
  refine ow_nil (into ?_)
  refine sw_seq ?_
  refine sw_region ?_
  refine ow_val (val_move rfl) rfl ?_
  refine ow_val ((val_neq_int rfl rfl).to (v' := .bool true) (congrArg Value.bool (decide_eq_true (by omega)))) rfl ?_
  refine ow_nil (into ?_)
  refine sw_true rfl rfl ?_
  refine sw_seq ?_
  refine sw_region ?_
  refine ow_val (val_build' (cs := zeros32.map vU8) rfl (by kernel_rfl)) rfl ?_
  refine ow_val (val_move rfl) rfl ?_
  refine ow_do_eq (does_store_all 1 rfl rfl rfl (one_u8s _) Tryd.sizeOf41 (by show (List.map vU8 zeros32).length = _; rw [List.length_map]; exact zeros32_len) (by show (List.map vU8 zeros32).length = _; rw [List.length_map]; exact zeros32_len)) ?_
  refine ow_val (val_assign rfl) rfl ?_
  refine ow_nil (into ?_)
  refine sw_ret (fun w hm => ?_)
  try dsimp only [thenP, blockP, Nat.beq, cond]
  exact ret_cell_two 1 rfl rfl rfl hm rfl Tryd.isAgg41 Tryd.sizeOf41 (by show (List.map vU8 zeros32).length = _; rw [List.length_map]; exact zeros32_len) ⟨by rw [rootO, if_pos he] <;> rfl, hm.forgetAll⟩

theorem mroot_rng (v0 : Int) (leaf : List UInt8) (hll : leaf.length = 32) (i n : UInt64) (w : World) (a : Option Addr) (c : Nat) (proof : List (List UInt8)) (hpl : ∀ d ∈ proof, d.length = 32) (hr : Rd w a (proof.flatMap fun d => d.map vU8)) (hc : proof.length ≤ c) (hl : proof.length < 9223372036854775808) (hb : (proof.length + 2) * 32 ≤ 140737488355328) (he : allE v0 proof [leaf] = 0) (hin : n ≤ i) : Calls Tryd.prog 34 #[vInt v0, .agg ((leaf).map vU8).toArray, vU64 i, vU64 n, .slice a proof.length c] w fun e w' => ∃ v, e = .returned v ∧ v = .tuple #[.agg (((rootO v0 leaf i n proof).1).map vU8).toArray, vInt (((rootO v0 leaf i n proof).2 : Nat) : Int)] ∧ Mem w [] [] w' := by
  refine calls_of_sw (vs := [vInt v0, .agg ((leaf).map vU8).toArray, vU64 i, vU64 n, .slice a proof.length c]) Tryd.func34 rfl Tryd.ntmps34 rfl (SW.begin ?_)
  refine sw_seq ?_
  refine sw_region ?_
  refine ow_new (acts_box rfl) rfl (fun b6 hb6 => ?_)
  refine ow_new (acts_alloc zD) rfl (fun b10 hb10 => ?_)
  refine ow_val (val_assign rfl) rfl ?_
  refine ow_nil (into ?_)
  refine sw_seq ?_
  refine sw_seq ?_
  refine sw_region ?_
  refine ow_val (val_move rfl) rfl ?_
  refine ow_val (val_move rfl) rfl ?_
  refine ow_val (val_load_all 1 rfl rfl Tryd.isAgg41 Tryd.sizeOf41 (by show (List.map vU8 leaf).length = _; rw [List.length_map]; exact hll)) rfl ?_
  refine ow_make (acts_buildSlice (cs := [leaf.map vU8].flatten) Tryd.underlying22 Tryd.sizeOf41 zD rfl rfl (fill_aggs [leaf.map vU8] (by decide) rfl (by simp only [List.forall_mem_cons, List.length_map]; exact ⟨hll, fun _ h => by cases h⟩))) rfl (fun b18 hb18 => ?_)
  refine ow_call_pure (callsTo Tryd.func62 rfl (by kernel_rfl) rfl) rfl (fun w hm => mall_any v0 w a proof.length c proof rfl hpl (hr.mem hm) (by omega) (by omega) (some ⟨b18, 0, none⟩) 1 1 ([leaf]) rfl (by simp only [List.forall_mem_cons]; exact ⟨hll, fun _ h => by cases h⟩) (Rd.blk (hm.at (i := 0) rfl)) (by decide) (by decide)) ?_
  refine ow_val (val_assign rfl) rfl ?_
  refine ow_nil (into ?_)
  refine sw_seq ?_
  refine sw_region ?_
  refine ow_val (val_move rfl) rfl ?_
  refine ow_val ((val_neq_int rfl rfl).to (v' := .bool false) (congrArg Value.bool (decide_eq_false (fun h => h (by omega))))) rfl ?_
  refine ow_nil (into ?_)
  refine sw_false rfl rfl ?_
  refine sw_skip (into ?_)
  refine sw_seq ?_
  refine sw_seq ?_
  refine sw_region ?_
  refine ow_val (val_move rfl) rfl ?_
  refine ow_val (val_move rfl) rfl ?_
  refine ow_val ((val_geq_u64 rfl rfl).to (v' := .bool true) (congrArg Value.bool (decide_eq_true hin))) rfl ?_
  refine ow_nil (into ?_)
  refine sw_true rfl rfl ?_
  refine sw_seq ?_
  refine sw_region ?_
  refine ow_val (val_build' (cs := zeros32.map vU8) rfl (by kernel_rfl)) rfl ?_
  refine ow_do_eq (does_store_all 1 rfl rfl rfl (one_u8s _) Tryd.sizeOf41 (by show (List.map vU8 zeros32).length = _; rw [List.length_map]; exact zeros32_len) (by show (List.map vU8 zeros32).length = _; rw [List.length_map]; exact zeros32_len)) ?_
  refine ow_val (val_assign rfl) rfl ?_
  refine ow_nil (into ?_)
  refine sw_ret (fun w hm => ?_)
  try dsimp only [thenP, blockP, Nat.beq, cond]
  exact ret_cell_two 1 rfl rfl rfl hm rfl Tryd.isAgg41 Tryd.sizeOf41 (by show (List.map vU8 zeros32).length = _; rw [List.length_map]; exact zeros32_len) ⟨by rw [rootO, if_neg (by simp [he]), if_pos hin] <;> rfl, hm.forgetAll⟩

theorem mroot_ok (k : Nat) (h1 : 1 ≤ k) (h2 : k ≤ 32) (leaf : List UInt8) (hll : leaf.length = 32) (i n : UInt64) (w : World) (a : Option Addr) (c : Nat) (proof : List (List UInt8)) (hpl : ∀ d ∈ proof, d.length = 32) (hr : Rd w a (proof.flatMap fun d => d.map vU8)) (hc : proof.length ≤ c) (hl : proof.length < 9223372036854775808) (hb : (proof.length + 2) * 32 ≤ 140737488355328) (hlf : fm (k : Int) leaf = true) (hpf : ∀ d ∈ proof, fm (k : Int) d = true) (hK : KW w) (he : allE (k : Int) proof [leaf] = 0) (hin : ¬ n ≤ i) : Calls Tryd.prog 34 #[vInt (k : Int), .agg ((leaf).map vU8).toArray, vU64 i, vU64 n, .slice a proof.length c] w fun e w' => ∃ v, e = .returned v ∧ v = .tuple #[.agg (((rootO (k : Int) leaf i n proof).1).map vU8).toArray, vInt (((rootO (k : Int) leaf i n proof).2 : Nat) : Int)] ∧ Mem w [] [] w' := by
  have hn0 : n ≠ 0 := fun h => hin (by rw [h]; exact UInt64.le_iff_toNat_le.2 (Nat.zero_le _))
  refine calls_of_sw (vs := [vInt (k : Int), .agg ((leaf).map vU8).toArray, vU64 i, vU64 n, .slice a proof.length c]) Tryd.func34 rfl Tryd.ntmps34 rfl (SW.begin ?_)
  refine sw_seq ?_
  refine sw_region ?_
  refine ow_new (acts_box rfl) rfl (fun b6 hb6 => ?_)
  refine ow_new (acts_alloc zD) rfl (fun b10 hb10 => ?_)
  refine ow_val (val_assign rfl) rfl ?_
  refine ow_nil (into ?_)
  refine sw_seq ?_
  refine sw_seq ?_
  refine sw_region ?_
  refine ow_val (val_move rfl) rfl ?_
  refine ow_val (val_move rfl) rfl ?_
  refine ow_val (val_load_all 1 rfl rfl Tryd.isAgg41 Tryd.sizeOf41 (by show (List.map vU8 leaf).length = _; rw [List.length_map]; exact hll)) rfl ?_
  refine ow_make (acts_buildSlice (cs := [leaf.map vU8].flatten) Tryd.underlying22 Tryd.sizeOf41 zD rfl rfl (fill_aggs [leaf.map vU8] (by decide) rfl (by simp only [List.forall_mem_cons, List.length_map]; exact ⟨hll, fun _ h => by cases h⟩))) rfl (fun b18 hb18 => ?_)
  refine ow_call_pure (callsTo Tryd.func62 rfl (by kernel_rfl) rfl) rfl (fun w hm => mall_any (k : Int) w a proof.length c proof rfl hpl (hr.mem hm) (by omega) (by omega) (some ⟨b18, 0, none⟩) 1 1 ([leaf]) rfl (by simp only [List.forall_mem_cons]; exact ⟨hll, fun _ h => by cases h⟩) (Rd.blk (hm.at (i := 0) rfl)) (by decide) (by decide)) ?_
  refine ow_val (val_assign rfl) rfl ?_
  refine ow_nil (into ?_)
  refine sw_seq ?_
  refine sw_region ?_
  refine ow_val (val_move rfl) rfl ?_
  refine ow_val ((val_neq_int rfl rfl).to (v' := .bool false) (congrArg Value.bool (decide_eq_false (fun h => h (by omega))))) rfl ?_
  refine ow_nil (into ?_)
  refine sw_false rfl rfl ?_
  refine sw_skip (into ?_)
  refine sw_seq ?_
  refine sw_seq ?_
  refine sw_region ?_
  refine ow_val (val_move rfl) rfl ?_
  refine ow_val (val_move rfl) rfl ?_
  refine ow_val ((val_geq_u64 rfl rfl).to (v' := .bool false) (congrArg Value.bool (decide_eq_false hin))) rfl ?_
  refine ow_nil (into ?_)
  refine sw_false rfl rfl ?_
  refine sw_skip (into ?_)
  refine sw_seq ?_
  refine sw_region ?_
  refine ow_val (val_move rfl) rfl ?_
  refine ow_val (val_load_all 2 rfl rfl Tryd.isAgg41 Tryd.sizeOf41 (by show (List.map vU8 leaf).length = _; rw [List.length_map]; exact hll)) rfl ?_
  refine ow_val (val_move rfl) rfl ?_
  refine ow_val (val_move rfl) rfl ?_
  refine ow_val (val_move rfl) rfl ?_
  refine ow_call_pure (callsTo Tryd.func64 rfl (by kernel_rfl) rfl) rfl (fun w hm => kup_any k h1 h2 leaf hll hlf a c _ proof rfl hpl hpf hc hl i n w hn0 (hK.mem0 hm) (hr.mem hm)) ?_
  refine ow_val (val_move rfl) rfl ?_
  refine ow_val (val_extract rfl rfl) rfl ?_
  refine ow_val (val_extract rfl rfl) rfl ?_
  refine ow_new (acts_alloc zD) rfl (fun b13 hb13 => ?_)
  refine ow_do_eq (does_store_all 0 rfl rfl rfl (one_u8s _) Tryd.sizeOf41 (by show (List.map vU8 ((upR k leaf i n proof.reverse).1)).length = _; rw [List.length_map]; exact (upR_len h2 hll _ _ _)) (by show (List.map vU8 zeros32).length = _; rw [List.length_map]; exact zeros32_len)) ?_
  refine ow_val (val_assign rfl) rfl ?_
  refine ow_nil (into ?_)
  refine sw_seq ?_
  refine sw_seq ?_
  refine sw_region ?_
  refine ow_val (val_move rfl) rfl ?_
  by_cases hup : (upR k leaf i n proof.reverse).2 = false
  · -- yes
    refine ow_val ((val_not rfl).to (congrArg Value.bool (show (!_) = true by rw [hup]; rfl))) rfl ?_
    refine ow_nil (into ?_)
    refine sw_true rfl rfl ?_
    refine sw_seq ?_
    refine sw_region ?_
    refine ow_val (val_build' (cs := zeros32.map vU8) rfl (by kernel_rfl)) rfl ?_
    refine ow_do_eq (does_store_all 2 rfl rfl rfl (one_u8s _) Tryd.sizeOf41 (by show (List.map vU8 zeros32).length = _; rw [List.length_map]; exact zeros32_len) (by show (List.map vU8 zeros32).length = _; rw [List.length_map]; exact zeros32_len)) ?_
    refine ow_val (val_assign rfl) rfl ?_
    refine ow_nil (into ?_)
    refine sw_ret (fun w hm => ?_)
    try dsimp only [thenP, blockP, Nat.beq, cond]
    exact ret_cell_two 2 rfl rfl rfl hm rfl Tryd.isAgg41 Tryd.sizeOf41 (by show (List.map vU8 zeros32).length = _; rw [List.length_map]; exact zeros32_len) ⟨by rw [rootO, if_neg (by simp [he]), if_neg hin, Int.toNat_natCast, if_neg (by rw [hup]; decide)] <;> rfl, hm.forgetAll⟩
  · -- no
    refine ow_val ((val_not rfl).to (congrArg Value.bool (show (!_) = false by rw [(Bool.not_eq_false _).mp hup]; rfl))) rfl ?_
    refine ow_nil (into ?_)
    refine sw_false rfl rfl ?_
    refine sw_skip (into ?_)
    refine sw_seq ?_
    refine sw_region ?_
    refine ow_val (val_load_all 0 rfl rfl Tryd.isAgg41 Tryd.sizeOf41 (by show (List.map vU8 ((upR k leaf i n proof.reverse).1)).length = _; rw [List.length_map]; exact (upR_len h2 hll _ _ _))) rfl ?_
    refine ow_do_eq (does_store_all 2 rfl rfl rfl (one_u8s _) Tryd.sizeOf41 (by show (List.map vU8 ((upR k leaf i n proof.reverse).1)).length = _; rw [List.length_map]; exact (upR_len h2 hll _ _ _)) (by show (List.map vU8 zeros32).length = _; rw [List.length_map]; exact zeros32_len)) ?_
    refine ow_val (val_assign rfl) rfl ?_
    refine ow_nil (into ?_)
    refine sw_ret (fun w hm => ?_)
    try dsimp only [thenP, blockP, Nat.beq, cond]
    exact ret_cell_two 2 rfl rfl rfl hm rfl Tryd.isAgg41 Tryd.sizeOf41 (by show (List.map vU8 ((upR k leaf i n proof.reverse).1)).length = _; rw [List.length_map]; exact (upR_len h2 hll _ _ _)) ⟨by rw [rootO, if_neg (by simp [he]), if_neg hin, Int.toNat_natCast, if_pos ((Bool.not_eq_false _).mp hup)] <;> rfl, hm.forgetAll⟩

theorem mroot_any (v0 : Int) (leaf : List UInt8) (hll : leaf.length = 32) (i n : UInt64) (w : World) (hK : KW w) (a : Option Addr) (m c : Nat) (proof : List (List UInt8)) (hpm : proof.length = m) (hpl : ∀ d ∈ proof, d.length = 32) (hr : Rd w a (proof.flatMap fun d => d.map vU8)) (hc : m ≤ c) (hl : m < 9223372036854775808) (hb : (m + 2) * 32 ≤ 140737488355328) : Calls Tryd.prog 34 #[vInt v0, .agg ((leaf).map vU8).toArray, vU64 i, vU64 n, .slice a m c] w fun e w' => ∃ v, e = .returned v ∧ v = .tuple #[.agg (((rootO v0 leaf i n proof).1).map vU8).toArray, vInt (((rootO v0 leaf i n proof).2 : Nat) : Int)] ∧ Mem w [] [] w' := by
  subst hpm
  by_cases he : allE v0 proof [leaf] = 0
  · by_cases hin : n ≤ i
    · exact mroot_rng v0 leaf hll i n w a c proof hpl hr hc hl hb he hin
    · obtain ⟨hw, hlf, hpf⟩ := allE_ok he
      obtain ⟨k, rfl, h1, h2⟩ := wd_nat hw
      exact mroot_ok k h1 h2 leaf hll i n w a c proof hpl hr hc hl hb (hlf leaf (by simp)) hpf hK he hin
  · exact mroot_err v0 leaf hll i n w a c proof hpl hr hc hl hb he

theorem rroot_err (v0 : Int) (leaf : List UInt8) (hll : leaf.length = 32) (i n : UInt64) (w : World) (a : Option Addr) (c : Nat) (proof : List (List UInt8)) (hpl : ∀ d ∈ proof, d.length = 32) (hr : Rd w a (proof.flatMap fun d => d.map vU8)) (hc : proof.length ≤ c) (hl : proof.length < 9223372036854775808) (hb : (proof.length + 2) * 32 ≤ 140737488355328) (he : allE v0 proof [leaf] ≠ 0) : Calls Tryd.prog 60 #[vInt v0, .agg ((leaf).map vU8).toArray, vU64 i, vU64 n, .slice a proof.length c] w fun e w' => ∃ v, e = .returned v ∧ v = .tuple #[.agg (((rootO v0 leaf i n proof).1).map vU8).toArray, vInt (((rootO v0 leaf i n proof).2 : Nat) : Int)] ∧ Mem w [] [] w' := by
  obtain ⟨tiD, hDi, hDz, hDsz, hDby⟩ := info_parts kiD
  refine calls_of_sw (vs := [vInt v0, .agg ((leaf).map vU8).toArray, vU64 i, vU64 n, .slice a proof.length c]) Tryd.func60 rfl Tryd.ntmps60 rfl (SW.begin ?_)
  refine sw_seq ?_
  refine sw_region ?_
  refine ow_new (acts_box rfl) rfl (fun b6 hb6 => ?_)
  refine ow_new (acts_alloc zD) rfl (fun b10 hb10 => ?_)
  refine ow_val (val_assign rfl) rfl ?_
  refine ow_nil (into ?_)
  refine sw_seq ?_
  refine sw_region ?_
  refine ow_val (val_move rfl) rfl ?_
  refine ow_val (val_load_all 1 rfl rfl Tryd.isAgg41 Tryd.sizeOf41 (by show (List.map vU8 leaf).length = _; rw [List.length_map]; exact hll)) rfl ?_
  refine ow_make (acts_buildSlice (cs := [leaf.map vU8].flatten) Tryd.underlying22 Tryd.sizeOf41 zD rfl rfl (fill_aggs [leaf.map vU8] (by decide) rfl (by simp only [List.forall_mem_cons, List.length_map]; exact ⟨hll, fun _ h => by cases h⟩))) rfl (fun b17 hb17 => ?_)
  refine ow_val (val_move rfl) rfl ?_
  refine ow_append' (k := 1 + proof.length) (acts_append (size := 32) (bytes := 32) 0 rfl rfl rfl (RowE.full (by simp only [List.flatten_cons, List.flatten_nil, List.append_nil, List.length_append, List.length_map, List.length_nil, hll] <;> rfl) (by decide)) rfl Tryd.underlying22 hDi hDz hDsz hDby rfl (by decide) (fun w hm => (hr.mem hm)) (kflatMap_size' rfl hpl) (kone_dgs _) (by omega) (by omega)) rfl (fun a19 c19 e19 hr19 => ?_)
  have hr19' : RowE (.slice a19 (1 + proof.length) c19) 41 32 (1 + proof.length) ((([leaf] ++ proof)).flatMap fun d => d.map vU8) e19 := hr19.cong rfl rfl (by first | rfl | simp [List.flatMap_append])
  have hc19 := hr19'.le
  refine ow_call_pure (v := vInt ((allE v0 proof [leaf] : Nat) : Int)) (callsTo Tryd.func85 rfl (by kernel_rfl) rfl) rfl (fun w hm => (by have h := rcheck_len v0 w a19 (1 + proof.length) c19 (([leaf] ++ proof)) (by simp only [List.length_append, List.length_cons, List.length_nil] <;> omega) (fun y hy => by simp only [List.mem_append, List.mem_cons, List.not_mem_nil, or_false] at hy; rcases hy with (rfl) | hy <;> first | exact hpl y hy | exact hll) (hr19'.rdAt hm (i := 0) rfl) hc19 (by omega); rw [chk_app] at h; exact h)) ?_
  refine ow_val (val_assign rfl) rfl ?_
  refine ow_nil (into ?_)
  refine sw_seq ?_
  refine sw_seq ?_
  refine sw_region ?_
  refine ow_val (val_move rfl) rfl ?_
  refine ow_val ((val_eql_int rfl rfl).to (v' := .bool false) (congrArg Value.bool (decide_eq_false (by omega)))) rfl ?_
  refine ow_val (val_move rfl) rfl ?_
  first | refine ow_guard_no rfl rfl rfl rfl rfl ?_ | refine ow_guard_none rfl rfl rfl rfl rfl ?_
  first | refine ow_guard_no rfl rfl rfl rfl rfl ?_ | refine ow_guard_none rfl rfl rfl rfl rfl ?_
  first | refine ow_guard_no rfl rfl rfl rfl rfl ?_ | refine ow_guard_none rfl rfl rfl rfl rfl ?_
  refine ow_val (val_pick_false rfl rfl) rfl ?_
  refine ow_nil (into ?_)
  refine sw_false rfl rfl ?_
  refine sw_skip (into ?_)
  refine sw_seq ?_
  refine sw_seq ?_
  refine sw_region ?_
  refine ow_val (val_move rfl) rfl ?_
  refine ow_val ((val_neq_int rfl rfl).to (v' := .bool true) (congrArg Value.bool (decide_eq_true (by omega)))) rfl ?_
  refine ow_nil (into ?_)
  refine sw_true rfl rfl ?_
  refine sw_seq ?_
  refine sw_region ?_
  refine ow_val (val_build' (cs := zeros32.map vU8) rfl (by kernel_rfl)) rfl ?_
  refine ow_val (val_move rfl) rfl ?_
  refine ow_do_eq (does_store_all 1 rfl rfl rfl (one_u8s _) Tryd.sizeOf41 (by show (List.map vU8 zeros32).length = _; rw [List.length_map]; exact zeros32_len) (by show (List.map vU8 zeros32).length = _; rw [List.length_map]; exact zeros32_len)) ?_
  refine ow_val (val_assign rfl) rfl ?_
  refine ow_nil (into ?_)
  refine sw_ret (fun w hm => ?_)
  try dsimp only [thenP, blockP, Nat.beq, cond]
  exact ret_cell_two 1 rfl rfl rfl hm rfl Tryd.isAgg41 Tryd.sizeOf41 (by show (List.map vU8 zeros32).length = _; rw [List.length_map]; exact zeros32_len) ⟨by rw [rootO, if_pos he] <;> rfl, hm.forgetAll⟩

theorem rroot_rng (v0 : Int) (leaf : List UInt8) (hll : leaf.length = 32) (i n : UInt64) (w : World) (a : Option Addr) (c : Nat) (proof : List (List UInt8)) (hpl : ∀ d ∈ proof, d.length = 32) (hr : Rd w a (proof.flatMap fun d => d.map vU8)) (hc : proof.length ≤ c) (hl : proof.length < 9223372036854775808) (hb : (proof.length + 2) * 32 ≤ 140737488355328) (he : allE v0 proof [leaf] = 0) (hin : n ≤ i) : Calls Tryd.prog 60 #[vInt v0, .agg ((leaf).map vU8).toArray, vU64 i, vU64 n, .slice a proof.length c] w fun e w' => ∃ v, e = .returned v ∧ v = .tuple #[.agg (((rootO v0 leaf i n proof).1).map vU8).toArray, vInt (((rootO v0 leaf i n proof).2 : Nat) : Int)] ∧ Mem w [] [] w' := by
  obtain ⟨tiD, hDi, hDz, hDsz, hDby⟩ := info_parts kiD
  refine calls_of_sw (vs := [vInt v0, .agg ((leaf).map vU8).toArray, vU64 i, vU64 n, .slice a proof.length c]) Tryd.func60 rfl Tryd.ntmps60 rfl (SW.begin ?_)
  refine sw_seq ?_
  refine sw_region ?_
  refine ow_new (acts_box rfl) rfl (fun b6 hb6 => ?_)
  refine ow_new (acts_alloc zD) rfl (fun b10 hb10 => ?_)
  refine ow_val (val_assign rfl) rfl ?_
  refine ow_nil (into ?_)
  refine sw_seq ?_
  refine sw_region ?_
  refine ow_val (val_move rfl) rfl ?_
  refine ow_val (val_load_all 1 rfl rfl Tryd.isAgg41 Tryd.sizeOf41 (by show (List.map vU8 leaf).length = _; rw [List.length_map]; exact hll)) rfl ?_
  refine ow_make (acts_buildSlice (cs := [leaf.map vU8].flatten) Tryd.underlying22 Tryd.sizeOf41 zD rfl rfl (fill_aggs [leaf.map vU8] (by decide) rfl (by simp only [List.forall_mem_cons, List.length_map]; exact ⟨hll, fun _ h => by cases h⟩))) rfl (fun b17 hb17 => ?_)
  refine ow_val (val_move rfl) rfl ?_
  refine ow_append' (k := 1 + proof.length) (acts_append (size := 32) (bytes := 32) 0 rfl rfl rfl (RowE.full (by simp only [List.flatten_cons, List.flatten_nil, List.append_nil, List.length_append, List.length_map, List.length_nil, hll] <;> rfl) (by decide)) rfl Tryd.underlying22 hDi hDz hDsz hDby rfl (by decide) (fun w hm => (hr.mem hm)) (kflatMap_size' rfl hpl) (kone_dgs _) (by omega) (by omega)) rfl (fun a19 c19 e19 hr19 => ?_)
  have hr19' : RowE (.slice a19 (1 + proof.length) c19) 41 32 (1 + proof.length) ((([leaf] ++ proof)).flatMap fun d => d.map vU8) e19 := hr19.cong rfl rfl (by first | rfl | simp [List.flatMap_append])
  have hc19 := hr19'.le
  refine ow_call_pure (v := vInt ((allE v0 proof [leaf] : Nat) : Int)) (callsTo Tryd.func85 rfl (by kernel_rfl) rfl) rfl (fun w hm => (by have h := rcheck_len v0 w a19 (1 + proof.length) c19 (([leaf] ++ proof)) (by simp only [List.length_append, List.length_cons, List.length_nil] <;> omega) (fun y hy => by simp only [List.mem_append, List.mem_cons, List.not_mem_nil, or_false] at hy; rcases hy with (rfl) | hy <;> first | exact hpl y hy | exact hll) (hr19'.rdAt hm (i := 0) rfl) hc19 (by omega); rw [chk_app] at h; exact h)) ?_
  refine ow_val (val_assign rfl) rfl ?_
  refine ow_nil (into ?_)
  refine sw_seq ?_
  refine sw_seq ?_
  refine sw_region ?_
  refine ow_val (val_move rfl) rfl ?_
  refine ow_val ((val_eql_int rfl rfl).to (v' := .bool true) (congrArg Value.bool (decide_eq_true (by omega)))) rfl ?_
  refine ow_val (val_move rfl) rfl ?_
  refine ow_guard_yes rfl rfl rfl ?_
  refine ow_val (val_move rfl) rfl ?_
  refine ow_guard_yes rfl rfl rfl ?_
  refine ow_val (val_move rfl) rfl ?_
  refine ow_guard_yes rfl rfl rfl ?_
  refine ow_val ((val_geq_u64 rfl rfl).to (v' := .bool true) (congrArg Value.bool (decide_eq_true hin))) rfl ?_
  refine ow_val (val_pick_true rfl rfl) rfl ?_
  refine ow_nil (into ?_)
  refine sw_true rfl rfl ?_
  refine sw_region ?_
  refine ow_val (val_assign rfl) rfl ?_
  refine ow_nil (into ?_)
  refine sw_seq ?_
  refine sw_seq ?_
  refine sw_region ?_
  refine ow_val (val_move rfl) rfl ?_
  refine ow_val ((val_neq_int rfl rfl).to (v' := .bool true) (congrArg Value.bool (decide_eq_true (by simp)))) rfl ?_
  refine ow_nil (into ?_)
  refine sw_true rfl rfl ?_
  refine sw_seq ?_
  refine sw_region ?_
  refine ow_val (val_build' (cs := zeros32.map vU8) rfl (by kernel_rfl)) rfl ?_
  refine ow_val (val_move rfl) rfl ?_
  refine ow_do_eq (does_store_all 1 rfl rfl rfl (one_u8s _) Tryd.sizeOf41 (by show (List.map vU8 zeros32).length = _; rw [List.length_map]; exact zeros32_len) (by show (List.map vU8 zeros32).length = _; rw [List.length_map]; exact zeros32_len)) ?_
  refine ow_val (val_assign rfl) rfl ?_
  refine ow_nil (into ?_)
  refine sw_ret (fun w hm => ?_)
  try dsimp only [thenP, blockP, Nat.beq, cond]
  exact ret_cell_two 1 rfl rfl rfl hm rfl Tryd.isAgg41 Tryd.sizeOf41 (by show (List.map vU8 zeros32).length = _; rw [List.length_map]; exact zeros32_len) ⟨by rw [rootO, if_neg (by simp [he]), if_pos hin] <;> rfl, hm.forgetAll⟩

theorem rroot_ok (k : Nat) (h1 : 1 ≤ k) (h2 : k ≤ 32) (leaf : List UInt8) (hll : leaf.length = 32) (i n : UInt64) (w : World) (a : Option Addr) (c : Nat) (proof : List (List UInt8)) (hpl : ∀ d ∈ proof, d.length = 32) (hr : Rd w a (proof.flatMap fun d => d.map vU8)) (hc : proof.length ≤ c) (hl : proof.length < 9223372036854775808) (hb : (proof.length + 2) * 32 ≤ 140737488355328) (hlf : fm (k : Int) leaf = true) (hpf : ∀ d ∈ proof, fm (k : Int) d = true) (hK : KW w) (he : allE (k : Int) proof [leaf] = 0) (hin : ¬ n ≤ i) : Calls Tryd.prog 60 #[vInt (k : Int), .agg ((leaf).map vU8).toArray, vU64 i, vU64 n, .slice a proof.length c] w fun e w' => ∃ v, e = .returned v ∧ v = .tuple #[.agg (((rootO (k : Int) leaf i n proof).1).map vU8).toArray, vInt (((rootO (k : Int) leaf i n proof).2 : Nat) : Int)] ∧ Mem w [] [] w' := by
  obtain ⟨tiD, hDi, hDz, hDsz, hDby⟩ := info_parts kiD
  have hn0 : n ≠ 0 := fun h => hin (by rw [h]; exact UInt64.le_iff_toNat_le.2 (Nat.zero_le _))
  refine calls_of_sw (vs := [vInt (k : Int), .agg ((leaf).map vU8).toArray, vU64 i, vU64 n, .slice a proof.length c]) Tryd.func60 rfl Tryd.ntmps60 rfl (SW.begin ?_)
  refine sw_seq ?_
  refine sw_region ?_
  refine ow_new (acts_box rfl) rfl (fun b6 hb6 => ?_)
  refine ow_new (acts_alloc zD) rfl (fun b10 hb10 => ?_)
  refine ow_val (val_assign rfl) rfl ?_
  refine ow_nil (into ?_)
  refine sw_seq ?_
  refine sw_region ?_
  refine ow_val (val_move rfl) rfl ?_
  refine ow_val (val_load_all 1 rfl rfl Tryd.isAgg41 Tryd.sizeOf41 (by show (List.map vU8 leaf).length = _; rw [List.length_map]; exact hll)) rfl ?_
  refine ow_make (acts_buildSlice (cs := [leaf.map vU8].flatten) Tryd.underlying22 Tryd.sizeOf41 zD rfl rfl (fill_aggs [leaf.map vU8] (by decide) rfl (by simp only [List.forall_mem_cons, List.length_map]; exact ⟨hll, fun _ h => by cases h⟩))) rfl (fun b17 hb17 => ?_)
  refine ow_val (val_move rfl) rfl ?_
  refine ow_append' (k := 1 + proof.length) (acts_append (size := 32) (bytes := 32) 0 rfl rfl rfl (RowE.full (by simp only [List.flatten_cons, List.flatten_nil, List.append_nil, List.length_append, List.length_map, List.length_nil, hll] <;> rfl) (by decide)) rfl Tryd.underlying22 hDi hDz hDsz hDby rfl (by decide) (fun w hm => (hr.mem hm)) (kflatMap_size' rfl hpl) (kone_dgs _) (by omega) (by omega)) rfl (fun a19 c19 e19 hr19 => ?_)
  have hr19' : RowE (.slice a19 (1 + proof.length) c19) 41 32 (1 + proof.length) ((([leaf] ++ proof)).flatMap fun d => d.map vU8) e19 := hr19.cong rfl rfl (by first | rfl | simp [List.flatMap_append])
  have hc19 := hr19'.le
  refine ow_call_pure (v := vInt ((allE (k : Int) proof [leaf] : Nat) : Int)) (callsTo Tryd.func85 rfl (by kernel_rfl) rfl) rfl (fun w hm => (by have h := rcheck_len (k : Int) w a19 (1 + proof.length) c19 (([leaf] ++ proof)) (by simp only [List.length_append, List.length_cons, List.length_nil] <;> omega) (fun y hy => by simp only [List.mem_append, List.mem_cons, List.not_mem_nil, or_false] at hy; rcases hy with (rfl) | hy <;> first | exact hpl y hy | exact hll) (hr19'.rdAt hm (i := 0) rfl) hc19 (by omega); rw [chk_app] at h; exact h)) ?_
  refine ow_val (val_assign rfl) rfl ?_
  refine ow_nil (into ?_)
  refine sw_seq ?_
  refine sw_seq ?_
  refine sw_region ?_
  refine ow_val (val_move rfl) rfl ?_
  refine ow_val ((val_eql_int rfl rfl).to (v' := .bool true) (congrArg Value.bool (decide_eq_true (by omega)))) rfl ?_
  refine ow_val (val_move rfl) rfl ?_
  refine ow_guard_yes rfl rfl rfl ?_
  refine ow_val (val_move rfl) rfl ?_
  refine ow_guard_yes rfl rfl rfl ?_
  refine ow_val (val_move rfl) rfl ?_
  refine ow_guard_yes rfl rfl rfl ?_
  refine ow_val ((val_geq_u64 rfl rfl).to (v' := .bool false) (congrArg Value.bool (decide_eq_false hin))) rfl ?_
  refine ow_val (val_pick_true rfl rfl) rfl ?_
  refine ow_nil (into ?_)
  refine sw_false rfl rfl ?_
  refine sw_skip (into ?_)
  refine sw_seq ?_
  refine sw_seq ?_
  refine sw_region ?_
  refine ow_val (val_move rfl) rfl ?_
  refine ow_val ((val_neq_int rfl rfl).to (v' := .bool false) (congrArg Value.bool (decide_eq_false (fun h => h (by omega))))) rfl ?_
  refine ow_nil (into ?_)
  refine sw_false rfl rfl ?_
  refine sw_skip (into ?_)
  refine sw_seq ?_
  refine sw_region ?_
  refine ow_val (val_move rfl) rfl ?_
  refine ow_val (val_load_all 2 rfl rfl Tryd.isAgg41 Tryd.sizeOf41 (by show (List.map vU8 leaf).length = _; rw [List.length_map]; exact hll)) rfl ?_
  refine ow_val (val_move rfl) rfl ?_
  refine ow_val (val_move rfl) rfl ?_
  refine ow_val (val_move rfl) rfl ?_
  refine ow_call_pure (callsTo Tryd.func86 rfl (by kernel_rfl) rfl) rfl (fun w hm => kpath_any k h1 h2 leaf hll hlf a c _ proof rfl hpl hpf hc hl i n w hn0 (hK.mem0 hm) (hr.mem hm)) ?_
  refine ow_val (val_move rfl) rfl ?_
  refine ow_val (val_extract rfl rfl) rfl ?_
  refine ow_val (val_extract rfl rfl) rfl ?_
  refine ow_new (acts_alloc zD) rfl (fun b13 hb13 => ?_)
  refine ow_do_eq (does_store_all 0 rfl rfl rfl (one_u8s _) Tryd.sizeOf41 (by show (List.map vU8 ((upR k leaf i n proof.reverse).1)).length = _; rw [List.length_map]; exact (upR_len h2 hll _ _ _)) (by show (List.map vU8 zeros32).length = _; rw [List.length_map]; exact zeros32_len)) ?_
  refine ow_val (val_assign rfl) rfl ?_
  refine ow_nil (into ?_)
  refine sw_seq ?_
  refine sw_seq ?_
  refine sw_region ?_
  refine ow_val (val_move rfl) rfl ?_
  by_cases hup : (upR k leaf i n proof.reverse).2 = false
  · -- yes
    refine ow_val ((val_not rfl).to (congrArg Value.bool (show (!_) = true by rw [hup]; rfl))) rfl ?_
    refine ow_nil (into ?_)
    refine sw_true rfl rfl ?_
    refine sw_seq ?_
    refine sw_region ?_
    refine ow_val (val_build' (cs := zeros32.map vU8) rfl (by kernel_rfl)) rfl ?_
    refine ow_do_eq (does_store_all 2 rfl rfl rfl (one_u8s _) Tryd.sizeOf41 (by show (List.map vU8 zeros32).length = _; rw [List.length_map]; exact zeros32_len) (by show (List.map vU8 zeros32).length = _; rw [List.length_map]; exact zeros32_len)) ?_
    refine ow_val (val_assign rfl) rfl ?_
    refine ow_nil (into ?_)
    refine sw_ret (fun w hm => ?_)
    try dsimp only [thenP, blockP, Nat.beq, cond]
    exact ret_cell_two 2 rfl rfl rfl hm rfl Tryd.isAgg41 Tryd.sizeOf41 (by show (List.map vU8 zeros32).length = _; rw [List.length_map]; exact zeros32_len) ⟨by rw [rootO, if_neg (by simp [he]), if_neg hin, Int.toNat_natCast, if_neg (by rw [hup]; decide)] <;> rfl, hm.forgetAll⟩
  · -- no
    refine ow_val ((val_not rfl).to (congrArg Value.bool (show (!_) = false by rw [(Bool.not_eq_false _).mp hup]; rfl))) rfl ?_
    refine ow_nil (into ?_)
    refine sw_false rfl rfl ?_
    refine sw_skip (into ?_)
    refine sw_seq ?_
    refine sw_region ?_
    refine ow_val (val_load_all 0 rfl rfl Tryd.isAgg41 Tryd.sizeOf41 (by show (List.map vU8 ((upR k leaf i n proof.reverse).1)).length = _; rw [List.length_map]; exact (upR_len h2 hll _ _ _))) rfl ?_
    refine ow_do_eq (does_store_all 2 rfl rfl rfl (one_u8s _) Tryd.sizeOf41 (by show (List.map vU8 ((upR k leaf i n proof.reverse).1)).length = _; rw [List.length_map]; exact (upR_len h2 hll _ _ _)) (by show (List.map vU8 zeros32).length = _; rw [List.length_map]; exact zeros32_len)) ?_
    refine ow_val (val_assign rfl) rfl ?_
    refine ow_nil (into ?_)
    refine sw_ret (fun w hm => ?_)
    try dsimp only [thenP, blockP, Nat.beq, cond]
    exact ret_cell_two 2 rfl rfl rfl hm rfl Tryd.isAgg41 Tryd.sizeOf41 (by show (List.map vU8 ((upR k leaf i n proof.reverse).1)).length = _; rw [List.length_map]; exact (upR_len h2 hll _ _ _)) ⟨by rw [rootO, if_neg (by simp [he]), if_neg hin, Int.toNat_natCast, if_pos ((Bool.not_eq_false _).mp hup)] <;> rfl, hm.forgetAll⟩

theorem rroot_any (v0 : Int) (leaf : List UInt8) (hll : leaf.length = 32) (i n : UInt64) (w : World) (hK : KW w) (a : Option Addr) (m c : Nat) (proof : List (List UInt8)) (hpm : proof.length = m) (hpl : ∀ d ∈ proof, d.length = 32) (hr : Rd w a (proof.flatMap fun d => d.map vU8)) (hc : m ≤ c) (hl : m < 9223372036854775808) (hb : (m + 2) * 32 ≤ 140737488355328) : Calls Tryd.prog 60 #[vInt v0, .agg ((leaf).map vU8).toArray, vU64 i, vU64 n, .slice a m c] w fun e w' => ∃ v, e = .returned v ∧ v = .tuple #[.agg (((rootO v0 leaf i n proof).1).map vU8).toArray, vInt (((rootO v0 leaf i n proof).2 : Nat) : Int)] ∧ Mem w [] [] w' := by
  subst hpm
  by_cases he : allE v0 proof [leaf] = 0
  · by_cases hin : n ≤ i
    · exact rroot_rng v0 leaf hll i n w a c proof hpl hr hc hl hb he hin
    · obtain ⟨hw, hlf, hpf⟩ := allE_ok he
      obtain ⟨k, rfl, h1, h2⟩ := wd_nat hw
      exact rroot_ok k h1 h2 leaf hll i n w a c proof hpl hr hc hl hb (hlf leaf (by simp)) hpf hK he hin
  · exact rroot_err v0 leaf hll i n w a c proof hpl hr hc hl hb he

theorem mincl_err (v0 : Int) (leaf : List UInt8) (hll : leaf.length = 32) (i n : UInt64) (root : List UInt8) (hrl : root.length = 32) (w : World) (hK : KW w) (a : Option Addr) (c : Nat) (proof : List (List UInt8)) (hpl : ∀ d ∈ proof, d.length = 32) (hr : Rd w a (proof.flatMap fun d => d.map vU8)) (hc : proof.length ≤ c) (hl : proof.length < 9223372036854775808) (hb : (proof.length + 2) * 32 ≤ 140737488355328) (he : allE v0 proof [leaf, root] ≠ 0) : Calls Tryd.prog 32 #[vInt v0, .agg ((leaf).map vU8).toArray, vU64 i, vU64 n, .slice a proof.length c, .agg ((root).map vU8).toArray] w fun e w' => ∃ v, e = .returned v ∧ v = vInt ((inclO v0 leaf i n proof root : Nat) : Int) ∧ Mem w [] [] w' := by
  refine calls_of_sw (vs := [vInt v0, .agg ((leaf).map vU8).toArray, vU64 i, vU64 n, .slice a proof.length c, .agg ((root).map vU8).toArray]) Tryd.func32 rfl Tryd.ntmps32 rfl (SW.begin ?_)
  refine sw_seq ?_
  refine sw_region ?_
  refine ow_new (acts_box rfl) rfl (fun b7 hb7 => ?_)
  refine ow_new (acts_box rfl) rfl (fun b11 hb11 => ?_)
  refine ow_val (val_assign rfl) rfl ?_
  refine ow_nil (into ?_)
  refine sw_seq ?_
  refine sw_seq ?_
  refine sw_region ?_
  refine ow_val (val_move rfl) rfl ?_
  refine ow_val (val_move rfl) rfl ?_
  refine ow_val (val_load_all 1 rfl rfl Tryd.isAgg41 Tryd.sizeOf41 (by show (List.map vU8 leaf).length = _; rw [List.length_map]; exact hll)) rfl ?_
  refine ow_val (val_load_all 0 rfl rfl Tryd.isAgg41 Tryd.sizeOf41 (by show (List.map vU8 root).length = _; rw [List.length_map]; exact hrl)) rfl ?_
  refine ow_make (acts_buildSlice (cs := [leaf.map vU8, root.map vU8].flatten) Tryd.underlying22 Tryd.sizeOf41 zD rfl rfl (fill_aggs [leaf.map vU8, root.map vU8] (by decide) rfl (by simp only [List.forall_mem_cons, List.length_map]; exact ⟨hll, hrl, fun _ h => by cases h⟩))) rfl (fun b20 hb20 => ?_)
  refine ow_call_pure (callsTo Tryd.func62 rfl (by kernel_rfl) rfl) rfl (fun w hm => mall_any v0 w a proof.length c proof rfl hpl (hr.mem hm) (by omega) (by omega) (some ⟨b20, 0, none⟩) 2 2 ([leaf, root]) rfl (by simp only [List.forall_mem_cons]; exact ⟨hll, hrl, fun _ h => by cases h⟩) (Rd.blk (hm.at (i := 0) rfl)) (by decide) (by decide)) ?_
  refine ow_val (val_assign rfl) rfl ?_
  refine ow_nil (into ?_)
  refine sw_seq ?_
  refine sw_region ?_
  refine ow_val (val_move rfl) rfl ?_
  refine ow_val ((val_neq_int rfl rfl).to (v' := .bool true) (congrArg Value.bool (decide_eq_true (by omega)))) rfl ?_
  refine ow_nil (into ?_)
  refine sw_true rfl rfl ?_
  refine sw_seq ?_
  refine sw_region ?_
  refine ow_val (val_move rfl) rfl ?_
  refine ow_val (val_assign rfl) rfl ?_
  refine ow_nil (into ?_)
  refine sw_ret (fun w hm => ?_)
  try dsimp only [thenP, blockP, Nat.beq, cond]
  exact ret_one _ rfl rfl ⟨by rw [← inclP_same, if_pos he] <;> rfl, hm.forgetAll⟩

theorem mincl_bad (v0 : Int) (leaf : List UInt8) (hll : leaf.length = 32) (i n : UInt64) (root : List UInt8) (hrl : root.length = 32) (w : World) (hK : KW w) (a : Option Addr) (c : Nat) (proof : List (List UInt8)) (hpl : ∀ d ∈ proof, d.length = 32) (hr : Rd w a (proof.flatMap fun d => d.map vU8)) (hc : proof.length ≤ c) (hl : proof.length < 9223372036854775808) (hb : (proof.length + 2) * 32 ≤ 140737488355328) (he : allE v0 proof [leaf, root] = 0) (hd : (rootO v0 leaf i n proof).2 ≠ 0) : Calls Tryd.prog 32 #[vInt v0, .agg ((leaf).map vU8).toArray, vU64 i, vU64 n, .slice a proof.length c, .agg ((root).map vU8).toArray] w fun e w' => ∃ v, e = .returned v ∧ v = vInt ((inclO v0 leaf i n proof root : Nat) : Int) ∧ Mem w [] [] w' := by
  refine calls_of_sw (vs := [vInt v0, .agg ((leaf).map vU8).toArray, vU64 i, vU64 n, .slice a proof.length c, .agg ((root).map vU8).toArray]) Tryd.func32 rfl Tryd.ntmps32 rfl (SW.begin ?_)
  refine sw_seq ?_
  refine sw_region ?_
  refine ow_new (acts_box rfl) rfl (fun b7 hb7 => ?_)
  refine ow_new (acts_box rfl) rfl (fun b11 hb11 => ?_)
  refine ow_val (val_assign rfl) rfl ?_
  refine ow_nil (into ?_)
  refine sw_seq ?_
  refine sw_seq ?_
  refine sw_region ?_
  refine ow_val (val_move rfl) rfl ?_
  refine ow_val (val_move rfl) rfl ?_
  refine ow_val (val_load_all 1 rfl rfl Tryd.isAgg41 Tryd.sizeOf41 (by show (List.map vU8 leaf).length = _; rw [List.length_map]; exact hll)) rfl ?_
  refine ow_val (val_load_all 0 rfl rfl Tryd.isAgg41 Tryd.sizeOf41 (by show (List.map vU8 root).length = _; rw [List.length_map]; exact hrl)) rfl ?_
  refine ow_make (acts_buildSlice (cs := [leaf.map vU8, root.map vU8].flatten) Tryd.underlying22 Tryd.sizeOf41 zD rfl rfl (fill_aggs [leaf.map vU8, root.map vU8] (by decide) rfl (by simp only [List.forall_mem_cons, List.length_map]; exact ⟨hll, hrl, fun _ h => by cases h⟩))) rfl (fun b20 hb20 => ?_)
  refine ow_call_pure (callsTo Tryd.func62 rfl (by kernel_rfl) rfl) rfl (fun w hm => mall_any v0 w a proof.length c proof rfl hpl (hr.mem hm) (by omega) (by omega) (some ⟨b20, 0, none⟩) 2 2 ([leaf, root]) rfl (by simp only [List.forall_mem_cons]; exact ⟨hll, hrl, fun _ h => by cases h⟩) (Rd.blk (hm.at (i := 0) rfl)) (by decide) (by decide)) ?_
  refine ow_val (val_assign rfl) rfl ?_
  refine ow_nil (into ?_)
  refine sw_seq ?_
  refine sw_region ?_
  refine ow_val (val_move rfl) rfl ?_
  refine ow_val ((val_neq_int rfl rfl).to (v' := .bool false) (congrArg Value.bool (decide_eq_false (fun h => h (by omega))))) rfl ?_
  refine ow_nil (into ?_)
  refine sw_false rfl rfl ?_
  refine sw_skip (into ?_)
  refine sw_seq ?_
  refine sw_region ?_
  refine ow_val (val_move rfl) rfl ?_
  refine ow_val (val_load_all 2 rfl rfl Tryd.isAgg41 Tryd.sizeOf41 (by show (List.map vU8 leaf).length = _; rw [List.length_map]; exact hll)) rfl ?_
  refine ow_val (val_move rfl) rfl ?_
  refine ow_val (val_move rfl) rfl ?_
  refine ow_val (val_move rfl) rfl ?_
  refine ow_call_pure (callsTo Tryd.func34 rfl (by kernel_rfl) rfl) rfl (fun w hm => mroot_any v0 leaf hll i n w (hK.mem0 hm) a proof.length c proof rfl hpl (hr.mem hm) (by omega) (by omega) (by omega)) ?_
  refine ow_val (val_move rfl) rfl ?_
  refine ow_val (val_extract rfl rfl) rfl ?_
  refine ow_val (val_extract rfl rfl) rfl ?_
  refine ow_new (acts_alloc zD) rfl (fun b14 hb14 => ?_)
  refine ow_do_eq (does_store_all 0 rfl rfl rfl (one_u8s _) Tryd.sizeOf41 (by show (List.map vU8 ((rootO v0 leaf i n proof).1)).length = _; rw [List.length_map]; exact (rootO_len hll)) (by show (List.map vU8 zeros32).length = _; rw [List.length_map]; exact zeros32_len)) ?_
  refine ow_val (val_assign rfl) rfl ?_
  refine ow_nil (into ?_)
  refine sw_seq ?_
  refine sw_seq ?_
  refine sw_region ?_
  refine ow_val (val_move rfl) rfl ?_
  refine ow_val ((val_eql_int rfl rfl).to (v' := .bool false) (congrArg Value.bool (decide_eq_false (by omega)))) rfl ?_
  refine ow_val (val_move rfl) rfl ?_
  first | refine ow_guard_no rfl rfl rfl rfl rfl ?_ | refine ow_guard_none rfl rfl rfl rfl rfl ?_
  first | refine ow_guard_no rfl rfl rfl rfl rfl ?_ | refine ow_guard_none rfl rfl rfl rfl rfl ?_
  first | refine ow_guard_no rfl rfl rfl rfl rfl ?_ | refine ow_guard_none rfl rfl rfl rfl rfl ?_
  refine ow_val (val_pick_false rfl rfl) rfl ?_
  refine ow_nil (into ?_)
  refine sw_false rfl rfl ?_
  refine sw_skip (into ?_)
  refine sw_seq ?_
  refine sw_region ?_
  refine ow_val (val_move rfl) rfl ?_
  refine ow_val (val_assign rfl) rfl ?_
  refine ow_nil (into ?_)
  exact sw_ret (fun w hm => ret_one _ rfl rfl ⟨by rw [← inclP_same, if_neg (by simp [he]), if_neg (fun h => hd h.1)] <;> rfl, hm.forgetAll⟩)

theorem mincl_good (v0 : Int) (leaf : List UInt8) (hll : leaf.length = 32) (i n : UInt64) (root : List UInt8) (hrl : root.length = 32) (w : World) (hK : KW w) (a : Option Addr) (c : Nat) (proof : List (List UInt8)) (hpl : ∀ d ∈ proof, d.length = 32) (hr : Rd w a (proof.flatMap fun d => d.map vU8)) (hc : proof.length ≤ c) (hl : proof.length < 9223372036854775808) (hb : (proof.length + 2) * 32 ≤ 140737488355328) (he : allE v0 proof [leaf, root] = 0) (hd : (rootO v0 leaf i n proof).2 = 0) : Calls Tryd.prog 32 #[vInt v0, .agg ((leaf).map vU8).toArray, vU64 i, vU64 n, .slice a proof.length c, .agg ((root).map vU8).toArray] w fun e w' => ∃ v, e = .returned v ∧ v = vInt ((inclO v0 leaf i n proof root : Nat) : Int) ∧ Mem w [] [] w' := by
  refine calls_of_sw (vs := [vInt v0, .agg ((leaf).map vU8).toArray, vU64 i, vU64 n, .slice a proof.length c, .agg ((root).map vU8).toArray]) Tryd.func32 rfl Tryd.ntmps32 rfl (SW.begin ?_)
  refine sw_seq ?_
  refine sw_region ?_
  refine ow_new (acts_box rfl) rfl (fun b7 hb7 => ?_)
  refine ow_new (acts_box rfl) rfl (fun b11 hb11 => ?_)
  refine ow_val (val_assign rfl) rfl ?_
  refine ow_nil (into ?_)
  refine sw_seq ?_
  refine sw_seq ?_
  refine sw_region ?_
  refine ow_val (val_move rfl) rfl ?_
  refine ow_val (val_move rfl) rfl ?_
  refine ow_val (val_load_all 1 rfl rfl Tryd.isAgg41 Tryd.sizeOf41 (by show (List.map vU8 leaf).length = _; rw [List.length_map]; exact hll)) rfl ?_
  refine ow_val (val_load_all 0 rfl rfl Tryd.isAgg41 Tryd.sizeOf41 (by show (List.map vU8 root).length = _; rw [List.length_map]; exact hrl)) rfl ?_
  refine ow_make (acts_buildSlice (cs := [leaf.map vU8, root.map vU8].flatten) Tryd.underlying22 Tryd.sizeOf41 zD rfl rfl (fill_aggs [leaf.map vU8, root.map vU8] (by decide) rfl (by simp only [List.forall_mem_cons, List.length_map]; exact ⟨hll, hrl, fun _ h => by cases h⟩))) rfl (fun b20 hb20 => ?_)
  refine ow_call_pure (callsTo Tryd.func62 rfl (by kernel_rfl) rfl) rfl (fun w hm => mall_any v0 w a proof.length c proof rfl hpl (hr.mem hm) (by omega) (by omega) (some ⟨b20, 0, none⟩) 2 2 ([leaf, root]) rfl (by simp only [List.forall_mem_cons]; exact ⟨hll, hrl, fun _ h => by cases h⟩) (Rd.blk (hm.at (i := 0) rfl)) (by decide) (by decide)) ?_
  refine ow_val (val_assign rfl) rfl ?_
  refine ow_nil (into ?_)
  refine sw_seq ?_
  refine sw_region ?_
  refine ow_val (val_move rfl) rfl ?_
  refine ow_val ((val_neq_int rfl rfl).to (v' := .bool false) (congrArg Value.bool (decide_eq_false (fun h => h (by omega))))) rfl ?_
  refine ow_nil (into ?_)
  refine sw_false rfl rfl ?_
  refine sw_skip (into ?_)
  refine sw_seq ?_
  refine sw_region ?_
  refine ow_val (val_move rfl) rfl ?_
  refine ow_val (val_load_all 2 rfl rfl Tryd.isAgg41 Tryd.sizeOf41 (by show (List.map vU8 leaf).length = _; rw [List.length_map]; exact hll)) rfl ?_
  refine ow_val (val_move rfl) rfl ?_
  refine ow_val (val_move rfl) rfl ?_
  refine ow_val (val_move rfl) rfl ?_
  refine ow_call_pure (callsTo Tryd.func34 rfl (by kernel_rfl) rfl) rfl (fun w hm => mroot_any v0 leaf hll i n w (hK.mem0 hm) a proof.length c proof rfl hpl (hr.mem hm) (by omega) (by omega) (by omega)) ?_
  refine ow_val (val_move rfl) rfl ?_
  refine ow_val (val_extract rfl rfl) rfl ?_
  refine ow_val (val_extract rfl rfl) rfl ?_
  refine ow_new (acts_alloc zD) rfl (fun b14 hb14 => ?_)
  refine ow_do_eq (does_store_all 0 rfl rfl rfl (one_u8s _) Tryd.sizeOf41 (by show (List.map vU8 ((rootO v0 leaf i n proof).1)).length = _; rw [List.length_map]; exact (rootO_len hll)) (by show (List.map vU8 zeros32).length = _; rw [List.length_map]; exact zeros32_len)) ?_
  refine ow_val (val_assign rfl) rfl ?_
  refine ow_nil (into ?_)
  refine sw_seq ?_
  refine sw_seq ?_
  refine sw_region ?_
  refine ow_val (val_move rfl) rfl ?_
  refine ow_val ((val_eql_int rfl rfl).to (v' := .bool true) (congrArg Value.bool (decide_eq_true (by omega)))) rfl ?_
  refine ow_val (val_move rfl) rfl ?_
  refine ow_guard_yes rfl rfl rfl ?_
  refine ow_val (val_load_all 0 rfl rfl Tryd.isAgg41 Tryd.sizeOf41 (by show (List.map vU8 ((rootO v0 leaf i n proof).1)).length = _; rw [List.length_map]; exact (rootO_len hll))) rfl ?_
  refine ow_guard_yes rfl rfl rfl ?_
  refine ow_val (val_load_all 2 rfl rfl Tryd.isAgg41 Tryd.sizeOf41 (by show (List.map vU8 root).length = _; rw [List.length_map]; exact hrl)) rfl ?_
  by_cases hx : (rootO v0 leaf i n proof).1 ≠ root
  · -- yes
    refine ow_guard_yes rfl rfl rfl ?_
    refine ow_val ((val_neq_u8s rfl rfl Tryd.eqGuardType41 Tryd.underlying41 Tryd.underlying5 Tryd.sizeOf5 Tryd.isAgg5 (rootO_len hll) hrl).to (congrArg Value.bool (show _ = true by simpa using hx))) rfl ?_
    refine ow_val (val_pick_true rfl rfl) rfl ?_
    refine ow_nil (into ?_)
    refine sw_true rfl rfl ?_
    refine sw_seq ?_
    refine sw_region ?_
    refine ow_val (val_assign rfl) rfl ?_
    refine ow_nil (into ?_)
    refine sw_ret (fun w hm => ?_)
    try dsimp only [thenP, blockP, Nat.beq, cond]
    exact ret_one _ rfl rfl ⟨by rw [← inclP_same, if_neg (by simp [he]), if_pos ⟨hd, hx⟩] <;> rfl, hm.forgetAll⟩
  · -- no
    refine ow_guard_yes rfl rfl rfl ?_
    refine ow_val ((val_neq_u8s rfl rfl Tryd.eqGuardType41 Tryd.underlying41 Tryd.underlying5 Tryd.sizeOf5 Tryd.isAgg5 (rootO_len hll) hrl).to (congrArg Value.bool (show _ = false by simpa using hx))) rfl ?_
    refine ow_val (val_pick_true rfl rfl) rfl ?_
    refine ow_nil (into ?_)
    refine sw_false rfl rfl ?_
    refine sw_skip (into ?_)
    refine sw_seq ?_
    refine sw_region ?_
    refine ow_val (val_move rfl) rfl ?_
    refine ow_val (val_assign rfl) rfl ?_
    refine ow_nil (into ?_)
    refine sw_ret (fun w hm => ?_)
    try dsimp only [thenP, blockP, Nat.beq, cond]
    exact ret_one _ rfl rfl ⟨by rw [← inclP_same, if_neg (by simp [he]), if_neg (fun h => hx h.2)] <;> rfl, hm.forgetAll⟩

theorem mincl_any (v0 : Int) (leaf : List UInt8) (hll : leaf.length = 32) (i n : UInt64) (root : List UInt8) (hrl : root.length = 32) (w : World) (hK : KW w) (a : Option Addr) (m c : Nat) (proof : List (List UInt8)) (hpm : proof.length = m) (hpl : ∀ d ∈ proof, d.length = 32) (hr : Rd w a (proof.flatMap fun d => d.map vU8)) (hc : m ≤ c) (hl : m < 9223372036854775808) (hb : (m + 2) * 32 ≤ 140737488355328) : Calls Tryd.prog 32 #[vInt v0, .agg ((leaf).map vU8).toArray, vU64 i, vU64 n, .slice a m c, .agg ((root).map vU8).toArray] w fun e w' => ∃ v, e = .returned v ∧ v = vInt ((inclO v0 leaf i n proof root : Nat) : Int) ∧ Mem w [] [] w' := by
  subst hpm
  by_cases he : allE v0 proof [leaf, root] = 0
  · by_cases hd : (rootO v0 leaf i n proof).2 = 0
    · exact mincl_good v0 leaf hll i n root hrl w hK a c proof hpl hr hc hl hb he hd
    · exact mincl_bad v0 leaf hll i n root hrl w hK a c proof hpl hr hc hl hb he hd
  · exact mincl_err v0 leaf hll i n root hrl w hK a c proof hpl hr hc hl hb he

theorem mroots_err (v0 : Int) (old : List UInt8) (hll : old.length = 32) (m' n : UInt64) (w : World) (a : Option Addr) (c : Nat) (proof : List (List UInt8)) (hpl : ∀ d ∈ proof, d.length = 32) (hr : Rd w a (proof.flatMap fun d => d.map vU8)) (hc : proof.length ≤ c) (hl : proof.length < 9223372036854775808) (hb : (proof.length + 2) * 32 ≤ 140737488355328) (he : allE v0 proof [old] ≠ 0) : Calls Tryd.prog 40 #[vInt v0, vU64 m', vU64 n, .agg ((old).map vU8).toArray, .slice a proof.length c] w fun e w' => ∃ v, e = .returned v ∧ v = .tuple #[.agg (((rootsO v0 m' n old proof).1.1).map vU8).toArray, .agg (((rootsO v0 m' n old proof).1.2).map vU8).toArray, vInt (((rootsO v0 m' n old proof).2 : Nat) : Int)] ∧ Mem w [] [] w' := by
  refine calls_of_sw (vs := [vInt v0, vU64 m', vU64 n, .agg ((old).map vU8).toArray, .slice a proof.length c]) Tryd.func40 rfl Tryd.ntmps40 rfl (SW.begin ?_)
  refine sw_seq ?_
  refine sw_region ?_
  refine ow_new (acts_box rfl) rfl (fun b8 hb8 => ?_)
  refine ow_new (acts_alloc zD) rfl (fun b10 hb10 => ?_)
  refine ow_new (acts_alloc zD) rfl (fun b11 hb11 => ?_)
  refine ow_val (val_assign rfl) rfl ?_
  refine ow_nil (into ?_)
  refine sw_seq ?_
  refine sw_seq ?_
  refine sw_region ?_
  refine ow_val (val_move rfl) rfl ?_
  refine ow_val (val_move rfl) rfl ?_
  refine ow_val (val_load_all 2 rfl rfl Tryd.isAgg41 Tryd.sizeOf41 (by show (List.map vU8 old).length = _; rw [List.length_map]; exact hll)) rfl ?_
  refine ow_make (acts_buildSlice (cs := [old.map vU8].flatten) Tryd.underlying22 Tryd.sizeOf41 zD rfl rfl (fill_aggs [old.map vU8] (by decide) rfl (by simp only [List.forall_mem_cons, List.length_map]; exact ⟨hll, fun _ h => by cases h⟩))) rfl (fun b19 hb19 => ?_)
  refine ow_call_pure (callsTo Tryd.func62 rfl (by kernel_rfl) rfl) rfl (fun w hm => mall_any v0 w a proof.length c proof rfl hpl (hr.mem hm) (by omega) (by omega) (some ⟨b19, 0, none⟩) 1 1 ([old]) rfl (by simp only [List.forall_mem_cons]; exact ⟨hll, fun _ h => by cases h⟩) (Rd.blk (hm.at (i := 0) rfl)) (by decide) (by decide)) ?_
  refine ow_val (val_assign rfl) rfl ?_
  refine ow_nil (into ?_)
  refine sw_seq ?_
  refine sw_region ?_
  refine ow_val (val_move rfl) rfl ?_
  refine ow_val ((val_neq_int rfl rfl).to (v' := .bool true) (congrArg Value.bool (decide_eq_true (by omega)))) rfl ?_
  refine ow_nil (into ?_)
  refine sw_true rfl rfl ?_
  refine sw_seq ?_
  refine sw_region ?_
  refine ow_val (val_build' (cs := zeros32.map vU8) rfl (by kernel_rfl)) rfl ?_
  refine ow_val (val_build' (cs := zeros32.map vU8) rfl (by kernel_rfl)) rfl ?_
  refine ow_val (val_move rfl) rfl ?_
  refine ow_do_eq (does_store_all 2 rfl rfl rfl (one_u8s _) Tryd.sizeOf41 (by show (List.map vU8 zeros32).length = _; rw [List.length_map]; exact zeros32_len) (by show (List.map vU8 zeros32).length = _; rw [List.length_map]; exact zeros32_len)) ?_
  refine ow_do_eq (does_store_all 1 rfl rfl rfl (one_u8s _) Tryd.sizeOf41 (by show (List.map vU8 zeros32).length = _; rw [List.length_map]; exact zeros32_len) (by show (List.map vU8 zeros32).length = _; rw [List.length_map]; exact zeros32_len)) ?_
  refine ow_val (val_assign rfl) rfl ?_
  refine ow_nil (into ?_)
  refine sw_ret (fun w hm => ?_)
  try dsimp only [thenP, blockP, Nat.beq, cond]
  exact ret_cct 1 2 rfl rfl rfl rfl hm rfl rfl Tryd.isAgg41 Tryd.sizeOf41 Tryd.isAgg41 Tryd.sizeOf41 (by show (List.map vU8 zeros32).length = _; rw [List.length_map]; exact zeros32_len) (by show (List.map vU8 zeros32).length = _; rw [List.length_map]; exact zeros32_len) ⟨by rw [rootsO, if_pos he] <;> rfl, hm.forgetAll⟩

theorem mroots_lo (v0 : Int) (old : List UInt8) (hll : old.length = 32) (m' n : UInt64) (w : World) (a : Option Addr) (c : Nat) (proof : List (List UInt8)) (hpl : ∀ d ∈ proof, d.length = 32) (hr : Rd w a (proof.flatMap fun d => d.map vU8)) (hc : proof.length ≤ c) (hl : proof.length < 9223372036854775808) (hb : (proof.length + 2) * 32 ≤ 140737488355328) (he : allE v0 proof [old] = 0) (hm1 : m' < 1) : Calls Tryd.prog 40 #[vInt v0, vU64 m', vU64 n, .agg ((old).map vU8).toArray, .slice a proof.length c] w fun e w' => ∃ v, e = .returned v ∧ v = .tuple #[.agg (((rootsO v0 m' n old proof).1.1).map vU8).toArray, .agg (((rootsO v0 m' n old proof).1.2).map vU8).toArray, vInt (((rootsO v0 m' n old proof).2 : Nat) : Int)] ∧ Mem w [] [] w' := by
  refine calls_of_sw (vs := [vInt v0, vU64 m', vU64 n, .agg ((old).map vU8).toArray, .slice a proof.length c]) Tryd.func40 rfl Tryd.ntmps40 rfl (SW.begin ?_)
  refine sw_seq ?_
  refine sw_region ?_
  refine ow_new (acts_box rfl) rfl (fun b8 hb8 => ?_)
  refine ow_new (acts_alloc zD) rfl (fun b10 hb10 => ?_)
  refine ow_new (acts_alloc zD) rfl (fun b11 hb11 => ?_)
  refine ow_val (val_assign rfl) rfl ?_
  refine ow_nil (into ?_)
  refine sw_seq ?_
  refine sw_seq ?_
  refine sw_region ?_
  refine ow_val (val_move rfl) rfl ?_
  refine ow_val (val_move rfl) rfl ?_
  refine ow_val (val_load_all 2 rfl rfl Tryd.isAgg41 Tryd.sizeOf41 (by show (List.map vU8 old).length = _; rw [List.length_map]; exact hll)) rfl ?_
  refine ow_make (acts_buildSlice (cs := [old.map vU8].flatten) Tryd.underlying22 Tryd.sizeOf41 zD rfl rfl (fill_aggs [old.map vU8] (by decide) rfl (by simp only [List.forall_mem_cons, List.length_map]; exact ⟨hll, fun _ h => by cases h⟩))) rfl (fun b19 hb19 => ?_)
  refine ow_call_pure (callsTo Tryd.func62 rfl (by kernel_rfl) rfl) rfl (fun w hm => mall_any v0 w a proof.length c proof rfl hpl (hr.mem hm) (by omega) (by omega) (some ⟨b19, 0, none⟩) 1 1 ([old]) rfl (by simp only [List.forall_mem_cons]; exact ⟨hll, fun _ h => by cases h⟩) (Rd.blk (hm.at (i := 0) rfl)) (by decide) (by decide)) ?_
  refine ow_val (val_assign rfl) rfl ?_
  refine ow_nil (into ?_)
  refine sw_seq ?_
  refine sw_region ?_
  refine ow_val (val_move rfl) rfl ?_
  refine ow_val ((val_neq_int rfl rfl).to (v' := .bool false) (congrArg Value.bool (decide_eq_false (fun h => h (by omega))))) rfl ?_
  refine ow_nil (into ?_)
  refine sw_false rfl rfl ?_
  refine sw_skip (into ?_)
  refine sw_seq ?_
  refine sw_seq ?_
  refine sw_region ?_
  refine ow_val (val_move rfl) rfl ?_
  refine ow_val ((val_lss_u64 rfl rfl).to (v' := .bool true) (congrArg Value.bool (decide_eq_true hm1))) rfl ?_
  refine ow_val (val_move rfl) rfl ?_
  first | refine ow_guard_no rfl rfl rfl rfl rfl ?_ | refine ow_guard_none rfl rfl rfl rfl rfl ?_
  first | refine ow_guard_no rfl rfl rfl rfl rfl ?_ | refine ow_guard_none rfl rfl rfl rfl rfl ?_
  first | refine ow_guard_no rfl rfl rfl rfl rfl ?_ | refine ow_guard_none rfl rfl rfl rfl rfl ?_
  refine ow_val (val_pick_true rfl rfl) rfl ?_
  refine ow_nil (into ?_)
  refine sw_true rfl rfl ?_
  refine sw_seq ?_
  refine sw_region ?_
  refine ow_val (val_build' (cs := zeros32.map vU8) rfl (by kernel_rfl)) rfl ?_
  refine ow_val (val_build' (cs := zeros32.map vU8) rfl (by kernel_rfl)) rfl ?_
  refine ow_do_eq (does_store_all 2 rfl rfl rfl (one_u8s _) Tryd.sizeOf41 (by show (List.map vU8 zeros32).length = _; rw [List.length_map]; exact zeros32_len) (by show (List.map vU8 zeros32).length = _; rw [List.length_map]; exact zeros32_len)) ?_
  refine ow_do_eq (does_store_all 1 rfl rfl rfl (one_u8s _) Tryd.sizeOf41 (by show (List.map vU8 zeros32).length = _; rw [List.length_map]; exact zeros32_len) (by show (List.map vU8 zeros32).length = _; rw [List.length_map]; exact zeros32_len)) ?_
  refine ow_val (val_assign rfl) rfl ?_
  refine ow_nil (into ?_)
  refine sw_ret (fun w hm => ?_)
  try dsimp only [thenP, blockP, Nat.beq, cond]
  exact ret_cct 1 2 rfl rfl rfl rfl hm rfl rfl Tryd.isAgg41 Tryd.sizeOf41 Tryd.isAgg41 Tryd.sizeOf41 (by show (List.map vU8 zeros32).length = _; rw [List.length_map]; exact zeros32_len) (by show (List.map vU8 zeros32).length = _; rw [List.length_map]; exact zeros32_len) ⟨by rw [rootsO, if_neg (by simp [he]), if_pos (.inl hm1)] <;> rfl, hm.forgetAll⟩

theorem mroots_hi (v0 : Int) (old : List UInt8) (hll : old.length = 32) (m' n : UInt64) (w : World) (a : Option Addr) (c : Nat) (proof : List (List UInt8)) (hpl : ∀ d ∈ proof, d.length = 32) (hr : Rd w a (proof.flatMap fun d => d.map vU8)) (hc : proof.length ≤ c) (hl : proof.length < 9223372036854775808) (hb : (proof.length + 2) * 32 ≤ 140737488355328) (he : allE v0 proof [old] = 0) (hm1 : ¬ m' < 1) (hin : n ≤ m') : Calls Tryd.prog 40 #[vInt v0, vU64 m', vU64 n, .agg ((old).map vU8).toArray, .slice a proof.length c] w fun e w' => ∃ v, e = .returned v ∧ v = .tuple #[.agg (((rootsO v0 m' n old proof).1.1).map vU8).toArray, .agg (((rootsO v0 m' n old proof).1.2).map vU8).toArray, vInt (((rootsO v0 m' n old proof).2 : Nat) : Int)] ∧ Mem w [] [] w' := by
  refine calls_of_sw (vs := [vInt v0, vU64 m', vU64 n, .agg ((old).map vU8).toArray, .slice a proof.length c]) Tryd.func40 rfl Tryd.ntmps40 rfl (SW.begin ?_)
  refine sw_seq ?_
  refine sw_region ?_
  refine ow_new (acts_box rfl) rfl (fun b8 hb8 => ?_)
  refine ow_new (acts_alloc zD) rfl (fun b10 hb10 => ?_)
  refine ow_new (acts_alloc zD) rfl (fun b11 hb11 => ?_)
  refine ow_val (val_assign rfl) rfl ?_
  refine ow_nil (into ?_)
  refine sw_seq ?_
  refine sw_seq ?_
  refine sw_region ?_
  refine ow_val (val_move rfl) rfl ?_
  refine ow_val (val_move rfl) rfl ?_
  refine ow_val (val_load_all 2 rfl rfl Tryd.isAgg41 Tryd.sizeOf41 (by show (List.map vU8 old).length = _; rw [List.length_map]; exact hll)) rfl ?_
  refine ow_make (acts_buildSlice (cs := [old.map vU8].flatten) Tryd.underlying22 Tryd.sizeOf41 zD rfl rfl (fill_aggs [old.map vU8] (by decide) rfl (by simp only [List.forall_mem_cons, List.length_map]; exact ⟨hll, fun _ h => by cases h⟩))) rfl (fun b19 hb19 => ?_)
  refine ow_call_pure (callsTo Tryd.func62 rfl (by kernel_rfl) rfl) rfl (fun w hm => mall_any v0 w a proof.length c proof rfl hpl (hr.mem hm) (by omega) (by omega) (some ⟨b19, 0, none⟩) 1 1 ([old]) rfl (by simp only [List.forall_mem_cons]; exact ⟨hll, fun _ h => by cases h⟩) (Rd.blk (hm.at (i := 0) rfl)) (by decide) (by decide)) ?_
  refine ow_val (val_assign rfl) rfl ?_
  refine ow_nil (into ?_)
  refine sw_seq ?_
  refine sw_region ?_
  refine ow_val (val_move rfl) rfl ?_
  refine ow_val ((val_neq_int rfl rfl).to (v' := .bool false) (congrArg Value.bool (decide_eq_false (fun h => h (by omega))))) rfl ?_
  refine ow_nil (into ?_)
  refine sw_false rfl rfl ?_
  refine sw_skip (into ?_)
  refine sw_seq ?_
  refine sw_seq ?_
  refine sw_region ?_
  refine ow_val (val_move rfl) rfl ?_
  refine ow_val ((val_lss_u64 rfl rfl).to (v' := .bool false) (congrArg Value.bool (decide_eq_false hm1))) rfl ?_
  refine ow_val (val_move rfl) rfl ?_
  refine ow_guard_yes rfl rfl rfl ?_
  refine ow_val (val_move rfl) rfl ?_
  refine ow_guard_yes rfl rfl rfl ?_
  refine ow_val (val_move rfl) rfl ?_
  refine ow_guard_yes rfl rfl rfl ?_
  refine ow_val ((val_geq_u64 rfl rfl).to (v' := .bool true) (congrArg Value.bool (decide_eq_true hin))) rfl ?_
  refine ow_val (val_pick_false rfl rfl) rfl ?_
  refine ow_nil (into ?_)
  refine sw_true rfl rfl ?_
  refine sw_seq ?_
  refine sw_region ?_
  refine ow_val (val_build' (cs := zeros32.map vU8) rfl (by kernel_rfl)) rfl ?_
  refine ow_val (val_build' (cs := zeros32.map vU8) rfl (by kernel_rfl)) rfl ?_
  refine ow_do_eq (does_store_all 2 rfl rfl rfl (one_u8s _) Tryd.sizeOf41 (by show (List.map vU8 zeros32).length = _; rw [List.length_map]; exact zeros32_len) (by show (List.map vU8 zeros32).length = _; rw [List.length_map]; exact zeros32_len)) ?_
  refine ow_do_eq (does_store_all 1 rfl rfl rfl (one_u8s _) Tryd.sizeOf41 (by show (List.map vU8 zeros32).length = _; rw [List.length_map]; exact zeros32_len) (by show (List.map vU8 zeros32).length = _; rw [List.length_map]; exact zeros32_len)) ?_
  refine ow_val (val_assign rfl) rfl ?_
  refine ow_nil (into ?_)
  refine sw_ret (fun w hm => ?_)
  try dsimp only [thenP, blockP, Nat.beq, cond]
  exact ret_cct 1 2 rfl rfl rfl rfl hm rfl rfl Tryd.isAgg41 Tryd.sizeOf41 Tryd.isAgg41 Tryd.sizeOf41 (by show (List.map vU8 zeros32).length = _; rw [List.length_map]; exact zeros32_len) (by show (List.map vU8 zeros32).length = _; rw [List.length_map]; exact zeros32_len) ⟨by rw [rootsO, if_neg (by simp [he]), if_pos (.inr hin)] <;> rfl, hm.forgetAll⟩

theorem mroots_ok (k : Nat) (h1 : 1 ≤ k) (h2 : k ≤ 32) (old : List UInt8) (hll : old.length = 32) (m' n : UInt64) (w : World) (a : Option Addr) (c : Nat) (proof : List (List UInt8)) (hpl : ∀ d ∈ proof, d.length = 32) (hr : Rd w a (proof.flatMap fun d => d.map vU8)) (hc : proof.length ≤ c) (hl : proof.length < 9223372036854775808) (hb : (proof.length + 2) * 32 ≤ 140737488355328) (hlf : fm (k : Int) old = true) (hpf : ∀ d ∈ proof, fm (k : Int) d = true) (hK : KW w) (he : allE (k : Int) proof [old] = 0) (hm1 : ¬ m' < 1) (hin : ¬ n ≤ m') : Calls Tryd.prog 40 #[vInt (k : Int), vU64 m', vU64 n, .agg ((old).map vU8).toArray, .slice a proof.length c] w fun e w' => ∃ v, e = .returned v ∧ v = .tuple #[.agg (((rootsO (k : Int) m' n old proof).1.1).map vU8).toArray, .agg (((rootsO (k : Int) m' n old proof).1.2).map vU8).toArray, vInt (((rootsO (k : Int) m' n old proof).2 : Nat) : Int)] ∧ Mem w [] [] w' := by
  have hm0 : m' ≠ 0 := fun h => hm1 (by rw [h]; decide)
  have hmn : m' ≤ n := UInt64.le_iff_toNat_le.2 (Nat.le_of_not_le fun h => hin (UInt64.le_iff_toNat_le.2 h))
  have hn0 : n ≠ 0 := fun h => hin (by rw [h]; exact UInt64.le_iff_toNat_le.2 (Nat.zero_le _))
  refine calls_of_sw (vs := [vInt (k : Int), vU64 m', vU64 n, .agg ((old).map vU8).toArray, .slice a proof.length c]) Tryd.func40 rfl Tryd.ntmps40 rfl (SW.begin ?_)
  refine sw_seq ?_
  refine sw_region ?_
  refine ow_new (acts_box rfl) rfl (fun b8 hb8 => ?_)
  refine ow_new (acts_alloc zD) rfl (fun b10 hb10 => ?_)
  refine ow_new (acts_alloc zD) rfl (fun b11 hb11 => ?_)
  refine ow_val (val_assign rfl) rfl ?_
  refine ow_nil (into ?_)
  refine sw_seq ?_
  refine sw_seq ?_
  refine sw_region ?_
  refine ow_val (val_move rfl) rfl ?_
  refine ow_val (val_move rfl) rfl ?_
  refine ow_val (val_load_all 2 rfl rfl Tryd.isAgg41 Tryd.sizeOf41 (by show (List.map vU8 old).length = _; rw [List.length_map]; exact hll)) rfl ?_
  refine ow_make (acts_buildSlice (cs := [old.map vU8].flatten) Tryd.underlying22 Tryd.sizeOf41 zD rfl rfl (fill_aggs [old.map vU8] (by decide) rfl (by simp only [List.forall_mem_cons, List.length_map]; exact ⟨hll, fun _ h => by cases h⟩))) rfl (fun b19 hb19 => ?_)
  refine ow_call_pure (callsTo Tryd.func62 rfl (by kernel_rfl) rfl) rfl (fun w hm => mall_any (k : Int) w a proof.length c proof rfl hpl (hr.mem hm) (by omega) (by omega) (some ⟨b19, 0, none⟩) 1 1 ([old]) rfl (by simp only [List.forall_mem_cons]; exact ⟨hll, fun _ h => by cases h⟩) (Rd.blk (hm.at (i := 0) rfl)) (by decide) (by decide)) ?_
  refine ow_val (val_assign rfl) rfl ?_
  refine ow_nil (into ?_)
  refine sw_seq ?_
  refine sw_region ?_
  refine ow_val (val_move rfl) rfl ?_
  refine ow_val ((val_neq_int rfl rfl).to (v' := .bool false) (congrArg Value.bool (decide_eq_false (fun h => h (by omega))))) rfl ?_
  refine ow_nil (into ?_)
  refine sw_false rfl rfl ?_
  refine sw_skip (into ?_)
  refine sw_seq ?_
  refine sw_seq ?_
  refine sw_region ?_
  refine ow_val (val_move rfl) rfl ?_
  refine ow_val ((val_lss_u64 rfl rfl).to (v' := .bool false) (congrArg Value.bool (decide_eq_false hm1))) rfl ?_
  refine ow_val (val_move rfl) rfl ?_
  refine ow_guard_yes rfl rfl rfl ?_
  refine ow_val (val_move rfl) rfl ?_
  refine ow_guard_yes rfl rfl rfl ?_
  refine ow_val (val_move rfl) rfl ?_
  refine ow_guard_yes rfl rfl rfl ?_
  refine ow_val ((val_geq_u64 rfl rfl).to (v' := .bool false) (congrArg Value.bool (decide_eq_false hin))) rfl ?_
  refine ow_val (val_pick_false rfl rfl) rfl ?_
  refine ow_nil (into ?_)
  refine sw_false rfl rfl ?_
  refine sw_skip (into ?_)
  refine sw_seq ?_
  refine sw_region ?_
  refine ow_val (val_move rfl) rfl ?_
  refine ow_val (val_move rfl) rfl ?_
  refine ow_val (val_move rfl) rfl ?_
  refine ow_val (val_load_all 3 rfl rfl Tryd.isAgg41 Tryd.sizeOf41 (by show (List.map vU8 old).length = _; rw [List.length_map]; exact hll)) rfl ?_
  refine ow_val (val_move rfl) rfl ?_
  refine ow_call_pure (callsTo Tryd.func72 rfl (by kernel_rfl) rfl) rfl (fun w hm => two_any k h1 h2 old hll hlf a c _ proof rfl hpl hpf hc hl m' n true w hm0 hn0 hmn (hK.mem0 hm) (hr.mem hm)) ?_
  refine ow_val (val_move rfl) rfl ?_
  refine ow_val (val_extract rfl rfl) rfl ?_
  refine ow_val (val_extract rfl rfl) rfl ?_
  refine ow_new (acts_alloc zPair) rfl (fun b14 hb14 => ?_)
  refine ow_do_eq (does_store_all 0 rfl rfl rfl (one_pair _ _) Tryd.sizeOf100 (pair_len (twoR_len h2 hll _ (fun d hd => hpl d (List.mem_reverse.1 hd)) _ _ _).1 (twoR_len h2 hll _ (fun d hd => hpl d (List.mem_reverse.1 hd)) _ _ _).2) rfl) ?_
  refine ow_val (val_assign rfl) rfl ?_
  refine ow_nil (into ?_)
  refine sw_seq ?_
  refine sw_seq ?_
  refine sw_region ?_
  refine ow_val (val_move rfl) rfl ?_
  by_cases hup : (twoR k old m' n true proof.reverse).2 = false
  · -- yes
    refine ow_val ((val_not rfl).to (congrArg Value.bool (show (!_) = true by rw [hup]; rfl))) rfl ?_
    refine ow_nil (into ?_)
    refine sw_true rfl rfl ?_
    refine sw_seq ?_
    refine sw_region ?_
    refine ow_val (val_build' (cs := zeros32.map vU8) rfl (by kernel_rfl)) rfl ?_
    refine ow_val (val_build' (cs := zeros32.map vU8) rfl (by kernel_rfl)) rfl ?_
    refine ow_do_eq (does_store_all 3 rfl rfl rfl (one_u8s _) Tryd.sizeOf41 (by show (List.map vU8 zeros32).length = _; rw [List.length_map]; exact zeros32_len) (by show (List.map vU8 zeros32).length = _; rw [List.length_map]; exact zeros32_len)) ?_
    refine ow_do_eq (does_store_all 2 rfl rfl rfl (one_u8s _) Tryd.sizeOf41 (by show (List.map vU8 zeros32).length = _; rw [List.length_map]; exact zeros32_len) (by show (List.map vU8 zeros32).length = _; rw [List.length_map]; exact zeros32_len)) ?_
    refine ow_val (val_assign rfl) rfl ?_
    refine ow_nil (into ?_)
    refine sw_ret (fun w hm => ?_)
    try dsimp only [thenP, blockP, Nat.beq, cond]
    exact ret_cct 2 3 rfl rfl rfl rfl hm rfl rfl Tryd.isAgg41 Tryd.sizeOf41 Tryd.isAgg41 Tryd.sizeOf41 (by show (List.map vU8 zeros32).length = _; rw [List.length_map]; exact zeros32_len) (by show (List.map vU8 zeros32).length = _; rw [List.length_map]; exact zeros32_len) ⟨by rw [rootsO, if_neg (by simp [he]), if_neg (fun h => h.elim hm1 hin), Int.toNat_natCast, if_neg (by rw [hup]; decide)] <;> rfl, hm.forgetAll⟩
  · -- no
    refine ow_val ((val_not rfl).to (congrArg Value.bool (show (!_) = false by rw [(Bool.not_eq_false _).mp hup]; rfl))) rfl ?_
    refine ow_nil (into ?_)
    refine sw_false rfl rfl ?_
    refine sw_skip (into ?_)
    refine sw_seq ?_
    refine sw_region_tree _ [4, 5] (.one 0 0 (.one 2 0 (.one 1 1 (.alt 3 (.one 4 2 (.one 5 2 (.one 6 0 .done))) (.alt 4 (.one 3 2 (.one 5 2 (.one 6 0 .done))) .stop))))) (by kernel_rfl) (by kernel_rfl) (fun _ _ _ h => h) (fun _ h => h) (fun _ h => h.drawn _) ?_
    refine lt_pure rfl trivial (val_fieldAddr (m := 31) (e := 0) rfl Tryd.underlying100 rfl rfl Tryd.sizeOf41 rfl) rfl ?_
    refine lt_pure rfl trivial (val_fieldAddr (m := 31) (e := 32) rfl Tryd.underlying100 rfl rfl Tryd.sizeOf41 rfl) rfl ?_
    refine lt_held rfl trivial (val_load_part 0 rfl rfl Tryd.isAgg41 Tryd.sizeOf41 (by show (List.map vU8 ((twoR k old m' n true proof.reverse).1.1)).length = _; rw [List.length_map]; exact (twoR_len h2 hll _ (fun d hd => hpl d (List.mem_reverse.1 hd)) _ _ _).1) (pair_0 (twoR_len h2 hll _ (fun d hd => hpl d (List.mem_reverse.1 hd)) _ _ _).1)) rfl ?_
    refine lt_alt ?_ ?_
    · -- first 3
      refine lt_val rfl trivial (val_load_part 0 rfl rfl Tryd.isAgg41 Tryd.sizeOf41 (by show (List.map vU8 ((twoR k old m' n true proof.reverse).1.2)).length = _; rw [List.length_map]; exact (twoR_len h2 hll _ (fun d hd => hpl d (List.mem_reverse.1 hd)) _ _ _).2) (pair_32 (twoR_len h2 hll _ (fun d hd => hpl d (List.mem_reverse.1 hd)) _ _ _).1 (twoR_len h2 hll _ (fun d hd => hpl d (List.mem_reverse.1 hd)) _ _ _).2)) rfl (fun _ _ h => h) ?_
      refine lt_do rfl trivial (does_store_all 3 rfl rfl rfl (one_u8s _) Tryd.sizeOf41 (by show (List.map vU8 ((twoR k old m' n true proof.reverse).1.1)).length = _; rw [List.length_map]; exact (twoR_len h2 hll _ (fun d hd => hpl d (List.mem_reverse.1 hd)) _ _ _).1) (by show (List.map vU8 zeros32).length = _; rw [List.length_map]; exact zeros32_len)) (fun h => nomatch h) (fun _ _ => ?_)
      refine lt_do rfl trivial (does_store_all 2 rfl rfl rfl (one_u8s _) Tryd.sizeOf41 (by show (List.map vU8 ((twoR k old m' n true proof.reverse).1.2)).length = _; rw [List.length_map]; exact (twoR_len h2 hll _ (fun d hd => hpl d (List.mem_reverse.1 hd)) _ _ _).2) (by show (List.map vU8 zeros32).length = _; rw [List.length_map]; exact zeros32_len)) (fun h => nomatch h) (fun _ _ => ?_)
      refine lt_pure rfl trivial (val_assign rfl) rfl ?_
      refine lt_done (into ?_)
      refine sw_ret (fun w hm => ?_)
      try dsimp only [thenP, blockP, Nat.beq, cond]
      exact ret_cct 2 3 rfl rfl rfl rfl hm rfl rfl Tryd.isAgg41 Tryd.sizeOf41 Tryd.isAgg41 Tryd.sizeOf41 (by show (List.map vU8 ((twoR k old m' n true proof.reverse).1.1)).length = _; rw [List.length_map]; exact (twoR_len h2 hll _ (fun d hd => hpl d (List.mem_reverse.1 hd)) _ _ _).1) (by show (List.map vU8 ((twoR k old m' n true proof.reverse).1.2)).length = _; rw [List.length_map]; exact (twoR_len h2 hll _ (fun d hd => hpl d (List.mem_reverse.1 hd)) _ _ _).2) ⟨by rw [rootsO, if_neg (by simp [he]), if_neg (fun h => h.elim hm1 hin), Int.toNat_natCast, if_pos ((Bool.not_eq_false _).mp hup)] <;> rfl, hm.forgetAll⟩
    refine lt_alt ?_ ?_
    · -- first 4
      refine lt_do rfl trivial (does_store_all 3 rfl rfl rfl (one_u8s _) Tryd.sizeOf41 (by show (List.map vU8 ((twoR k old m' n true proof.reverse).1.1)).length = _; rw [List.length_map]; exact (twoR_len h2 hll _ (fun d hd => hpl d (List.mem_reverse.1 hd)) _ _ _).1) (by show (List.map vU8 zeros32).length = _; rw [List.length_map]; exact zeros32_len)) (fun h => nomatch h) (fun _ _ => ?_)
      refine lt_val rfl trivial (val_load_part 0 rfl rfl Tryd.isAgg41 Tryd.sizeOf41 (by show (List.map vU8 ((twoR k old m' n true proof.reverse).1.2)).length = _; rw [List.length_map]; exact (twoR_len h2 hll _ (fun d hd => hpl d (List.mem_reverse.1 hd)) _ _ _).2) (pair_32 (twoR_len h2 hll _ (fun d hd => hpl d (List.mem_reverse.1 hd)) _ _ _).1 (twoR_len h2 hll _ (fun d hd => hpl d (List.mem_reverse.1 hd)) _ _ _).2)) rfl (fun h => nomatch h) ?_
      refine lt_do rfl trivial (does_store_all 2 rfl rfl rfl (one_u8s _) Tryd.sizeOf41 (by show (List.map vU8 ((twoR k old m' n true proof.reverse).1.2)).length = _; rw [List.length_map]; exact (twoR_len h2 hll _ (fun d hd => hpl d (List.mem_reverse.1 hd)) _ _ _).2) (by show (List.map vU8 zeros32).length = _; rw [List.length_map]; exact zeros32_len)) (fun h => nomatch h) (fun _ _ => ?_)
      refine lt_pure rfl trivial (val_assign rfl) rfl ?_
      refine lt_done (into ?_)
      refine sw_ret (fun w hm => ?_)
      try dsimp only [thenP, blockP, Nat.beq, cond]
      exact ret_cct 2 3 rfl rfl rfl rfl hm rfl rfl Tryd.isAgg41 Tryd.sizeOf41 Tryd.isAgg41 Tryd.sizeOf41 (by show (List.map vU8 ((twoR k old m' n true proof.reverse).1.1)).length = _; rw [List.length_map]; exact (twoR_len h2 hll _ (fun d hd => hpl d (List.mem_reverse.1 hd)) _ _ _).1) (by show (List.map vU8 ((twoR k old m' n true proof.reverse).1.2)).length = _; rw [List.length_map]; exact (twoR_len h2 hll _ (fun d hd => hpl d (List.mem_reverse.1 hd)) _ _ _).2) ⟨by rw [rootsO, if_neg (by simp [he]), if_neg (fun h => h.elim hm1 hin), Int.toNat_natCast, if_pos ((Bool.not_eq_false _).mp hup)] <;> rfl, hm.forgetAll⟩
    exact lt_stop

theorem mroots_any (v0 : Int) (old : List UInt8) (hll : old.length = 32) (m' n : UInt64) (w : World) (hK : KW w) (a : Option Addr) (m c : Nat) (proof : List (List UInt8)) (hpm : proof.length = m) (hpl : ∀ d ∈ proof, d.length = 32) (hr : Rd w a (proof.flatMap fun d => d.map vU8)) (hc : m ≤ c) (hl : m < 9223372036854775808) (hb : (m + 2) * 32 ≤ 140737488355328) : Calls Tryd.prog 40 #[vInt v0, vU64 m', vU64 n, .agg ((old).map vU8).toArray, .slice a m c] w fun e w' => ∃ v, e = .returned v ∧ v = .tuple #[.agg (((rootsO v0 m' n old proof).1.1).map vU8).toArray, .agg (((rootsO v0 m' n old proof).1.2).map vU8).toArray, vInt (((rootsO v0 m' n old proof).2 : Nat) : Int)] ∧ Mem w [] [] w' := by
  subst hpm
  by_cases he : allE v0 proof [old] = 0
  · by_cases hm1 : m' < 1
    · exact mroots_lo v0 old hll m' n w a c proof hpl hr hc hl hb he hm1
    · by_cases hin : n ≤ m'
      · exact mroots_hi v0 old hll m' n w a c proof hpl hr hc hl hb he hm1 hin
      · obtain ⟨hw, hlf, hpf⟩ := allE_ok he
        obtain ⟨k, rfl, h1, h2⟩ := wd_nat hw
        exact mroots_ok k h1 h2 old hll m' n w a c proof hpl hr hc hl hb (hlf old (by simp)) hpf hK he hm1 hin
  · exact mroots_err v0 old hll m' n w a c proof hpl hr hc hl hb he

theorem mcons_err (v0 : Int) (old : List UInt8) (hll : old.length = 32) (m' n : UInt64) (root : List UInt8) (hrl : root.length = 32) (w : World) (hK : KW w) (a : Option Addr) (c : Nat) (proof : List (List UInt8)) (hpl : ∀ d ∈ proof, d.length = 32) (hr : Rd w a (proof.flatMap fun d => d.map vU8)) (hc : proof.length ≤ c) (hl : proof.length < 9223372036854775808) (hb : (proof.length + 2) * 32 ≤ 140737488355328) (he : allE v0 proof [old, root] ≠ 0) : Calls Tryd.prog 33 #[vInt v0, vU64 m', vU64 n, .agg ((old).map vU8).toArray, .agg ((root).map vU8).toArray, .slice a proof.length c] w fun e w' => ∃ v, e = .returned v ∧ v = vInt ((consO v0 m' n old root proof : Nat) : Int) ∧ Mem w [] [] w' := by
  refine calls_of_sw (vs := [vInt v0, vU64 m', vU64 n, .agg ((old).map vU8).toArray, .agg ((root).map vU8).toArray, .slice a proof.length c]) Tryd.func33 rfl Tryd.ntmps33 rfl (SW.begin ?_)
  refine sw_seq ?_
  refine sw_region ?_
  refine ow_new (acts_box rfl) rfl (fun b9 hb9 => ?_)
  refine ow_new (acts_box rfl) rfl (fun b10 hb10 => ?_)
  refine ow_val (val_assign rfl) rfl ?_
  refine ow_nil (into ?_)
  refine sw_seq ?_
  refine sw_seq ?_
  refine sw_region ?_
  refine ow_val (val_move rfl) rfl ?_
  refine ow_val (val_move rfl) rfl ?_
  refine ow_val (val_load_all 1 rfl rfl Tryd.isAgg41 Tryd.sizeOf41 (by show (List.map vU8 old).length = _; rw [List.length_map]; exact hll)) rfl ?_
  refine ow_val (val_load_all 0 rfl rfl Tryd.isAgg41 Tryd.sizeOf41 (by show (List.map vU8 root).length = _; rw [List.length_map]; exact hrl)) rfl ?_
  refine ow_make (acts_buildSlice (cs := [old.map vU8, root.map vU8].flatten) Tryd.underlying22 Tryd.sizeOf41 zD rfl rfl (fill_aggs [old.map vU8, root.map vU8] (by decide) rfl (by simp only [List.forall_mem_cons, List.length_map]; exact ⟨hll, hrl, fun _ h => by cases h⟩))) rfl (fun b24 hb24 => ?_)
  refine ow_call_pure (callsTo Tryd.func62 rfl (by kernel_rfl) rfl) rfl (fun w hm => mall_any v0 w a proof.length c proof rfl hpl (hr.mem hm) (by omega) (by omega) (some ⟨b24, 0, none⟩) 2 2 ([old, root]) rfl (by simp only [List.forall_mem_cons]; exact ⟨hll, hrl, fun _ h => by cases h⟩) (Rd.blk (hm.at (i := 0) rfl)) (by decide) (by decide)) ?_
  refine ow_val (val_assign rfl) rfl ?_
  refine ow_nil (into ?_)
  refine sw_seq ?_
  refine sw_region ?_
  refine ow_val (val_move rfl) rfl ?_
  refine ow_val ((val_neq_int rfl rfl).to (v' := .bool true) (congrArg Value.bool (decide_eq_true (by omega)))) rfl ?_
  refine ow_nil (into ?_)
  refine sw_true rfl rfl ?_
  refine sw_seq ?_
  refine sw_region ?_
  refine ow_val (val_move rfl) rfl ?_
  refine ow_val (val_assign rfl) rfl ?_
  refine ow_nil (into ?_)
  refine sw_ret (fun w hm => ?_)
  try dsimp only [thenP, blockP, Nat.beq, cond]
  exact ret_one _ rfl rfl ⟨by rw [consO_err he] <;> rfl, hm.forgetAll⟩

theorem mcons_gt (v0 : Int) (old : List UInt8) (hll : old.length = 32) (m' n : UInt64) (root : List UInt8) (hrl : root.length = 32) (w : World) (hK : KW w) (a : Option Addr) (c : Nat) (proof : List (List UInt8)) (hpl : ∀ d ∈ proof, d.length = 32) (hr : Rd w a (proof.flatMap fun d => d.map vU8)) (hc : proof.length ≤ c) (hl : proof.length < 9223372036854775808) (hb : (proof.length + 2) * 32 ≤ 140737488355328) (he : allE v0 proof [old, root] = 0) (hgt : n < m') : Calls Tryd.prog 33 #[vInt v0, vU64 m', vU64 n, .agg ((old).map vU8).toArray, .agg ((root).map vU8).toArray, .slice a proof.length c] w fun e w' => ∃ v, e = .returned v ∧ v = vInt ((consO v0 m' n old root proof : Nat) : Int) ∧ Mem w [] [] w' := by
  refine calls_of_sw (vs := [vInt v0, vU64 m', vU64 n, .agg ((old).map vU8).toArray, .agg ((root).map vU8).toArray, .slice a proof.length c]) Tryd.func33 rfl Tryd.ntmps33 rfl (SW.begin ?_)
  refine sw_seq ?_
  refine sw_region ?_
  refine ow_new (acts_box rfl) rfl (fun b9 hb9 => ?_)
  refine ow_new (acts_box rfl) rfl (fun b10 hb10 => ?_)
  refine ow_val (val_assign rfl) rfl ?_
  refine ow_nil (into ?_)
  refine sw_seq ?_
  refine sw_seq ?_
  refine sw_region ?_
  refine ow_val (val_move rfl) rfl ?_
  refine ow_val (val_move rfl) rfl ?_
  refine ow_val (val_load_all 1 rfl rfl Tryd.isAgg41 Tryd.sizeOf41 (by show (List.map vU8 old).length = _; rw [List.length_map]; exact hll)) rfl ?_
  refine ow_val (val_load_all 0 rfl rfl Tryd.isAgg41 Tryd.sizeOf41 (by show (List.map vU8 root).length = _; rw [List.length_map]; exact hrl)) rfl ?_
  refine ow_make (acts_buildSlice (cs := [old.map vU8, root.map vU8].flatten) Tryd.underlying22 Tryd.sizeOf41 zD rfl rfl (fill_aggs [old.map vU8, root.map vU8] (by decide) rfl (by simp only [List.forall_mem_cons, List.length_map]; exact ⟨hll, hrl, fun _ h => by cases h⟩))) rfl (fun b24 hb24 => ?_)
  refine ow_call_pure (callsTo Tryd.func62 rfl (by kernel_rfl) rfl) rfl (fun w hm => mall_any v0 w a proof.length c proof rfl hpl (hr.mem hm) (by omega) (by omega) (some ⟨b24, 0, none⟩) 2 2 ([old, root]) rfl (by simp only [List.forall_mem_cons]; exact ⟨hll, hrl, fun _ h => by cases h⟩) (Rd.blk (hm.at (i := 0) rfl)) (by decide) (by decide)) ?_
  refine ow_val (val_assign rfl) rfl ?_
  refine ow_nil (into ?_)
  refine sw_seq ?_
  refine sw_region ?_
  refine ow_val (val_move rfl) rfl ?_
  refine ow_val ((val_neq_int rfl rfl).to (v' := .bool false) (congrArg Value.bool (decide_eq_false (fun h => h (by omega))))) rfl ?_
  refine ow_nil (into ?_)
  refine sw_false rfl rfl ?_
  refine sw_skip (into ?_)
  refine sw_seq ?_
  refine sw_region ?_
  refine ow_val (val_assign rfl) rfl ?_
  refine ow_nil (into ?_)
  refine sw_seq ?_
  refine sw_block ?_
  refine sw_seq ?_
  refine sw_region ?_
  refine ow_val (val_move rfl) rfl ?_
  refine ow_val (val_move rfl) rfl ?_
  refine ow_val ((val_gtr_u64 rfl rfl).to (v' := .bool true) (congrArg Value.bool (decide_eq_true hgt))) rfl ?_
  refine ow_val (val_assign rfl) rfl ?_
  refine ow_nil (into ?_)
  refine sw_true rfl rfl ?_
  refine sw_seq ?_
  refine sw_region ?_
  refine ow_val (val_assign rfl) rfl ?_
  refine ow_nil (into ?_)
  refine sw_ret (fun w hm => ?_)
  try dsimp only [thenP, blockP, Nat.beq, cond]
  exact ret_one _ rfl rfl ⟨by rw [consO_gt he hgt] <;> rfl, hm.forgetAll⟩

theorem mcons_eq (v0 : Int) (old : List UInt8) (hll : old.length = 32) (m' n : UInt64) (root : List UInt8) (hrl : root.length = 32) (w : World) (hK : KW w) (a : Option Addr) (c : Nat) (proof : List (List UInt8)) (hpl : ∀ d ∈ proof, d.length = 32) (hr : Rd w a (proof.flatMap fun d => d.map vU8)) (hc : proof.length ≤ c) (hl : proof.length < 9223372036854775808) (hb : (proof.length + 2) * 32 ≤ 140737488355328) (he : allE v0 proof [old, root] = 0) (hgt : ¬ n < m') (heq : m' = n) : Calls Tryd.prog 33 #[vInt v0, vU64 m', vU64 n, .agg ((old).map vU8).toArray, .agg ((root).map vU8).toArray, .slice a proof.length c] w fun e w' => ∃ v, e = .returned v ∧ v = vInt ((consO v0 m' n old root proof : Nat) : Int) ∧ Mem w [] [] w' := by
  refine calls_of_sw (vs := [vInt v0, vU64 m', vU64 n, .agg ((old).map vU8).toArray, .agg ((root).map vU8).toArray, .slice a proof.length c]) Tryd.func33 rfl Tryd.ntmps33 rfl (SW.begin ?_)
  refine sw_seq ?_
  refine sw_region ?_
  refine ow_new (acts_box rfl) rfl (fun b9 hb9 => ?_)
  refine ow_new (acts_box rfl) rfl (fun b10 hb10 => ?_)
  refine ow_val (val_assign rfl) rfl ?_
  refine ow_nil (into ?_)
  refine sw_seq ?_
  refine sw_seq ?_
  refine sw_region ?_
  refine ow_val (val_move rfl) rfl ?_
  refine ow_val (val_move rfl) rfl ?_
  refine ow_val (val_load_all 1 rfl rfl Tryd.isAgg41 Tryd.sizeOf41 (by show (List.map vU8 old).length = _; rw [List.length_map]; exact hll)) rfl ?_
  refine ow_val (val_load_all 0 rfl rfl Tryd.isAgg41 Tryd.sizeOf41 (by show (List.map vU8 root).length = _; rw [List.length_map]; exact hrl)) rfl ?_
  refine ow_make (acts_buildSlice (cs := [old.map vU8, root.map vU8].flatten) Tryd.underlying22 Tryd.sizeOf41 zD rfl rfl (fill_aggs [old.map vU8, root.map vU8] (by decide) rfl (by simp only [List.forall_mem_cons, List.length_map]; exact ⟨hll, hrl, fun _ h => by cases h⟩))) rfl (fun b24 hb24 => ?_)
  refine ow_call_pure (callsTo Tryd.func62 rfl (by kernel_rfl) rfl) rfl (fun w hm => mall_any v0 w a proof.length c proof rfl hpl (hr.mem hm) (by omega) (by omega) (some ⟨b24, 0, none⟩) 2 2 ([old, root]) rfl (by simp only [List.forall_mem_cons]; exact ⟨hll, hrl, fun _ h => by cases h⟩) (Rd.blk (hm.at (i := 0) rfl)) (by decide) (by decide)) ?_
  refine ow_val (val_assign rfl) rfl ?_
  refine ow_nil (into ?_)
  refine sw_seq ?_
  refine sw_region ?_
  refine ow_val (val_move rfl) rfl ?_
  refine ow_val ((val_neq_int rfl rfl).to (v' := .bool false) (congrArg Value.bool (decide_eq_false (fun h => h (by omega))))) rfl ?_
  refine ow_nil (into ?_)
  refine sw_false rfl rfl ?_
  refine sw_skip (into ?_)
  refine sw_seq ?_
  refine sw_region ?_
  refine ow_val (val_assign rfl) rfl ?_
  refine ow_nil (into ?_)
  refine sw_seq ?_
  refine sw_block ?_
  refine sw_seq ?_
  refine sw_region ?_
  refine ow_val (val_move rfl) rfl ?_
  refine ow_val (val_move rfl) rfl ?_
  refine ow_val ((val_gtr_u64 rfl rfl).to (v' := .bool false) (congrArg Value.bool (decide_eq_false hgt))) rfl ?_
  refine ow_val (val_assign rfl) rfl ?_
  refine ow_nil (into ?_)
  refine sw_false rfl rfl ?_
  refine sw_seq ?_
  refine sw_region ?_
  refine ow_val (val_move rfl) rfl ?_
  refine ow_val (val_move rfl) rfl ?_
  refine ow_val ((val_eql_u64 rfl rfl).to (v' := .bool true) (congrArg Value.bool (decide_eq_true heq))) rfl ?_
  refine ow_val (val_assign rfl) rfl ?_
  refine ow_nil (into ?_)
  refine sw_true rfl rfl ?_
  refine sw_region ?_
  refine ow_val (val_move rfl) rfl ?_
  refine ow_val (val_len rfl Tryd.underlying22) rfl ?_
  by_cases hx : proof.length = 0
  · -- yes
    refine ow_val ((val_eql_int rfl rfl).to (congrArg Value.bool (decide_eq_true (by omega)))) rfl ?_
    refine ow_val (val_move rfl) rfl ?_
    refine ow_guard_yes rfl rfl rfl ?_
    refine ow_val (val_load_all 2 rfl rfl Tryd.isAgg41 Tryd.sizeOf41 (by show (List.map vU8 old).length = _; rw [List.length_map]; exact hll)) rfl ?_
    refine ow_guard_yes rfl rfl rfl ?_
    refine ow_val (val_load_all 1 rfl rfl Tryd.isAgg41 Tryd.sizeOf41 (by show (List.map vU8 root).length = _; rw [List.length_map]; exact hrl)) rfl ?_
    by_cases hy : old = root
    · -- yes
      refine ow_guard_yes rfl rfl rfl ?_
      refine ow_val ((val_eql_u8s rfl rfl Tryd.eqGuardType41 Tryd.underlying41 Tryd.underlying5 Tryd.sizeOf5 Tryd.isAgg5 hll hrl).to (congrArg Value.bool (decide_eq_true (hy)))) rfl ?_
      refine ow_val (val_pick_true rfl rfl) rfl ?_
      refine ow_val (val_assign rfl) rfl ?_
      refine ow_nil (into ?_)
      refine sw_seq ?_
      refine sw_seq ?_
      refine sw_region ?_
      refine ow_val (val_move rfl) rfl ?_
      refine ow_val (val_not rfl) rfl ?_
      refine ow_nil (into ?_)
      refine sw_false rfl rfl ?_
      refine sw_skip (into ?_)
      refine sw_seq ?_
      refine sw_region ?_
      refine ow_val (val_assign rfl) rfl ?_
      refine ow_nil (into ?_)
      refine sw_ret (fun w hm => ?_)
      try dsimp only [thenP, blockP, Nat.beq, cond]
      exact ret_one _ rfl rfl ⟨by rw [consO_eq he hgt heq, if_pos ⟨hx, hy⟩] <;> rfl, hm.forgetAll⟩
    · -- no
      refine ow_guard_yes rfl rfl rfl ?_
      refine ow_val ((val_eql_u8s rfl rfl Tryd.eqGuardType41 Tryd.underlying41 Tryd.underlying5 Tryd.sizeOf5 Tryd.isAgg5 hll hrl).to (congrArg Value.bool (decide_eq_false (hy)))) rfl ?_
      refine ow_val (val_pick_true rfl rfl) rfl ?_
      refine ow_val (val_assign rfl) rfl ?_
      refine ow_nil (into ?_)
      refine sw_seq ?_
      refine sw_seq ?_
      refine sw_region ?_
      refine ow_val (val_move rfl) rfl ?_
      refine ow_val (val_not rfl) rfl ?_
      refine ow_nil (into ?_)
      refine sw_true rfl rfl ?_
      refine sw_seq ?_
      refine sw_region ?_
      refine ow_val (val_assign rfl) rfl ?_
      refine ow_nil (into ?_)
      refine sw_ret (fun w hm => ?_)
      try dsimp only [thenP, blockP, Nat.beq, cond]
      exact ret_one _ rfl rfl ⟨by rw [consO_eq he hgt heq, if_neg (fun h => hy h.2)] <;> rfl, hm.forgetAll⟩
  · -- no
    refine ow_val ((val_eql_int rfl rfl).to (congrArg Value.bool (decide_eq_false (by omega)))) rfl ?_
    refine ow_val (val_move rfl) rfl ?_
    first | refine ow_guard_no rfl rfl rfl rfl rfl ?_ | refine ow_guard_none rfl rfl rfl rfl rfl ?_
    first | refine ow_guard_no rfl rfl rfl rfl rfl ?_ | refine ow_guard_none rfl rfl rfl rfl rfl ?_
    first | refine ow_guard_no rfl rfl rfl rfl rfl ?_ | refine ow_guard_none rfl rfl rfl rfl rfl ?_
    refine ow_val (val_pick_false rfl rfl) rfl ?_
    refine ow_val (val_assign rfl) rfl ?_
    refine ow_nil (into ?_)
    refine sw_seq ?_
    refine sw_seq ?_
    refine sw_region ?_
    refine ow_val (val_move rfl) rfl ?_
    refine ow_val (val_not rfl) rfl ?_
    refine ow_nil (into ?_)
    refine sw_true rfl rfl ?_
    refine sw_seq ?_
    refine sw_region ?_
    refine ow_val (val_assign rfl) rfl ?_
    refine ow_nil (into ?_)
    refine sw_ret (fun w hm => ?_)
    try dsimp only [thenP, blockP, Nat.beq, cond]
    exact ret_one _ rfl rfl ⟨by rw [consO_eq he hgt heq, if_neg (fun h => hx h.1)] <;> rfl, hm.forgetAll⟩

theorem mcons_zero (k : Nat) (h1 : 1 ≤ k) (h2 : k ≤ 32) (old : List UInt8) (hll : old.length = 32) (m' n : UInt64) (root : List UInt8) (hrl : root.length = 32) (w : World) (hK : KW w) (a : Option Addr) (c : Nat) (proof : List (List UInt8)) (hpl : ∀ d ∈ proof, d.length = 32) (hr : Rd w a (proof.flatMap fun d => d.map vU8)) (hc : proof.length ≤ c) (hl : proof.length < 9223372036854775808) (hb : (proof.length + 2) * 32 ≤ 140737488355328) (he : allE (k : Int) proof [old, root] = 0) (hgt : ¬ n < m') (heq : ¬ m' = n) (hze : m' = 0) : Calls Tryd.prog 33 #[vInt (k : Int), vU64 m', vU64 n, .agg ((old).map vU8).toArray, .agg ((root).map vU8).toArray, .slice a proof.length c] w fun e w' => ∃ v, e = .returned v ∧ v = vInt ((consO (k : Int) m' n old root proof : Nat) : Int) ∧ Mem w [] [] w' := by
  refine calls_of_sw (vs := [vInt (k : Int), vU64 m', vU64 n, .agg ((old).map vU8).toArray, .agg ((root).map vU8).toArray, .slice a proof.length c]) Tryd.func33 rfl Tryd.ntmps33 rfl (SW.begin ?_)
  refine sw_seq ?_
  refine sw_region ?_
  refine ow_new (acts_box rfl) rfl (fun b9 hb9 => ?_)
  refine ow_new (acts_box rfl) rfl (fun b10 hb10 => ?_)
  refine ow_val (val_assign rfl) rfl ?_
  refine ow_nil (into ?_)
  refine sw_seq ?_
  refine sw_seq ?_
  refine sw_region ?_
  refine ow_val (val_move rfl) rfl ?_
  refine ow_val (val_move rfl) rfl ?_
  refine ow_val (val_load_all 1 rfl rfl Tryd.isAgg41 Tryd.sizeOf41 (by show (List.map vU8 old).length = _; rw [List.length_map]; exact hll)) rfl ?_
  refine ow_val (val_load_all 0 rfl rfl Tryd.isAgg41 Tryd.sizeOf41 (by show (List.map vU8 root).length = _; rw [List.length_map]; exact hrl)) rfl ?_
  refine ow_make (acts_buildSlice (cs := [old.map vU8, root.map vU8].flatten) Tryd.underlying22 Tryd.sizeOf41 zD rfl rfl (fill_aggs [old.map vU8, root.map vU8] (by decide) rfl (by simp only [List.forall_mem_cons, List.length_map]; exact ⟨hll, hrl, fun _ h => by cases h⟩))) rfl (fun b24 hb24 => ?_)
  refine ow_call_pure (callsTo Tryd.func62 rfl (by kernel_rfl) rfl) rfl (fun w hm => mall_any (k : Int) w a proof.length c proof rfl hpl (hr.mem hm) (by omega) (by omega) (some ⟨b24, 0, none⟩) 2 2 ([old, root]) rfl (by simp only [List.forall_mem_cons]; exact ⟨hll, hrl, fun _ h => by cases h⟩) (Rd.blk (hm.at (i := 0) rfl)) (by decide) (by decide)) ?_
  refine ow_val (val_assign rfl) rfl ?_
  refine ow_nil (into ?_)
  refine sw_seq ?_
  refine sw_region ?_
  refine ow_val (val_move rfl) rfl ?_
  refine ow_val ((val_neq_int rfl rfl).to (v' := .bool false) (congrArg Value.bool (decide_eq_false (fun h => h (by omega))))) rfl ?_
  refine ow_nil (into ?_)
  refine sw_false rfl rfl ?_
  refine sw_skip (into ?_)
  refine sw_seq ?_
  refine sw_region ?_
  refine ow_val (val_assign rfl) rfl ?_
  refine ow_nil (into ?_)
  refine sw_seq ?_
  refine sw_block ?_
  refine sw_seq ?_
  refine sw_region ?_
  refine ow_val (val_move rfl) rfl ?_
  refine ow_val (val_move rfl) rfl ?_
  refine ow_val ((val_gtr_u64 rfl rfl).to (v' := .bool false) (congrArg Value.bool (decide_eq_false hgt))) rfl ?_
  refine ow_val (val_assign rfl) rfl ?_
  refine ow_nil (into ?_)
  refine sw_false rfl rfl ?_
  refine sw_seq ?_
  refine sw_region ?_
  refine ow_val (val_move rfl) rfl ?_
  refine ow_val (val_move rfl) rfl ?_
  refine ow_val ((val_eql_u64 rfl rfl).to (v' := .bool false) (congrArg Value.bool (decide_eq_false heq))) rfl ?_
  refine ow_val (val_assign rfl) rfl ?_
  refine ow_nil (into ?_)
  refine sw_false rfl rfl ?_
  refine sw_seq ?_
  refine sw_region ?_
  refine ow_val (val_move rfl) rfl ?_
  refine ow_val ((val_eql_u64 rfl rfl).to (v' := .bool true) (congrArg Value.bool (decide_eq_true hze))) rfl ?_
  refine ow_val (val_assign rfl) rfl ?_
  refine ow_nil (into ?_)
  refine sw_true rfl rfl ?_
  refine sw_seq ?_
  refine sw_region ?_
  refine ow_val (val_move rfl) rfl ?_
  refine ow_call_pure (v := .tuple #[.agg ((dig k []).map vU8).toArray, vInt ((0 : Nat) : Int)]) (callsTo Tryd.func63 rfl (by kernel_rfl) rfl) rfl (fun w hm => (by have h := nolog_any (k : Int) w (hK.mem0 hm); rw [digO_yes h1 h2] at h; exact h)) ?_
  refine ow_val (val_move rfl) rfl ?_
  refine ow_val (val_extract rfl rfl) rfl ?_
  refine ow_val (val_extract rfl rfl) rfl ?_
  refine ow_new (acts_alloc zD) rfl (fun b15 hb15 => ?_)
  refine ow_do_eq (does_store_all 0 rfl rfl rfl (one_u8s _) Tryd.sizeOf41 (by show (List.map vU8 (dig k [])).length = _; rw [List.length_map]; exact (dig_len _ h2)) (by show (List.map vU8 zeros32).length = _; rw [List.length_map]; exact zeros32_len)) ?_
  refine ow_val (val_assign rfl) rfl ?_
  refine ow_nil (into ?_)
  refine sw_region ?_
  refine ow_val (val_move rfl) rfl ?_
  refine ow_val (val_len rfl Tryd.underlying22) rfl ?_
  by_cases hx : proof.length = 0
  · -- yes
    refine ow_val ((val_eql_int rfl rfl).to (congrArg Value.bool (decide_eq_true (by omega)))) rfl ?_
    refine ow_val (val_move rfl) rfl ?_
    refine ow_guard_yes rfl rfl rfl ?_
    refine ow_val (val_load_all 3 rfl rfl Tryd.isAgg41 Tryd.sizeOf41 (by show (List.map vU8 old).length = _; rw [List.length_map]; exact hll)) rfl ?_
    refine ow_guard_yes rfl rfl rfl ?_
    refine ow_val (val_load_all 0 rfl rfl Tryd.isAgg41 Tryd.sizeOf41 (by show (List.map vU8 (dig k [])).length = _; rw [List.length_map]; exact (dig_len _ h2))) rfl ?_
    by_cases hy : old = dig k []
    · -- yes
      refine ow_guard_yes rfl rfl rfl ?_
      refine ow_val ((val_eql_u8s rfl rfl Tryd.eqGuardType41 Tryd.underlying41 Tryd.underlying5 Tryd.sizeOf5 Tryd.isAgg5 hll (dig_len _ h2)).to (congrArg Value.bool (decide_eq_true (hy)))) rfl ?_
      refine ow_val (val_pick_true rfl rfl) rfl ?_
      refine ow_val (val_assign rfl) rfl ?_
      refine ow_nil (into ?_)
      refine sw_seq ?_
      refine sw_seq ?_
      refine sw_region ?_
      refine ow_val (val_move rfl) rfl ?_
      refine ow_val (val_not rfl) rfl ?_
      refine ow_nil (into ?_)
      refine sw_false rfl rfl ?_
      refine sw_skip (into ?_)
      refine sw_seq ?_
      refine sw_region ?_
      refine ow_val (val_assign rfl) rfl ?_
      refine ow_nil (into ?_)
      refine sw_ret (fun w hm => ?_)
      try dsimp only [thenP, blockP, Nat.beq, cond]
      exact ret_one _ rfl rfl ⟨by rw [consO_zero he hgt heq hze, Int.toNat_natCast, if_pos ⟨hx, hy⟩] <;> rfl, hm.forgetAll⟩
    · -- no
      refine ow_guard_yes rfl rfl rfl ?_
      refine ow_val ((val_eql_u8s rfl rfl Tryd.eqGuardType41 Tryd.underlying41 Tryd.underlying5 Tryd.sizeOf5 Tryd.isAgg5 hll (dig_len _ h2)).to (congrArg Value.bool (decide_eq_false (hy)))) rfl ?_
      refine ow_val (val_pick_true rfl rfl) rfl ?_
      refine ow_val (val_assign rfl) rfl ?_
      refine ow_nil (into ?_)
      refine sw_seq ?_
      refine sw_seq ?_
      refine sw_region ?_
      refine ow_val (val_move rfl) rfl ?_
      refine ow_val (val_not rfl) rfl ?_
      refine ow_nil (into ?_)
      refine sw_true rfl rfl ?_
      refine sw_seq ?_
      refine sw_region ?_
      refine ow_val (val_assign rfl) rfl ?_
      refine ow_nil (into ?_)
      refine sw_ret (fun w hm => ?_)
      try dsimp only [thenP, blockP, Nat.beq, cond]
      exact ret_one _ rfl rfl ⟨by rw [consO_zero he hgt heq hze, Int.toNat_natCast, if_neg (fun h => hy h.2)] <;> rfl, hm.forgetAll⟩
  · -- no
    refine ow_val ((val_eql_int rfl rfl).to (congrArg Value.bool (decide_eq_false (by omega)))) rfl ?_
    refine ow_val (val_move rfl) rfl ?_
    first | refine ow_guard_no rfl rfl rfl rfl rfl ?_ | refine ow_guard_none rfl rfl rfl rfl rfl ?_
    first | refine ow_guard_no rfl rfl rfl rfl rfl ?_ | refine ow_guard_none rfl rfl rfl rfl rfl ?_
    first | refine ow_guard_no rfl rfl rfl rfl rfl ?_ | refine ow_guard_none rfl rfl rfl rfl rfl ?_
    refine ow_val (val_pick_false rfl rfl) rfl ?_
    refine ow_val (val_assign rfl) rfl ?_
    refine ow_nil (into ?_)
    refine sw_seq ?_
    refine sw_seq ?_
    refine sw_region ?_
    refine ow_val (val_move rfl) rfl ?_
    refine ow_val (val_not rfl) rfl ?_
    refine ow_nil (into ?_)
    refine sw_true rfl rfl ?_
    refine sw_seq ?_
    refine sw_region ?_
    refine ow_val (val_assign rfl) rfl ?_
    refine ow_nil (into ?_)
    refine sw_ret (fun w hm => ?_)
    try dsimp only [thenP, blockP, Nat.beq, cond]
    exact ret_one _ rfl rfl ⟨by rw [consO_zero he hgt heq hze, Int.toNat_natCast, if_neg (fun h => hx h.1)] <;> rfl, hm.forgetAll⟩

theorem mcons_bad (v0 : Int) (old : List UInt8) (hll : old.length = 32) (m' n : UInt64) (root : List UInt8) (hrl : root.length = 32) (w : World) (hK : KW w) (a : Option Addr) (c : Nat) (proof : List (List UInt8)) (hpl : ∀ d ∈ proof, d.length = 32) (hr : Rd w a (proof.flatMap fun d => d.map vU8)) (hc : proof.length ≤ c) (hl : proof.length < 9223372036854775808) (hb : (proof.length + 2) * 32 ≤ 140737488355328) (he : allE v0 proof [old, root] = 0) (hgt : ¬ n < m') (heq : ¬ m' = n) (hze : ¬ m' = 0) (hrs : (rootsO v0 m' n old proof).2 ≠ 0) : Calls Tryd.prog 33 #[vInt v0, vU64 m', vU64 n, .agg ((old).map vU8).toArray, .agg ((root).map vU8).toArray, .slice a proof.length c] w fun e w' => ∃ v, e = .returned v ∧ v = vInt ((consO v0 m' n old root proof : Nat) : Int) ∧ Mem w [] [] w' := by
  refine calls_of_sw (vs := [vInt v0, vU64 m', vU64 n, .agg ((old).map vU8).toArray, .agg ((root).map vU8).toArray, .slice a proof.length c]) Tryd.func33 rfl Tryd.ntmps33 rfl (SW.begin ?_)
  refine sw_seq ?_
  refine sw_region ?_
  refine ow_new (acts_box rfl) rfl (fun b9 hb9 => ?_)
  refine ow_new (acts_box rfl) rfl (fun b10 hb10 => ?_)
  refine ow_val (val_assign rfl) rfl ?_
  refine ow_nil (into ?_)
  refine sw_seq ?_
  refine sw_seq ?_
  refine sw_region ?_
  refine ow_val (val_move rfl) rfl ?_
  refine ow_val (val_move rfl) rfl ?_
  refine ow_val (val_load_all 1 rfl rfl Tryd.isAgg41 Tryd.sizeOf41 (by show (List.map vU8 old).length = _; rw [List.length_map]; exact hll)) rfl ?_
  refine ow_val (val_load_all 0 rfl rfl Tryd.isAgg41 Tryd.sizeOf41 (by show (List.map vU8 root).length = _; rw [List.length_map]; exact hrl)) rfl ?_
  refine ow_make (acts_buildSlice (cs := [old.map vU8, root.map vU8].flatten) Tryd.underlying22 Tryd.sizeOf41 zD rfl rfl (fill_aggs [old.map vU8, root.map vU8] (by decide) rfl (by simp only [List.forall_mem_cons, List.length_map]; exact ⟨hll, hrl, fun _ h => by cases h⟩))) rfl (fun b24 hb24 => ?_)
  refine ow_call_pure (callsTo Tryd.func62 rfl (by kernel_rfl) rfl) rfl (fun w hm => mall_any v0 w a proof.length c proof rfl hpl (hr.mem hm) (by omega) (by omega) (some ⟨b24, 0, none⟩) 2 2 ([old, root]) rfl (by simp only [List.forall_mem_cons]; exact ⟨hll, hrl, fun _ h => by cases h⟩) (Rd.blk (hm.at (i := 0) rfl)) (by decide) (by decide)) ?_
  refine ow_val (val_assign rfl) rfl ?_
  refine ow_nil (into ?_)
  refine sw_seq ?_
  refine sw_region ?_
  refine ow_val (val_move rfl) rfl ?_
  refine ow_val ((val_neq_int rfl rfl).to (v' := .bool false) (congrArg Value.bool (decide_eq_false (fun h => h (by omega))))) rfl ?_
  refine ow_nil (into ?_)
  refine sw_false rfl rfl ?_
  refine sw_skip (into ?_)
  refine sw_seq ?_
  refine sw_region ?_
  refine ow_val (val_assign rfl) rfl ?_
  refine ow_nil (into ?_)
  refine sw_seq ?_
  refine sw_block ?_
  refine sw_seq ?_
  refine sw_region ?_
  refine ow_val (val_move rfl) rfl ?_
  refine ow_val (val_move rfl) rfl ?_
  refine ow_val ((val_gtr_u64 rfl rfl).to (v' := .bool false) (congrArg Value.bool (decide_eq_false hgt))) rfl ?_
  refine ow_val (val_assign rfl) rfl ?_
  refine ow_nil (into ?_)
  refine sw_false rfl rfl ?_
  refine sw_seq ?_
  refine sw_region ?_
  refine ow_val (val_move rfl) rfl ?_
  refine ow_val (val_move rfl) rfl ?_
  refine ow_val ((val_eql_u64 rfl rfl).to (v' := .bool false) (congrArg Value.bool (decide_eq_false heq))) rfl ?_
  refine ow_val (val_assign rfl) rfl ?_
  refine ow_nil (into ?_)
  refine sw_false rfl rfl ?_
  refine sw_seq ?_
  refine sw_region ?_
  refine ow_val (val_move rfl) rfl ?_
  refine ow_val ((val_eql_u64 rfl rfl).to (v' := .bool false) (congrArg Value.bool (decide_eq_false hze))) rfl ?_
  refine ow_val (val_assign rfl) rfl ?_
  refine ow_nil (into ?_)
  refine sw_false rfl rfl ?_
  refine sw_seq ?_
  refine sw_region ?_
  refine ow_val (val_move rfl) rfl ?_
  refine ow_val (val_move rfl) rfl ?_
  refine ow_val (val_move rfl) rfl ?_
  refine ow_val (val_load_all 2 rfl rfl Tryd.isAgg41 Tryd.sizeOf41 (by show (List.map vU8 old).length = _; rw [List.length_map]; exact hll)) rfl ?_
  refine ow_val (val_move rfl) rfl ?_
  refine ow_call_pure (callsTo Tryd.func40 rfl (by kernel_rfl) rfl) rfl (fun w hm => mroots_any v0 old hll m' n w (hK.mem0 hm) a proof.length c proof rfl hpl (hr.mem hm) (by omega) (by omega) (by omega)) ?_
  refine ow_val (val_move rfl) rfl ?_
  refine ow_val (val_extract rfl rfl) rfl ?_
  refine ow_val (val_extract rfl rfl) rfl ?_
  refine ow_val (val_extract rfl rfl) rfl ?_
  refine ow_new (acts_alloc zD) rfl (fun b17 hb17 => ?_)
  refine ow_new (acts_alloc zD) rfl (fun b18 hb18 => ?_)
  refine ow_do_eq (does_store_all 1 rfl rfl rfl (one_u8s _) Tryd.sizeOf41 (by show (List.map vU8 ((rootsO v0 m' n old proof).1.1)).length = _; rw [List.length_map]; exact (rootsO_len hll hpl).1) (by show (List.map vU8 zeros32).length = _; rw [List.length_map]; exact zeros32_len)) ?_
  refine ow_do_eq (does_store_all 0 rfl rfl rfl (one_u8s _) Tryd.sizeOf41 (by show (List.map vU8 ((rootsO v0 m' n old proof).1.2)).length = _; rw [List.length_map]; exact (rootsO_len hll hpl).2) (by show (List.map vU8 zeros32).length = _; rw [List.length_map]; exact zeros32_len)) ?_
  refine ow_val (val_assign rfl) rfl ?_
  refine ow_nil (into ?_)
  refine sw_region ?_
  refine ow_val (val_move rfl) rfl ?_
  refine ow_val ((val_eql_int rfl rfl).to (v' := .bool false) (congrArg Value.bool (decide_eq_false (by omega)))) rfl ?_
  refine ow_val (val_move rfl) rfl ?_
  first | refine ow_guard_no rfl rfl rfl rfl rfl ?_ | refine ow_guard_none rfl rfl rfl rfl rfl ?_
  first | refine ow_guard_no rfl rfl rfl rfl rfl ?_ | refine ow_guard_none rfl rfl rfl rfl rfl ?_
  first | refine ow_guard_no rfl rfl rfl rfl rfl ?_ | refine ow_guard_none rfl rfl rfl rfl rfl ?_
  refine ow_val (val_pick_false rfl rfl) rfl ?_
  refine ow_val (val_move rfl) rfl ?_
  first | refine ow_guard_no rfl rfl rfl rfl rfl ?_ | refine ow_guard_none rfl rfl rfl rfl rfl ?_
  first | refine ow_guard_no rfl rfl rfl rfl rfl ?_ | refine ow_guard_none rfl rfl rfl rfl rfl ?_
  first | refine ow_guard_no rfl rfl rfl rfl rfl ?_ | refine ow_guard_none rfl rfl rfl rfl rfl ?_
  refine ow_val (val_pick_false rfl rfl) rfl ?_
  refine ow_val (val_assign rfl) rfl ?_
  refine ow_nil (into ?_)
  refine sw_seq ?_
  refine sw_seq ?_
  refine sw_region ?_
  refine ow_val (val_move rfl) rfl ?_
  refine ow_val (val_not rfl) rfl ?_
  refine ow_nil (into ?_)
  refine sw_true rfl rfl ?_
  refine sw_seq ?_
  refine sw_region ?_
  refine ow_val (val_assign rfl) rfl ?_
  refine ow_nil (into ?_)
  refine sw_ret (fun w hm => ?_)
  try dsimp only [thenP, blockP, Nat.beq, cond]
  exact ret_one _ rfl rfl ⟨by rw [consO_two he hgt heq hze, if_neg (fun h => hrs h.1)] <;> rfl, hm.forgetAll⟩

theorem mcons_two (v0 : Int) (old : List UInt8) (hll : old.length = 32) (m' n : UInt64) (root : List UInt8) (hrl : root.length = 32) (w : World) (hK : KW w) (a : Option Addr) (c : Nat) (proof : List (List UInt8)) (hpl : ∀ d ∈ proof, d.length = 32) (hr : Rd w a (proof.flatMap fun d => d.map vU8)) (hc : proof.length ≤ c) (hl : proof.length < 9223372036854775808) (hb : (proof.length + 2) * 32 ≤ 140737488355328) (he : allE v0 proof [old, root] = 0) (hgt : ¬ n < m') (heq : ¬ m' = n) (hze : ¬ m' = 0) (hrs : (rootsO v0 m' n old proof).2 = 0) : Calls Tryd.prog 33 #[vInt v0, vU64 m', vU64 n, .agg ((old).map vU8).toArray, .agg ((root).map vU8).toArray, .slice a proof.length c] w fun e w' => ∃ v, e = .returned v ∧ v = vInt ((consO v0 m' n old root proof : Nat) : Int) ∧ Mem w [] [] w' := by
  refine calls_of_sw (vs := [vInt v0, vU64 m', vU64 n, .agg ((old).map vU8).toArray, .agg ((root).map vU8).toArray, .slice a proof.length c]) Tryd.func33 rfl Tryd.ntmps33 rfl (SW.begin ?_)
  refine sw_seq ?_
  refine sw_region ?_
  refine ow_new (acts_box rfl) rfl (fun b9 hb9 => ?_)
  refine ow_new (acts_box rfl) rfl (fun b10 hb10 => ?_)
  refine ow_val (val_assign rfl) rfl ?_
  refine ow_nil (into ?_)
  refine sw_seq ?_
  refine sw_seq ?_
  refine sw_region ?_
  refine ow_val (val_move rfl) rfl ?_
  refine ow_val (val_move rfl) rfl ?_
  refine ow_val (val_load_all 1 rfl rfl Tryd.isAgg41 Tryd.sizeOf41 (by show (List.map vU8 old).length = _; rw [List.length_map]; exact hll)) rfl ?_
  refine ow_val (val_load_all 0 rfl rfl Tryd.isAgg41 Tryd.sizeOf41 (by show (List.map vU8 root).length = _; rw [List.length_map]; exact hrl)) rfl ?_
  refine ow_make (acts_buildSlice (cs := [old.map vU8, root.map vU8].flatten) Tryd.underlying22 Tryd.sizeOf41 zD rfl rfl (fill_aggs [old.map vU8, root.map vU8] (by decide) rfl (by simp only [List.forall_mem_cons, List.length_map]; exact ⟨hll, hrl, fun _ h => by cases h⟩))) rfl (fun b24 hb24 => ?_)
  refine ow_call_pure (callsTo Tryd.func62 rfl (by kernel_rfl) rfl) rfl (fun w hm => mall_any v0 w a proof.length c proof rfl hpl (hr.mem hm) (by omega) (by omega) (some ⟨b24, 0, none⟩) 2 2 ([old, root]) rfl (by simp only [List.forall_mem_cons]; exact ⟨hll, hrl, fun _ h => by cases h⟩) (Rd.blk (hm.at (i := 0) rfl)) (by decide) (by decide)) ?_
  refine ow_val (val_assign rfl) rfl ?_
  refine ow_nil (into ?_)
  refine sw_seq ?_
  refine sw_region ?_
  refine ow_val (val_move rfl) rfl ?_
  refine ow_val ((val_neq_int rfl rfl).to (v' := .bool false) (congrArg Value.bool (decide_eq_false (fun h => h (by omega))))) rfl ?_
  refine ow_nil (into ?_)
  refine sw_false rfl rfl ?_
  refine sw_skip (into ?_)
  refine sw_seq ?_
  refine sw_region ?_
  refine ow_val (val_assign rfl) rfl ?_
  refine ow_nil (into ?_)
  refine sw_seq ?_
  refine sw_block ?_
  refine sw_seq ?_
  refine sw_region ?_
  refine ow_val (val_move rfl) rfl ?_
  refine ow_val (val_move rfl) rfl ?_
  refine ow_val ((val_gtr_u64 rfl rfl).to (v' := .bool false) (congrArg Value.bool (decide_eq_false hgt))) rfl ?_
  refine ow_val (val_assign rfl) rfl ?_
  refine ow_nil (into ?_)
  refine sw_false rfl rfl ?_
  refine sw_seq ?_
  refine sw_region ?_
  refine ow_val (val_move rfl) rfl ?_
  refine ow_val (val_move rfl) rfl ?_
  refine ow_val ((val_eql_u64 rfl rfl).to (v' := .bool false) (congrArg Value.bool (decide_eq_false heq))) rfl ?_
  refine ow_val (val_assign rfl) rfl ?_
  refine ow_nil (into ?_)
  refine sw_false rfl rfl ?_
  refine sw_seq ?_
  refine sw_region ?_
  refine ow_val (val_move rfl) rfl ?_
  refine ow_val ((val_eql_u64 rfl rfl).to (v' := .bool false) (congrArg Value.bool (decide_eq_false hze))) rfl ?_
  refine ow_val (val_assign rfl) rfl ?_
  refine ow_nil (into ?_)
  refine sw_false rfl rfl ?_
  refine sw_seq ?_
  refine sw_region ?_
  refine ow_val (val_move rfl) rfl ?_
  refine ow_val (val_move rfl) rfl ?_
  refine ow_val (val_move rfl) rfl ?_
  refine ow_val (val_load_all 2 rfl rfl Tryd.isAgg41 Tryd.sizeOf41 (by show (List.map vU8 old).length = _; rw [List.length_map]; exact hll)) rfl ?_
  refine ow_val (val_move rfl) rfl ?_
  refine ow_call_pure (callsTo Tryd.func40 rfl (by kernel_rfl) rfl) rfl (fun w hm => mroots_any v0 old hll m' n w (hK.mem0 hm) a proof.length c proof rfl hpl (hr.mem hm) (by omega) (by omega) (by omega)) ?_
  refine ow_val (val_move rfl) rfl ?_
  refine ow_val (val_extract rfl rfl) rfl ?_
  refine ow_val (val_extract rfl rfl) rfl ?_
  refine ow_val (val_extract rfl rfl) rfl ?_
  refine ow_new (acts_alloc zD) rfl (fun b17 hb17 => ?_)
  refine ow_new (acts_alloc zD) rfl (fun b18 hb18 => ?_)
  refine ow_do_eq (does_store_all 1 rfl rfl rfl (one_u8s _) Tryd.sizeOf41 (by show (List.map vU8 ((rootsO v0 m' n old proof).1.1)).length = _; rw [List.length_map]; exact (rootsO_len hll hpl).1) (by show (List.map vU8 zeros32).length = _; rw [List.length_map]; exact zeros32_len)) ?_
  refine ow_do_eq (does_store_all 0 rfl rfl rfl (one_u8s _) Tryd.sizeOf41 (by show (List.map vU8 ((rootsO v0 m' n old proof).1.2)).length = _; rw [List.length_map]; exact (rootsO_len hll hpl).2) (by show (List.map vU8 zeros32).length = _; rw [List.length_map]; exact zeros32_len)) ?_
  refine ow_val (val_assign rfl) rfl ?_
  refine ow_nil (into ?_)
  refine sw_region ?_
  refine ow_val (val_move rfl) rfl ?_
  refine ow_val ((val_eql_int rfl rfl).to (v' := .bool true) (congrArg Value.bool (decide_eq_true (by omega)))) rfl ?_
  refine ow_val (val_move rfl) rfl ?_
  refine ow_guard_yes rfl rfl rfl ?_
  refine ow_val (val_load_all 1 rfl rfl Tryd.isAgg41 Tryd.sizeOf41 (by show (List.map vU8 ((rootsO v0 m' n old proof).1.1)).length = _; rw [List.length_map]; exact (rootsO_len hll hpl).1)) rfl ?_
  refine ow_guard_yes rfl rfl rfl ?_
  refine ow_val (val_load_all 4 rfl rfl Tryd.isAgg41 Tryd.sizeOf41 (by show (List.map vU8 old).length = _; rw [List.length_map]; exact hll)) rfl ?_
  by_cases hx : (rootsO v0 m' n old proof).1.1 = old
  · -- yes
    refine ow_guard_yes rfl rfl rfl ?_
    refine ow_val ((val_eql_u8s rfl rfl Tryd.eqGuardType41 Tryd.underlying41 Tryd.underlying5 Tryd.sizeOf5 Tryd.isAgg5 (rootsO_len hll hpl).1 hll).to (congrArg Value.bool (decide_eq_true (hx)))) rfl ?_
    refine ow_val (val_pick_true rfl rfl) rfl ?_
    refine ow_val (val_move rfl) rfl ?_
    refine ow_guard_yes rfl rfl rfl ?_
    refine ow_val (val_load_all 0 rfl rfl Tryd.isAgg41 Tryd.sizeOf41 (by show (List.map vU8 ((rootsO v0 m' n old proof).1.2)).length = _; rw [List.length_map]; exact (rootsO_len hll hpl).2)) rfl ?_
    refine ow_guard_yes rfl rfl rfl ?_
    refine ow_val (val_load_all 3 rfl rfl Tryd.isAgg41 Tryd.sizeOf41 (by show (List.map vU8 root).length = _; rw [List.length_map]; exact hrl)) rfl ?_
    by_cases hy : (rootsO v0 m' n old proof).1.2 = root
    · -- yes
      refine ow_guard_yes rfl rfl rfl ?_
      refine ow_val ((val_eql_u8s rfl rfl Tryd.eqGuardType41 Tryd.underlying41 Tryd.underlying5 Tryd.sizeOf5 Tryd.isAgg5 (rootsO_len hll hpl).2 hrl).to (congrArg Value.bool (decide_eq_true (hy)))) rfl ?_
      refine ow_val (val_pick_true rfl rfl) rfl ?_
      refine ow_val (val_assign rfl) rfl ?_
      refine ow_nil (into ?_)
      refine sw_seq ?_
      refine sw_seq ?_
      refine sw_region ?_
      refine ow_val (val_move rfl) rfl ?_
      refine ow_val (val_not rfl) rfl ?_
      refine ow_nil (into ?_)
      refine sw_false rfl rfl ?_
      refine sw_skip (into ?_)
      refine sw_seq ?_
      refine sw_region ?_
      refine ow_val (val_assign rfl) rfl ?_
      refine ow_nil (into ?_)
      exact sw_ret (fun w hm => ret_one _ rfl rfl ⟨by rw [consO_two he hgt heq hze, if_pos ⟨hrs, Prod.ext hx hy⟩] <;> rfl, hm.forgetAll⟩)
    · -- no
      refine ow_guard_yes rfl rfl rfl ?_
      refine ow_val ((val_eql_u8s rfl rfl Tryd.eqGuardType41 Tryd.underlying41 Tryd.underlying5 Tryd.sizeOf5 Tryd.isAgg5 (rootsO_len hll hpl).2 hrl).to (congrArg Value.bool (decide_eq_false (hy)))) rfl ?_
      refine ow_val (val_pick_true rfl rfl) rfl ?_
      refine ow_val (val_assign rfl) rfl ?_
      refine ow_nil (into ?_)
      refine sw_seq ?_
      refine sw_seq ?_
      refine sw_region ?_
      refine ow_val (val_move rfl) rfl ?_
      refine ow_val (val_not rfl) rfl ?_
      refine ow_nil (into ?_)
      refine sw_true rfl rfl ?_
      refine sw_seq ?_
      refine sw_region ?_
      refine ow_val (val_assign rfl) rfl ?_
      refine ow_nil (into ?_)
      refine sw_ret (fun w hm => ?_)
      try dsimp only [thenP, blockP, Nat.beq, cond]
      exact ret_one _ rfl rfl ⟨by rw [consO_two he hgt heq hze, if_neg (fun h => hy (congrArg Prod.snd h.2))] <;> rfl, hm.forgetAll⟩
  · -- no
    refine ow_guard_yes rfl rfl rfl ?_
    refine ow_val ((val_eql_u8s rfl rfl Tryd.eqGuardType41 Tryd.underlying41 Tryd.underlying5 Tryd.sizeOf5 Tryd.isAgg5 (rootsO_len hll hpl).1 hll).to (congrArg Value.bool (decide_eq_false (hx)))) rfl ?_
    refine ow_val (val_pick_true rfl rfl) rfl ?_
    refine ow_val (val_move rfl) rfl ?_
    first | refine ow_guard_no rfl rfl rfl rfl rfl ?_ | refine ow_guard_none rfl rfl rfl rfl rfl ?_
    first | refine ow_guard_no rfl rfl rfl rfl rfl ?_ | refine ow_guard_none rfl rfl rfl rfl rfl ?_
    first | refine ow_guard_no rfl rfl rfl rfl rfl ?_ | refine ow_guard_none rfl rfl rfl rfl rfl ?_
    refine ow_val (val_pick_false rfl rfl) rfl ?_
    refine ow_val (val_assign rfl) rfl ?_
    refine ow_nil (into ?_)
    refine sw_seq ?_
    refine sw_seq ?_
    refine sw_region ?_
    refine ow_val (val_move rfl) rfl ?_
    refine ow_val (val_not rfl) rfl ?_
    refine ow_nil (into ?_)
    refine sw_true rfl rfl ?_
    refine sw_seq ?_
    refine sw_region ?_
    refine ow_val (val_assign rfl) rfl ?_
    refine ow_nil (into ?_)
    refine sw_ret (fun w hm => ?_)
    try dsimp only [thenP, blockP, Nat.beq, cond]
    exact ret_one _ rfl rfl ⟨by rw [consO_two he hgt heq hze, if_neg (fun h => hx (congrArg Prod.fst h.2))] <;> rfl, hm.forgetAll⟩

theorem mcons_any (v0 : Int) (old : List UInt8) (hll : old.length = 32) (m' n : UInt64) (root : List UInt8) (hrl : root.length = 32) (w : World) (hK : KW w) (a : Option Addr) (m c : Nat) (proof : List (List UInt8)) (hpm : proof.length = m) (hpl : ∀ d ∈ proof, d.length = 32) (hr : Rd w a (proof.flatMap fun d => d.map vU8)) (hc : m ≤ c) (hl : m < 9223372036854775808) (hb : (m + 2) * 32 ≤ 140737488355328) : Calls Tryd.prog 33 #[vInt v0, vU64 m', vU64 n, .agg ((old).map vU8).toArray, .agg ((root).map vU8).toArray, .slice a m c] w fun e w' => ∃ v, e = .returned v ∧ v = vInt ((consO v0 m' n old root proof : Nat) : Int) ∧ Mem w [] [] w' := by
  subst hpm
  by_cases he : allE v0 proof [old, root] = 0
  · by_cases hgt : n < m'
    · exact mcons_gt v0 old hll m' n root hrl w hK a c proof hpl hr hc hl hb he hgt
    by_cases heq : m' = n
    · exact mcons_eq v0 old hll m' n root hrl w hK a c proof hpl hr hc hl hb he hgt heq
    by_cases hze : m' = 0
    · obtain ⟨hw, _⟩ := allE_ok he
      obtain ⟨k, rfl, h1, h2⟩ := wd_nat hw
      exact mcons_zero k h1 h2 old hll m' n root hrl w hK a c proof hpl hr hc hl hb he hgt heq hze
    by_cases hrs : (rootsO v0 m' n old proof).2 = 0
    · exact mcons_two v0 old hll m' n root hrl w hK a c proof hpl hr hc hl hb he hgt heq hze hrs
    · exact mcons_bad v0 old hll m' n root hrl w hK a c proof hpl hr hc hl hb he hgt heq hze hrs
  · exact mcons_err v0 old hll m' n root hrl w hK a c proof hpl hr hc hl hb he
end Go.Proofs.YtcdponddgnkecaaDoor
