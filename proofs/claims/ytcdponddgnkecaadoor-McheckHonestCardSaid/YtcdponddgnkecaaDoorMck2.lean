import Derived.Test.YtcdponddgnkecaaDoorMck1
import Derived.Test.YtcdponddgnkecaaDoorProg
set_option linter.unusedVariables false
set_option linter.unusedSimpArgs false
namespace Go.Proofs.YtcdponddgnkecaaDoor
open Go.Sx Go.Ps
theorem zPair (w : World) : (zeroValue 100).run Tryd.prog w = .ok (.agg (zeros32.map vU8 ++ zeros32.map vU8).toArray) w := by kernel_rfl

theorem rended_cons (w : World) (a : Option Addr) (c : Nat) (q : List (List UInt8)) (x : List UInt8) (hqe : ∀ d ∈ q ++ [x], d.length = 32) (hr : Rd w a ((q ++ [x]).flatMap fun d => d.map vU8)) (hc : q.length + 1 ≤ c) (hl : q.length + 1 < 9223372036854775808) : Calls Tryd.prog 102 #[.slice a (q.length + 1) c] w fun e w' => ∃ v, e = .returned v ∧ v = .tuple #[.slice a q.length c, .agg ((x).map vU8).toArray] ∧ Mem w [] [] w' := by
  obtain ⟨ba, oa, rfl⟩ := hr.addr (by rw [flatMap_size (q ++ [x]) (n := 32) (fun y hy => by rw [List.length_map]; exact hqe y hy), List.length_append, List.length_cons, List.length_nil]; omega)
  refine calls_of_sw (vs := [.slice (some ⟨ba, oa, none⟩) (q.length + 1) c]) Tryd.func102 rfl Tryd.ntmps102 rfl (SW.begin ?_)
  refine sw_seq ?_
  refine sw_region ?_
  refine ow_val (val_assign rfl) rfl ?_
  refine ow_new (acts_alloc zD) rfl (fun b3 hb3 => ?_)
  refine ow_nil (into ?_)
  refine sw_seq ?_
  refine sw_region ?_
  refine ow_val (val_move rfl) rfl ?_
  refine ow_val (val_len rfl Tryd.underlying22) rfl ?_
  refine ow_val (val_sub_int ((q.length : Nat) : Int) rfl rfl (by omega) (by omega)) rfl ?_
  refine ow_val (val_assign rfl) rfl ?_
  refine ow_nil (into ?_)
  refine sw_seq ?_
  refine sw_region_lex _ [8] [(0, 0), (1, 0), (2, 0), (3, 0), (4, 0), (5, 0), (7, 0), (6, 1), (8, 2)] (by kernel_rfl) (by kernel_rfl) (fun _ _ _ h => h) (fun _ h => h) (fun _ h => h.drawn _) ?_
  refine lw_pure rfl (val_move rfl) rfl ?_
  refine lw_pure rfl (val_move rfl) rfl ?_
  refine lw_pure rfl (val_slice_hi q.length rfl rfl Tryd.underlying22 Tryd.sizeOf41 (by omega) (by omega)) rfl ?_
  refine lw_pure rfl (val_move rfl) rfl ?_
  refine lw_pure rfl (val_move rfl) rfl ?_
  refine lw_pure rfl (val_indexAddr_slice (q.length) (oa + q.length * 32) rfl rfl Tryd.underlying22 Tryd.sizeOf41 (by omega) (by omega) (by omega)) rfl ?_
  refine lw_pure rfl (val_assign rfl) rfl ?_
  refine lw_held rfl ((val_load_elem (cells := fun d => d.map vU8) (l := q ++ [x]) (o := oa) (i := q.length) rfl Tryd.isAgg41 Tryd.sizeOf41 (fun y hy => by rw [List.length_map]; exact hqe y hy) (by simp) (by omega) (fun w' hm => hr.mem hm)).to (v' := .agg (x.map vU8).toArray) (by simp [List.getD_eq_getElem?_getD])) rfl ?_
  refine lw_do rfl (does_store_all 0 rfl rfl rfl (one_u8s _) Tryd.sizeOf41 (by show (List.map vU8 x).length = _; rw [List.length_map]; exact (hqe x (by simp))) (by show (List.map vU8 zeros32).length = _; rw [List.length_map]; exact zeros32_len)) (fun h => nomatch h) (fun _ _ => ?_)
  refine lw_nil (into ?_)
  exact sw_ret (fun w hm => ret_tc 0 rfl rfl rfl hm rfl Tryd.isAgg41 Tryd.sizeOf41 (by rw [List.length_map]; exact hqe x (by simp)) ⟨rfl, hm.forgetAll⟩)

theorem up_nil1 (k : Nat) (h1 : 1 ≤ k) (h2 : k ≤ 32) (leaf : List UInt8) (hll : leaf.length = 32) (hlf : fm (k : Int) leaf = true) (a : Option Addr) (c : Nat) (i n : UInt64) (w : World) (hK : KW w) (hr : Rd w a (([] : List (List UInt8)).flatMap fun d => d.map vU8)) (hn1 : n = 1) : Calls Tryd.prog 64 #[vInt (k : Int), .agg ((leaf).map vU8).toArray, vU64 i, vU64 n, .slice a (0) c] w fun e w' => ∃ v, e = .returned v ∧ v = .tuple #[.agg (((upR k leaf i n []).1).map vU8).toArray, .bool (upR k leaf i n []).2] ∧ Mem w [] [] w' := by
  refine calls_of_sw (vs := [vInt (k : Int), .agg ((leaf).map vU8).toArray, vU64 i, vU64 n, .slice a (0) c]) Tryd.func64 rfl Tryd.ntmps64 rfl (SW.begin ?_)
  refine sw_seq ?_
  refine sw_region ?_
  refine ow_new (acts_box rfl) rfl (fun b6 hb6 => ?_)
  refine ow_new (acts_alloc zD) rfl (fun b10 hb10 => ?_)
  refine ow_val (val_assign rfl) rfl ?_
  refine ow_nil (into ?_)
  refine sw_seq ?_
  refine sw_seq ?_
  refine sw_region ?_
  refine ow_val (val_move rfl) rfl ?_
  refine ow_val (val_eql_u64 rfl rfl) rfl ?_
  refine ow_nil (into ?_)
  refine sw_true rfl (decide_eq_true (by rw [hn1]; rfl)) ?_
  refine sw_seq ?_
  refine sw_region ?_
  refine ow_val (val_load_all 1 rfl rfl Tryd.isAgg41 Tryd.sizeOf41 (by show (List.map vU8 leaf).length = _; rw [List.length_map]; exact hll)) rfl ?_
  refine ow_val (val_move rfl) rfl ?_
  refine ow_val (val_len rfl Tryd.underlying22) rfl ?_
  refine ow_val ((val_eql_int rfl rfl).to (v' := .bool true) (congrArg Value.bool (decide_eq_true rfl))) rfl ?_
  refine ow_do_eq (does_store_all 0 rfl rfl rfl (one_u8s _) Tryd.sizeOf41 (by show (List.map vU8 leaf).length = _; rw [List.length_map]; exact hll) (by show (List.map vU8 zeros32).length = _; rw [List.length_map]; exact zeros32_len)) ?_
  refine ow_val (val_assign rfl) rfl ?_
  refine ow_nil (into ?_)
  refine sw_ret (fun w hm => ?_)
  try dsimp only [thenP, blockP, Nat.beq, cond]
  exact ret_cell_two 0 rfl rfl rfl hm rfl Tryd.isAgg41 Tryd.sizeOf41 (by show (List.map vU8 leaf).length = _; rw [List.length_map]; exact hll) ⟨by rw [upR, if_pos hn1] <;> rfl, hm.forgetAll⟩

theorem up_nil0 (k : Nat) (h1 : 1 ≤ k) (h2 : k ≤ 32) (leaf : List UInt8) (hll : leaf.length = 32) (hlf : fm (k : Int) leaf = true) (a : Option Addr) (c : Nat) (i n : UInt64) (w : World) (hK : KW w) (hr : Rd w a (([] : List (List UInt8)).flatMap fun d => d.map vU8)) (hn1 : ¬ n = 1) : Calls Tryd.prog 64 #[vInt (k : Int), .agg ((leaf).map vU8).toArray, vU64 i, vU64 n, .slice a (0) c] w fun e w' => ∃ v, e = .returned v ∧ v = .tuple #[.agg (((upR k leaf i n []).1).map vU8).toArray, .bool (upR k leaf i n []).2] ∧ Mem w [] [] w' := by
  refine calls_of_sw (vs := [vInt (k : Int), .agg ((leaf).map vU8).toArray, vU64 i, vU64 n, .slice a (0) c]) Tryd.func64 rfl Tryd.ntmps64 rfl (SW.begin ?_)
  refine sw_seq ?_
  refine sw_region ?_
  refine ow_new (acts_box rfl) rfl (fun b6 hb6 => ?_)
  refine ow_new (acts_alloc zD) rfl (fun b10 hb10 => ?_)
  refine ow_val (val_assign rfl) rfl ?_
  refine ow_nil (into ?_)
  refine sw_seq ?_
  refine sw_seq ?_
  refine sw_region ?_
  refine ow_val (val_move rfl) rfl ?_
  refine ow_val (val_eql_u64 rfl rfl) rfl ?_
  refine ow_nil (into ?_)
  refine sw_false rfl (decide_eq_false (fun h => hn1 (h.trans rfl))) ?_
  refine sw_skip (into ?_)
  refine sw_seq ?_
  refine sw_region ?_
  refine ow_val (val_move rfl) rfl ?_
  refine ow_call_pure (v := .tuple #[.slice none 0 0, .agg ((zeros32).map vU8).toArray, .bool false]) (callsTo Tryd.func90 rfl (by kernel_rfl) rfl) rfl (fun w hm => ended_nil w a c) ?_
  refine ow_val (val_move rfl) rfl ?_
  refine ow_val (val_extract rfl rfl) rfl ?_
  refine ow_val (val_extract rfl rfl) rfl ?_
  refine ow_val (val_extract rfl rfl) rfl ?_
  refine ow_new (acts_alloc zD) rfl (fun b13 hb13 => ?_)
  refine ow_val (val_assign rfl) rfl ?_
  refine ow_do_eq (does_store_all 0 rfl rfl rfl (one_u8s _) Tryd.sizeOf41 (by show (List.map vU8 zeros32).length = _; rw [List.length_map]; exact zeros32_len) (by show (List.map vU8 zeros32).length = _; rw [List.length_map]; exact zeros32_len)) ?_
  refine ow_val (val_assign rfl) rfl ?_
  refine ow_nil (into ?_)
  refine sw_seq ?_
  refine sw_seq ?_
  refine sw_region ?_
  refine ow_val (val_move rfl) rfl ?_
  refine ow_val (val_not rfl) rfl ?_
  refine ow_nil (into ?_)
  refine sw_true rfl rfl ?_
  refine sw_seq ?_
  refine sw_region ?_
  refine ow_val (val_build' (cs := zeros32.map vU8) rfl (by kernel_rfl)) rfl ?_
  refine ow_do_eq (does_store_all 1 rfl rfl rfl (one_u8s _) Tryd.sizeOf41 (by show (List.map vU8 zeros32).length = _; rw [List.length_map]; exact zeros32_len) (by show (List.map vU8 zeros32).length = _; rw [List.length_map]; exact zeros32_len)) ?_
  refine ow_val (val_assign rfl) rfl ?_
  refine ow_nil (into ?_)
  refine sw_ret (fun w hm => ?_)
  try dsimp only [thenP, blockP, Nat.beq, cond]
  exact ret_cell_two 1 rfl rfl rfl hm rfl Tryd.isAgg41 Tryd.sizeOf41 (by show (List.map vU8 zeros32).length = _; rw [List.length_map]; exact zeros32_len) ⟨by rw [upR, if_neg hn1] <;> rfl, hm.forgetAll⟩

theorem up_one (k : Nat) (h1 : 1 ≤ k) (h2 : k ≤ 32) (leaf : List UInt8) (hll : leaf.length = 32) (hlf : fm (k : Int) leaf = true) (i n : UInt64) (w : World) (hK : KW w) (a : Option Addr) (c : Nat) (q : List (List UInt8)) (x : List UInt8) (hqe : ∀ d ∈ q ++ [x], d.length = 32) (hqf : ∀ d ∈ q ++ [x], fm (k : Int) d = true) (hr : Rd w a ((q ++ [x]).flatMap fun d => d.map vU8)) (hc : q.length + 1 ≤ c) (hl : q.length + 1 < 9223372036854775808) (hn1 : n = 1) : Calls Tryd.prog 64 #[vInt (k : Int), .agg ((leaf).map vU8).toArray, vU64 i, vU64 n, .slice a (q.length + 1) c] w fun e w' => ∃ v, e = .returned v ∧ v = .tuple #[.agg (((upR k leaf i n (x :: q.reverse)).1).map vU8).toArray, .bool (upR k leaf i n (x :: q.reverse)).2] ∧ Mem w [] [] w' := by
  have hq : ∀ d ∈ q, d.length = 32 := fun d hd => hqe d (by simp [hd])
  have hqfm : ∀ d ∈ q, fm (k : Int) d = true := fun d hd => hqf d (by simp [hd])
  have hrq : Rd w a (q.flatMap fun d => d.map vU8) := by rw [List.flatMap_append] at hr; exact Rd.pre hr
  have hxl := hqe x (by simp)
  have hxf := hqf x (by simp)
  refine calls_of_sw (vs := [vInt (k : Int), .agg ((leaf).map vU8).toArray, vU64 i, vU64 n, .slice a (q.length + 1) c]) Tryd.func64 rfl Tryd.ntmps64 rfl (SW.begin ?_)
  refine sw_seq ?_
  refine sw_region ?_
  refine ow_new (acts_box rfl) rfl (fun b6 hb6 => ?_)
  refine ow_new (acts_alloc zD) rfl (fun b10 hb10 => ?_)
  refine ow_val (val_assign rfl) rfl ?_
  refine ow_nil (into ?_)
  refine sw_seq ?_
  refine sw_seq ?_
  refine sw_region ?_
  refine ow_val (val_move rfl) rfl ?_
  refine ow_val (val_eql_u64 rfl rfl) rfl ?_
  refine ow_nil (into ?_)
  refine sw_true rfl (decide_eq_true (by rw [hn1]; rfl)) ?_
  refine sw_seq ?_
  refine sw_region ?_
  refine ow_val (val_load_all 1 rfl rfl Tryd.isAgg41 Tryd.sizeOf41 (by show (List.map vU8 leaf).length = _; rw [List.length_map]; exact hll)) rfl ?_
  refine ow_val (val_move rfl) rfl ?_
  refine ow_val (val_len rfl Tryd.underlying22) rfl ?_
  refine ow_val ((val_eql_int rfl rfl).to (v' := .bool false) (congrArg Value.bool (decide_eq_false (by omega)))) rfl ?_
  refine ow_do_eq (does_store_all 0 rfl rfl rfl (one_u8s _) Tryd.sizeOf41 (by show (List.map vU8 leaf).length = _; rw [List.length_map]; exact hll) (by show (List.map vU8 zeros32).length = _; rw [List.length_map]; exact zeros32_len)) ?_
  refine ow_val (val_assign rfl) rfl ?_
  refine ow_nil (into ?_)
  refine sw_ret (fun w hm => ?_)
  try dsimp only [thenP, blockP, Nat.beq, cond]
  exact ret_cell_two 0 rfl rfl rfl hm rfl Tryd.isAgg41 Tryd.sizeOf41 (by show (List.map vU8 leaf).length = _; rw [List.length_map]; exact hll) ⟨by rw [upR, if_pos hn1] <;> rfl, hm.forgetAll⟩

theorem two_le {n : UInt64} (h0 : n ≠ 0) (h1 : ¬ n = 1) : 2 ≤ n.toNat := by
  have h2 : n.toNat ≠ 0 := fun h => h0 (UInt64.toNat.inj h)
  have h3 : n.toNat ≠ 1 := fun h => h1 (UInt64.toNat.inj h)
  omega
theorem sub_ne {n : UInt64} (hn2 : 2 ≤ n.toNat) : n - splitU n ≠ 0 := fun h => by
  have hsl := splitN_lt hn2
  have hsn := splitU_nat hn2
  have h1 : (n - splitU n).toNat = n.toNat - (splitU n).toNat := UInt64.toNat_sub_of_le _ _ (UInt64.le_iff_toNat_le.2 (by omega))
  rw [h] at h1
  have h9 : (0 : UInt64).toNat = 0 := rfl
  omega

theorem up_left (k : Nat) (h1 : 1 ≤ k) (h2 : k ≤ 32) (leaf : List UInt8) (hll : leaf.length = 32) (hlf : fm (k : Int) leaf = true) (i n : UInt64) (w : World) (hK : KW w) (a : Option Addr) (c : Nat) (q : List (List UInt8)) (x : List UInt8) (hqe : ∀ d ∈ q ++ [x], d.length = 32) (hqf : ∀ d ∈ q ++ [x], fm (k : Int) d = true) (hr : Rd w a ((q ++ [x]).flatMap fun d => d.map vU8)) (hc : q.length + 1 ≤ c) (hl : q.length + 1 < 9223372036854775808) (hn0 : n ≠ 0) (hn1 : ¬ n = 1) (hik : i < splitU n) (ih : ∀ (i n : UInt64) (w : World), n ≠ 0 → KW w → Rd w a ((q).flatMap fun d => d.map vU8) → Calls Tryd.prog 64 #[vInt (k : Int), .agg ((leaf).map vU8).toArray, vU64 i, vU64 n, .slice a (q.length) c] w fun e w' => ∃ v, e = .returned v ∧ v = .tuple #[.agg (((upR k leaf i n q.reverse).1).map vU8).toArray, .bool (upR k leaf i n q.reverse).2] ∧ Mem w [] [] w') : Calls Tryd.prog 64 #[vInt (k : Int), .agg ((leaf).map vU8).toArray, vU64 i, vU64 n, .slice a (q.length + 1) c] w fun e w' => ∃ v, e = .returned v ∧ v = .tuple #[.agg (((upR k leaf i n (x :: q.reverse)).1).map vU8).toArray, .bool (upR k leaf i n (x :: q.reverse)).2] ∧ Mem w [] [] w' := by
  have hq : ∀ d ∈ q, d.length = 32 := fun d hd => hqe d (by simp [hd])
  have hqfm : ∀ d ∈ q, fm (k : Int) d = true := fun d hd => hqf d (by simp [hd])
  have hrq : Rd w a (q.flatMap fun d => d.map vU8) := by rw [List.flatMap_append] at hr; exact Rd.pre hr
  have hxl := hqe x (by simp)
  have hxf := hqf x (by simp)
  have hn2 : 2 ≤ n.toNat := two_le hn0 hn1
  have hsl := splitN_lt hn2
  have hsp := splitN_pos n.toNat
  have hsn := splitU_nat hn2
  have hk0 : splitU n ≠ 0 := fun h => by rw [h] at hsn; have h9 : (0 : UInt64).toNat = 0 := rfl; omega
  have hnk0 : n - splitU n ≠ 0 := sub_ne hn2
  refine calls_of_sw (vs := [vInt (k : Int), .agg ((leaf).map vU8).toArray, vU64 i, vU64 n, .slice a (q.length + 1) c]) Tryd.func64 rfl Tryd.ntmps64 rfl (SW.begin ?_)
  refine sw_seq ?_
  refine sw_region ?_
  refine ow_new (acts_box rfl) rfl (fun b6 hb6 => ?_)
  refine ow_new (acts_alloc zD) rfl (fun b10 hb10 => ?_)
  refine ow_val (val_assign rfl) rfl ?_
  refine ow_nil (into ?_)
  refine sw_seq ?_
  refine sw_seq ?_
  refine sw_region ?_
  refine ow_val (val_move rfl) rfl ?_
  refine ow_val (val_eql_u64 rfl rfl) rfl ?_
  refine ow_nil (into ?_)
  refine sw_false rfl (decide_eq_false (fun h => hn1 (h.trans rfl))) ?_
  refine sw_skip (into ?_)
  refine sw_seq ?_
  refine sw_region ?_
  refine ow_val (val_move rfl) rfl ?_
  refine ow_call_pure (callsTo Tryd.func90 rfl (by kernel_rfl) rfl) rfl (fun w hm => ended_cons w a c q x hqe (hr.mem hm) hc hl) ?_
  refine ow_val (val_move rfl) rfl ?_
  refine ow_val (val_extract rfl rfl) rfl ?_
  refine ow_val (val_extract rfl rfl) rfl ?_
  refine ow_val (val_extract rfl rfl) rfl ?_
  refine ow_new (acts_alloc zD) rfl (fun b13 hb13 => ?_)
  refine ow_val (val_assign rfl) rfl ?_
  refine ow_do_eq (does_store_all 0 rfl rfl rfl (one_u8s _) Tryd.sizeOf41 (by show (List.map vU8 x).length = _; rw [List.length_map]; exact hxl) (by show (List.map vU8 zeros32).length = _; rw [List.length_map]; exact zeros32_len)) ?_
  refine ow_val (val_assign rfl) rfl ?_
  refine ow_nil (into ?_)
  refine sw_seq ?_
  refine sw_seq ?_
  refine sw_region ?_
  refine ow_val (val_move rfl) rfl ?_
  refine ow_val (val_not rfl) rfl ?_
  refine ow_nil (into ?_)
  refine sw_false rfl rfl ?_
  refine sw_skip (into ?_)
  refine sw_seq ?_
  refine sw_region ?_
  refine ow_val (val_move rfl) rfl ?_
  refine ow_call_pure (callsTo Tryd.func91 rfl (by kernel_rfl) rfl) rfl (fun w hm => below_any n hn2 w) ?_
  refine ow_val (val_assign rfl) rfl ?_
  refine ow_nil (into ?_)
  refine sw_seq ?_
  refine sw_seq ?_
  refine sw_region ?_
  refine ow_val (val_move rfl) rfl ?_
  refine ow_val (val_move rfl) rfl ?_
  refine ow_val (val_lss_u64 rfl rfl) rfl ?_
  refine ow_nil (into ?_)
  refine sw_true rfl (decide_eq_true hik) ?_
  refine sw_seq ?_
  refine sw_region ?_
  refine ow_val (val_move rfl) rfl ?_
  refine ow_val (val_load_all 2 rfl rfl Tryd.isAgg41 Tryd.sizeOf41 (by show (List.map vU8 leaf).length = _; rw [List.length_map]; exact hll)) rfl ?_
  refine ow_val (val_move rfl) rfl ?_
  refine ow_val (val_move rfl) rfl ?_
  refine ow_val (val_move rfl) rfl ?_
  refine ow_call_pure (callsTo Tryd.func64 rfl (by kernel_rfl) rfl) rfl (fun w hm => ih i (splitU n) w hk0 (hK.mem0 hm) (hrq.mem hm)) ?_
  refine ow_val (val_move rfl) rfl ?_
  refine ow_val (val_extract rfl rfl) rfl ?_
  refine ow_val (val_extract rfl rfl) rfl ?_
  refine ow_new (acts_alloc zD) rfl (fun b16 hb16 => ?_)
  refine ow_do_eq (does_store_all 0 rfl rfl rfl (one_u8s _) Tryd.sizeOf41 (by show (List.map vU8 ((upR k leaf i (splitU n) q.reverse).1)).length = _; rw [List.length_map]; exact (upR_len h2 hll _ _ _)) (by show (List.map vU8 zeros32).length = _; rw [List.length_map]; exact zeros32_len)) ?_
  refine ow_val (val_assign rfl) rfl ?_
  refine ow_nil (into ?_)
  refine sw_seq ?_
  refine sw_region ?_
  refine ow_val (val_move rfl) rfl ?_
  refine ow_val (val_load_all 0 rfl rfl Tryd.isAgg41 Tryd.sizeOf41 (by show (List.map vU8 ((upR k leaf i (splitU n) q.reverse).1)).length = _; rw [List.length_map]; exact (upR_len h2 hll _ _ _))) rfl ?_
  refine ow_val (val_load_all 1 rfl rfl Tryd.isAgg41 Tryd.sizeOf41 (by show (List.map vU8 x).length = _; rw [List.length_map]; exact hxl)) rfl ?_
  refine ow_call_pure (callsTo Tryd.func92 rfl (by kernel_rfl) rfl) rfl (fun w hm => mnode_any k h1 h2 ((upR k leaf i (splitU n) q.reverse).1) x (upR_len h2 hll _ _ _) hxl (upR_fm h1 h2 hlf _ _ _) hxf w (hK.mem0 hm)) ?_
  refine ow_val (val_move rfl) rfl ?_
  refine ow_do_eq (does_store_all 2 rfl rfl rfl (one_u8s _) Tryd.sizeOf41 (by show (List.map vU8 (nd k ((upR k leaf i (splitU n) q.reverse).1) x)).length = _; rw [List.length_map]; exact (nd_len _ _ _ h2)) (by show (List.map vU8 zeros32).length = _; rw [List.length_map]; exact zeros32_len)) ?_
  refine ow_val (val_assign rfl) rfl ?_
  refine ow_nil (into ?_)
  refine sw_ret (fun w hm => ?_)
  try dsimp only [thenP, blockP, Nat.beq, cond]
  exact ret_cell_two 2 rfl rfl rfl hm rfl Tryd.isAgg41 Tryd.sizeOf41 (by show (List.map vU8 (nd k ((upR k leaf i (splitU n) q.reverse).1) x)).length = _; rw [List.length_map]; exact (nd_len _ _ _ h2)) ⟨by rw [upR, if_neg hn1, if_pos hik] <;> rfl, hm.forgetAll⟩

theorem up_right (k : Nat) (h1 : 1 ≤ k) (h2 : k ≤ 32) (leaf : List UInt8) (hll : leaf.length = 32) (hlf : fm (k : Int) leaf = true) (i n : UInt64) (w : World) (hK : KW w) (a : Option Addr) (c : Nat) (q : List (List UInt8)) (x : List UInt8) (hqe : ∀ d ∈ q ++ [x], d.length = 32) (hqf : ∀ d ∈ q ++ [x], fm (k : Int) d = true) (hr : Rd w a ((q ++ [x]).flatMap fun d => d.map vU8)) (hc : q.length + 1 ≤ c) (hl : q.length + 1 < 9223372036854775808) (hn0 : n ≠ 0) (hn1 : ¬ n = 1) (hik : ¬ i < splitU n) (ih : ∀ (i n : UInt64) (w : World), n ≠ 0 → KW w → Rd w a ((q).flatMap fun d => d.map vU8) → Calls Tryd.prog 64 #[vInt (k : Int), .agg ((leaf).map vU8).toArray, vU64 i, vU64 n, .slice a (q.length) c] w fun e w' => ∃ v, e = .returned v ∧ v = .tuple #[.agg (((upR k leaf i n q.reverse).1).map vU8).toArray, .bool (upR k leaf i n q.reverse).2] ∧ Mem w [] [] w') : Calls Tryd.prog 64 #[vInt (k : Int), .agg ((leaf).map vU8).toArray, vU64 i, vU64 n, .slice a (q.length + 1) c] w fun e w' => ∃ v, e = .returned v ∧ v = .tuple #[.agg (((upR k leaf i n (x :: q.reverse)).1).map vU8).toArray, .bool (upR k leaf i n (x :: q.reverse)).2] ∧ Mem w [] [] w' := by
  have hq : ∀ d ∈ q, d.length = 32 := fun d hd => hqe d (by simp [hd])
  have hqfm : ∀ d ∈ q, fm (k : Int) d = true := fun d hd => hqf d (by simp [hd])
  have hrq : Rd w a (q.flatMap fun d => d.map vU8) := by rw [List.flatMap_append] at hr; exact Rd.pre hr
  have hxl := hqe x (by simp)
  have hxf := hqf x (by simp)
  have hn2 : 2 ≤ n.toNat := two_le hn0 hn1
  have hsl := splitN_lt hn2
  have hsp := splitN_pos n.toNat
  have hsn := splitU_nat hn2
  have hk0 : splitU n ≠ 0 := fun h => by rw [h] at hsn; have h9 : (0 : UInt64).toNat = 0 := rfl; omega
  have hnk0 : n - splitU n ≠ 0 := sub_ne hn2
  refine calls_of_sw (vs := [vInt (k : Int), .agg ((leaf).map vU8).toArray, vU64 i, vU64 n, .slice a (q.length + 1) c]) Tryd.func64 rfl Tryd.ntmps64 rfl (SW.begin ?_)
  refine sw_seq ?_
  refine sw_region ?_
  refine ow_new (acts_box rfl) rfl (fun b6 hb6 => ?_)
  refine ow_new (acts_alloc zD) rfl (fun b10 hb10 => ?_)
  refine ow_val (val_assign rfl) rfl ?_
  refine ow_nil (into ?_)
  refine sw_seq ?_
  refine sw_seq ?_
  refine sw_region ?_
  refine ow_val (val_move rfl) rfl ?_
  refine ow_val (val_eql_u64 rfl rfl) rfl ?_
  refine ow_nil (into ?_)
  refine sw_false rfl (decide_eq_false (fun h => hn1 (h.trans rfl))) ?_
  refine sw_skip (into ?_)
  refine sw_seq ?_
  refine sw_region ?_
  refine ow_val (val_move rfl) rfl ?_
  refine ow_call_pure (callsTo Tryd.func90 rfl (by kernel_rfl) rfl) rfl (fun w hm => ended_cons w a c q x hqe (hr.mem hm) hc hl) ?_
  refine ow_val (val_move rfl) rfl ?_
  refine ow_val (val_extract rfl rfl) rfl ?_
  refine ow_val (val_extract rfl rfl) rfl ?_
  refine ow_val (val_extract rfl rfl) rfl ?_
  refine ow_new (acts_alloc zD) rfl (fun b13 hb13 => ?_)
  refine ow_val (val_assign rfl) rfl ?_
  refine ow_do_eq (does_store_all 0 rfl rfl rfl (one_u8s _) Tryd.sizeOf41 (by show (List.map vU8 x).length = _; rw [List.length_map]; exact hxl) (by show (List.map vU8 zeros32).length = _; rw [List.length_map]; exact zeros32_len)) ?_
  refine ow_val (val_assign rfl) rfl ?_
  refine ow_nil (into ?_)
  refine sw_seq ?_
  refine sw_seq ?_
  refine sw_region ?_
  refine ow_val (val_move rfl) rfl ?_
  refine ow_val (val_not rfl) rfl ?_
  refine ow_nil (into ?_)
  refine sw_false rfl rfl ?_
  refine sw_skip (into ?_)
  refine sw_seq ?_
  refine sw_region ?_
  refine ow_val (val_move rfl) rfl ?_
  refine ow_call_pure (callsTo Tryd.func91 rfl (by kernel_rfl) rfl) rfl (fun w hm => below_any n hn2 w) ?_
  refine ow_val (val_assign rfl) rfl ?_
  refine ow_nil (into ?_)
  refine sw_seq ?_
  refine sw_seq ?_
  refine sw_region ?_
  refine ow_val (val_move rfl) rfl ?_
  refine ow_val (val_move rfl) rfl ?_
  refine ow_val (val_lss_u64 rfl rfl) rfl ?_
  refine ow_nil (into ?_)
  refine sw_false rfl (decide_eq_false hik) ?_
  refine sw_skip (into ?_)
  refine sw_seq ?_
  refine sw_region ?_
  refine ow_val (val_move rfl) rfl ?_
  refine ow_val (val_load_all 2 rfl rfl Tryd.isAgg41 Tryd.sizeOf41 (by show (List.map vU8 leaf).length = _; rw [List.length_map]; exact hll)) rfl ?_
  refine ow_val (val_move rfl) rfl ?_
  refine ow_val (val_move rfl) rfl ?_
  refine ow_val (val_sub_u64 rfl rfl) rfl ?_
  refine ow_val (val_move rfl) rfl ?_
  refine ow_val (val_move rfl) rfl ?_
  refine ow_val (val_sub_u64 rfl rfl) rfl ?_
  refine ow_val (val_move rfl) rfl ?_
  refine ow_call_pure (callsTo Tryd.func64 rfl (by kernel_rfl) rfl) rfl (fun w hm => ih ((i - (splitU n))) ((n - (splitU n))) w hnk0 (hK.mem0 hm) (hrq.mem hm)) ?_
  refine ow_val (val_move rfl) rfl ?_
  refine ow_val (val_extract rfl rfl) rfl ?_
  refine ow_val (val_extract rfl rfl) rfl ?_
  refine ow_new (acts_alloc zD) rfl (fun b18 hb18 => ?_)
  refine ow_do_eq (does_store_all 0 rfl rfl rfl (one_u8s _) Tryd.sizeOf41 (by show (List.map vU8 ((upR k leaf ((i - (splitU n))) ((n - (splitU n))) q.reverse).1)).length = _; rw [List.length_map]; exact (upR_len h2 hll _ _ _)) (by show (List.map vU8 zeros32).length = _; rw [List.length_map]; exact zeros32_len)) ?_
  refine ow_val (val_assign rfl) rfl ?_
  refine ow_nil (into ?_)
  refine sw_seq ?_
  refine sw_region ?_
  refine ow_val (val_move rfl) rfl ?_
  refine ow_val (val_load_all 1 rfl rfl Tryd.isAgg41 Tryd.sizeOf41 (by show (List.map vU8 x).length = _; rw [List.length_map]; exact hxl)) rfl ?_
  refine ow_val (val_load_all 0 rfl rfl Tryd.isAgg41 Tryd.sizeOf41 (by show (List.map vU8 ((upR k leaf ((i - (splitU n))) ((n - (splitU n))) q.reverse).1)).length = _; rw [List.length_map]; exact (upR_len h2 hll _ _ _))) rfl ?_
  refine ow_call_pure (callsTo Tryd.func92 rfl (by kernel_rfl) rfl) rfl (fun w hm => mnode_any k h1 h2 x ((upR k leaf ((i - (splitU n))) ((n - (splitU n))) q.reverse).1) hxl (upR_len h2 hll _ _ _) hxf (upR_fm h1 h2 hlf _ _ _) w (hK.mem0 hm)) ?_
  refine ow_val (val_move rfl) rfl ?_
  refine ow_do_eq (does_store_all 2 rfl rfl rfl (one_u8s _) Tryd.sizeOf41 (by show (List.map vU8 (nd k x ((upR k leaf ((i - (splitU n))) ((n - (splitU n))) q.reverse).1))).length = _; rw [List.length_map]; exact (nd_len _ _ _ h2)) (by show (List.map vU8 zeros32).length = _; rw [List.length_map]; exact zeros32_len)) ?_
  refine ow_val (val_assign rfl) rfl ?_
  refine ow_nil (into ?_)
  exact sw_ret (fun w hm => ret_cell_two 2 rfl rfl rfl hm rfl Tryd.isAgg41 Tryd.sizeOf41 (by show (List.map vU8 (nd k x ((upR k leaf ((i - (splitU n))) ((n - (splitU n))) q.reverse).1))).length = _; rw [List.length_map]; exact (nd_len _ _ _ h2)) ⟨by rw [upR, if_neg hn1, if_neg hik] <;> rfl, hm.forgetAll⟩)

theorem kup_any (k : Nat) (h1 : 1 ≤ k) (h2 : k ≤ 32) (leaf : List UInt8) (hll : leaf.length = 32) (hlf : fm (k : Int) leaf = true) (a : Option Addr) (c : Nat) : ∀ (N : Nat) (ps : List (List UInt8)) (_ : ps.length = N) (_ : ∀ d ∈ ps, d.length = 32) (_ : ∀ d ∈ ps, fm (k : Int) d = true) (_ : ps.length ≤ c) (_ : ps.length < 9223372036854775808)
    (i n : UInt64) (w : World) (_ : n ≠ 0) (_ : KW w) (_ : Rd w a ((ps).flatMap fun d => d.map vU8)), Calls Tryd.prog 64 #[vInt (k : Int), .agg ((leaf).map vU8).toArray, vU64 i, vU64 n, .slice a (ps.length) c] w fun e w' => ∃ v, e = .returned v ∧ v = .tuple #[.agg (((upR k leaf i n ps.reverse).1).map vU8).toArray, .bool (upR k leaf i n ps.reverse).2] ∧ Mem w [] [] w'
  | 0, ps, hN, _, _, _, _, i, n, w, _, hK, hr => by
    obtain rfl := List.length_eq_zero_iff.1 hN
    by_cases hn1 : n = 1
    · exact up_nil1 k h1 h2 leaf hll hlf a c i n w hK hr hn1
    · exact up_nil0 k h1 h2 leaf hll hlf a c i n w hK hr hn1
  | N + 1, ps, hN, hpl, hpf, hc, hl, i, n, w, hn0, hK, hr => by
    obtain ⟨q, x, rfl⟩ : ∃ q x, ps = q ++ [x] := ⟨ps.dropLast, ps.getLast (fun h => by rw [h] at hN; cases hN), (List.dropLast_concat_getLast _).symm⟩
    rw [List.length_append, List.length_cons, List.length_nil] at hN hc hl
    rw [List.reverse_append, List.reverse_cons, List.reverse_nil, List.nil_append, List.singleton_append, List.length_append, List.length_cons, List.length_nil]
    have ih := fun i n w h0 hK hr => kup_any k h1 h2 leaf hll hlf a c N q (by omega) (fun d hd => hpl d (by simp [hd])) (fun d hd => hpf d (by simp [hd])) (by omega) (by omega) i n w h0 hK hr
    by_cases hn1 : n = 1
    · exact up_one k h1 h2 leaf hll hlf i n w hK a c q x hpl hpf hr hc hl hn1
    · by_cases hik : i < splitU n
      · exact up_left k h1 h2 leaf hll hlf i n w hK a c q x hpl hpf hr hc hl hn0 hn1 hik ih
      · exact up_right k h1 h2 leaf hll hlf i n w hK a c q x hpl hpf hr hc hl hn0 hn1 hik ih

theorem path_nil1 (k : Nat) (h1 : 1 ≤ k) (h2 : k ≤ 32) (leaf : List UInt8) (hll : leaf.length = 32) (hlf : fm (k : Int) leaf = true) (a : Option Addr) (c : Nat) (i n : UInt64) (w : World) (hK : KW w) (hr : Rd w a (([] : List (List UInt8)).flatMap fun d => d.map vU8)) (hn1 : n = 1) : Calls Tryd.prog 86 #[vInt (k : Int), .agg ((leaf).map vU8).toArray, vU64 i, vU64 n, .slice a (0) c] w fun e w' => ∃ v, e = .returned v ∧ v = .tuple #[.agg (((upR k leaf i n []).1).map vU8).toArray, .bool (upR k leaf i n []).2] ∧ Mem w [] [] w' := by
  refine calls_of_sw (vs := [vInt (k : Int), .agg ((leaf).map vU8).toArray, vU64 i, vU64 n, .slice a (0) c]) Tryd.func86 rfl Tryd.ntmps86 rfl (SW.begin ?_)
  refine sw_seq ?_
  refine sw_region ?_
  refine ow_new (acts_box rfl) rfl (fun b6 hb6 => ?_)
  refine ow_new (acts_alloc zD) rfl (fun b10 hb10 => ?_)
  refine ow_val (val_assign rfl) rfl ?_
  refine ow_nil (into ?_)
  refine sw_seq ?_
  refine sw_seq ?_
  refine sw_region ?_
  refine ow_val (val_move rfl) rfl ?_
  refine ow_val (val_eql_u64 rfl rfl) rfl ?_
  refine ow_nil (into ?_)
  refine sw_true rfl (decide_eq_true (by rw [hn1]; rfl)) ?_
  refine sw_seq ?_
  refine sw_region ?_
  refine ow_val (val_load_all 1 rfl rfl Tryd.isAgg41 Tryd.sizeOf41 (by show (List.map vU8 leaf).length = _; rw [List.length_map]; exact hll)) rfl ?_
  refine ow_val (val_move rfl) rfl ?_
  refine ow_val (val_len rfl Tryd.underlying22) rfl ?_
  refine ow_val ((val_eql_int rfl rfl).to (v' := .bool true) (congrArg Value.bool (decide_eq_true rfl))) rfl ?_
  refine ow_do_eq (does_store_all 0 rfl rfl rfl (one_u8s _) Tryd.sizeOf41 (by show (List.map vU8 leaf).length = _; rw [List.length_map]; exact hll) (by show (List.map vU8 zeros32).length = _; rw [List.length_map]; exact zeros32_len)) ?_
  refine ow_val (val_assign rfl) rfl ?_
  refine ow_nil (into ?_)
  refine sw_ret (fun w hm => ?_)
  try dsimp only [thenP, blockP, Nat.beq, cond]
  exact ret_cell_two 0 rfl rfl rfl hm rfl Tryd.isAgg41 Tryd.sizeOf41 (by show (List.map vU8 leaf).length = _; rw [List.length_map]; exact hll) ⟨by rw [upR, if_pos hn1] <;> rfl, hm.forgetAll⟩

theorem path_nil0 (k : Nat) (h1 : 1 ≤ k) (h2 : k ≤ 32) (leaf : List UInt8) (hll : leaf.length = 32) (hlf : fm (k : Int) leaf = true) (a : Option Addr) (c : Nat) (i n : UInt64) (w : World) (hK : KW w) (hr : Rd w a (([] : List (List UInt8)).flatMap fun d => d.map vU8)) (hn1 : ¬ n = 1) : Calls Tryd.prog 86 #[vInt (k : Int), .agg ((leaf).map vU8).toArray, vU64 i, vU64 n, .slice a (0) c] w fun e w' => ∃ v, e = .returned v ∧ v = .tuple #[.agg (((upR k leaf i n []).1).map vU8).toArray, .bool (upR k leaf i n []).2] ∧ Mem w [] [] w' := by
  refine calls_of_sw (vs := [vInt (k : Int), .agg ((leaf).map vU8).toArray, vU64 i, vU64 n, .slice a (0) c]) Tryd.func86 rfl Tryd.ntmps86 rfl (SW.begin ?_)
  refine sw_seq ?_
  refine sw_region ?_
  refine ow_new (acts_box rfl) rfl (fun b6 hb6 => ?_)
  refine ow_new (acts_alloc zD) rfl (fun b10 hb10 => ?_)
  refine ow_val (val_assign rfl) rfl ?_
  refine ow_nil (into ?_)
  refine sw_seq ?_
  refine sw_seq ?_
  refine sw_region ?_
  refine ow_val (val_move rfl) rfl ?_
  refine ow_val (val_eql_u64 rfl rfl) rfl ?_
  refine ow_nil (into ?_)
  refine sw_false rfl (decide_eq_false (fun h => hn1 (h.trans rfl))) ?_
  refine sw_skip (into ?_)
  refine sw_seq ?_
  refine sw_seq ?_
  refine sw_region ?_
  refine ow_val (val_move rfl) rfl ?_
  refine ow_val (val_len rfl Tryd.underlying22) rfl ?_
  refine ow_val ((val_eql_int rfl rfl).to (v' := .bool true) (congrArg Value.bool (decide_eq_true rfl))) rfl ?_
  refine ow_nil (into ?_)
  refine sw_true rfl rfl ?_
  refine sw_seq ?_
  refine sw_region ?_
  refine ow_val (val_build' (cs := zeros32.map vU8) rfl (by kernel_rfl)) rfl ?_
  refine ow_do_eq (does_store_all 0 rfl rfl rfl (one_u8s _) Tryd.sizeOf41 (by show (List.map vU8 zeros32).length = _; rw [List.length_map]; exact zeros32_len) (by show (List.map vU8 zeros32).length = _; rw [List.length_map]; exact zeros32_len)) ?_
  refine ow_val (val_assign rfl) rfl ?_
  refine ow_nil (into ?_)
  refine sw_ret (fun w hm => ?_)
  try dsimp only [thenP, blockP, Nat.beq, cond]
  exact ret_cell_two 0 rfl rfl rfl hm rfl Tryd.isAgg41 Tryd.sizeOf41 (by show (List.map vU8 zeros32).length = _; rw [List.length_map]; exact zeros32_len) ⟨by rw [upR, if_neg hn1] <;> rfl, hm.forgetAll⟩

theorem path_one (k : Nat) (h1 : 1 ≤ k) (h2 : k ≤ 32) (leaf : List UInt8) (hll : leaf.length = 32) (hlf : fm (k : Int) leaf = true) (i n : UInt64) (w : World) (hK : KW w) (a : Option Addr) (c : Nat) (q : List (List UInt8)) (x : List UInt8) (hqe : ∀ d ∈ q ++ [x], d.length = 32) (hqf : ∀ d ∈ q ++ [x], fm (k : Int) d = true) (hr : Rd w a ((q ++ [x]).flatMap fun d => d.map vU8)) (hc : q.length + 1 ≤ c) (hl : q.length + 1 < 9223372036854775808) (hn1 : n = 1) : Calls Tryd.prog 86 #[vInt (k : Int), .agg ((leaf).map vU8).toArray, vU64 i, vU64 n, .slice a (q.length + 1) c] w fun e w' => ∃ v, e = .returned v ∧ v = .tuple #[.agg (((upR k leaf i n (x :: q.reverse)).1).map vU8).toArray, .bool (upR k leaf i n (x :: q.reverse)).2] ∧ Mem w [] [] w' := by
  have hq : ∀ d ∈ q, d.length = 32 := fun d hd => hqe d (by simp [hd])
  have hqfm : ∀ d ∈ q, fm (k : Int) d = true := fun d hd => hqf d (by simp [hd])
  have hrq : Rd w a (q.flatMap fun d => d.map vU8) := by rw [List.flatMap_append] at hr; exact Rd.pre hr
  have hxl := hqe x (by simp)
  have hxf := hqf x (by simp)
  refine calls_of_sw (vs := [vInt (k : Int), .agg ((leaf).map vU8).toArray, vU64 i, vU64 n, .slice a (q.length + 1) c]) Tryd.func86 rfl Tryd.ntmps86 rfl (SW.begin ?_)
  refine sw_seq ?_
  refine sw_region ?_
  refine ow_new (acts_box rfl) rfl (fun b6 hb6 => ?_)
  refine ow_new (acts_alloc zD) rfl (fun b10 hb10 => ?_)
  refine ow_val (val_assign rfl) rfl ?_
  refine ow_nil (into ?_)
  refine sw_seq ?_
  refine sw_seq ?_
  refine sw_region ?_
  refine ow_val (val_move rfl) rfl ?_
  refine ow_val (val_eql_u64 rfl rfl) rfl ?_
  refine ow_nil (into ?_)
  refine sw_true rfl (decide_eq_true (by rw [hn1]; rfl)) ?_
  refine sw_seq ?_
  refine sw_region ?_
  refine ow_val (val_load_all 1 rfl rfl Tryd.isAgg41 Tryd.sizeOf41 (by show (List.map vU8 leaf).length = _; rw [List.length_map]; exact hll)) rfl ?_
  refine ow_val (val_move rfl) rfl ?_
  refine ow_val (val_len rfl Tryd.underlying22) rfl ?_
  refine ow_val ((val_eql_int rfl rfl).to (v' := .bool false) (congrArg Value.bool (decide_eq_false (by omega)))) rfl ?_
  refine ow_do_eq (does_store_all 0 rfl rfl rfl (one_u8s _) Tryd.sizeOf41 (by show (List.map vU8 leaf).length = _; rw [List.length_map]; exact hll) (by show (List.map vU8 zeros32).length = _; rw [List.length_map]; exact zeros32_len)) ?_
  refine ow_val (val_assign rfl) rfl ?_
  refine ow_nil (into ?_)
  refine sw_ret (fun w hm => ?_)
  try dsimp only [thenP, blockP, Nat.beq, cond]
  exact ret_cell_two 0 rfl rfl rfl hm rfl Tryd.isAgg41 Tryd.sizeOf41 (by show (List.map vU8 leaf).length = _; rw [List.length_map]; exact hll) ⟨by rw [upR, if_pos hn1] <;> rfl, hm.forgetAll⟩

theorem path_left (k : Nat) (h1 : 1 ≤ k) (h2 : k ≤ 32) (leaf : List UInt8) (hll : leaf.length = 32) (hlf : fm (k : Int) leaf = true) (i n : UInt64) (w : World) (hK : KW w) (a : Option Addr) (c : Nat) (q : List (List UInt8)) (x : List UInt8) (hqe : ∀ d ∈ q ++ [x], d.length = 32) (hqf : ∀ d ∈ q ++ [x], fm (k : Int) d = true) (hr : Rd w a ((q ++ [x]).flatMap fun d => d.map vU8)) (hc : q.length + 1 ≤ c) (hl : q.length + 1 < 9223372036854775808) (hn0 : n ≠ 0) (hn1 : ¬ n = 1) (hik : i < splitU n) (ih : ∀ (i n : UInt64) (w : World), n ≠ 0 → KW w → Rd w a ((q).flatMap fun d => d.map vU8) → Calls Tryd.prog 86 #[vInt (k : Int), .agg ((leaf).map vU8).toArray, vU64 i, vU64 n, .slice a (q.length) c] w fun e w' => ∃ v, e = .returned v ∧ v = .tuple #[.agg (((upR k leaf i n q.reverse).1).map vU8).toArray, .bool (upR k leaf i n q.reverse).2] ∧ Mem w [] [] w') : Calls Tryd.prog 86 #[vInt (k : Int), .agg ((leaf).map vU8).toArray, vU64 i, vU64 n, .slice a (q.length + 1) c] w fun e w' => ∃ v, e = .returned v ∧ v = .tuple #[.agg (((upR k leaf i n (x :: q.reverse)).1).map vU8).toArray, .bool (upR k leaf i n (x :: q.reverse)).2] ∧ Mem w [] [] w' := by
  have hq : ∀ d ∈ q, d.length = 32 := fun d hd => hqe d (by simp [hd])
  have hqfm : ∀ d ∈ q, fm (k : Int) d = true := fun d hd => hqf d (by simp [hd])
  have hrq : Rd w a (q.flatMap fun d => d.map vU8) := by rw [List.flatMap_append] at hr; exact Rd.pre hr
  have hxl := hqe x (by simp)
  have hxf := hqf x (by simp)
  have hn2 : 2 ≤ n.toNat := two_le hn0 hn1
  have hsl := splitN_lt hn2
  have hsp := splitN_pos n.toNat
  have hsn := splitU_nat hn2
  have hk0 : splitU n ≠ 0 := fun h => by rw [h] at hsn; have h9 : (0 : UInt64).toNat = 0 := rfl; omega
  have hnk0 : n - splitU n ≠ 0 := sub_ne hn2
  refine calls_of_sw (vs := [vInt (k : Int), .agg ((leaf).map vU8).toArray, vU64 i, vU64 n, .slice a (q.length + 1) c]) Tryd.func86 rfl Tryd.ntmps86 rfl (SW.begin ?_)
  refine sw_seq ?_
  refine sw_region ?_
  refine ow_new (acts_box rfl) rfl (fun b6 hb6 => ?_)
  refine ow_new (acts_alloc zD) rfl (fun b10 hb10 => ?_)
  refine ow_val (val_assign rfl) rfl ?_
  refine ow_nil (into ?_)
  refine sw_seq ?_
  refine sw_seq ?_
  refine sw_region ?_
  refine ow_val (val_move rfl) rfl ?_
  refine ow_val (val_eql_u64 rfl rfl) rfl ?_
  refine ow_nil (into ?_)
  refine sw_false rfl (decide_eq_false (fun h => hn1 (h.trans rfl))) ?_
  refine sw_skip (into ?_)
  refine sw_seq ?_
  refine sw_seq ?_
  refine sw_region ?_
  refine ow_val (val_move rfl) rfl ?_
  refine ow_val (val_len rfl Tryd.underlying22) rfl ?_
  refine ow_val (val_eql_int rfl rfl) rfl ?_
  refine ow_nil (into ?_)
  refine sw_false rfl (decide_eq_false (by omega)) ?_
  refine sw_skip (into ?_)
  refine sw_seq ?_
  refine sw_region ?_
  refine ow_val (val_move rfl) rfl ?_
  refine ow_call_pure (callsTo Tryd.func102 rfl (by kernel_rfl) rfl) rfl (fun w hm => rended_cons w a c q x hqe (hr.mem hm) hc hl) ?_
  refine ow_val (val_move rfl) rfl ?_
  refine ow_val (val_extract rfl rfl) rfl ?_
  refine ow_val (val_extract rfl rfl) rfl ?_
  refine ow_new (acts_alloc zD) rfl (fun b13 hb13 => ?_)
  refine ow_val (val_assign rfl) rfl ?_
  refine ow_do_eq (does_store_all 0 rfl rfl rfl (one_u8s _) Tryd.sizeOf41 (by show (List.map vU8 x).length = _; rw [List.length_map]; exact hxl) (by show (List.map vU8 zeros32).length = _; rw [List.length_map]; exact zeros32_len)) ?_
  refine ow_nil (into ?_)
  refine sw_seq ?_
  refine sw_region ?_
  refine ow_val (val_move rfl) rfl ?_
  refine ow_call_pure (callsTo Tryd.func103 rfl (by kernel_rfl) rfl) rfl (fun w hm => rsplit_any n hn2 w) ?_
  refine ow_val (val_assign rfl) rfl ?_
  refine ow_nil (into ?_)
  refine sw_seq ?_
  refine sw_seq ?_
  refine sw_region ?_
  refine ow_val (val_move rfl) rfl ?_
  refine ow_val (val_move rfl) rfl ?_
  refine ow_val (val_lss_u64 rfl rfl) rfl ?_
  refine ow_nil (into ?_)
  refine sw_true rfl (decide_eq_true hik) ?_
  refine sw_seq ?_
  refine sw_region ?_
  refine ow_val (val_move rfl) rfl ?_
  refine ow_val (val_load_all 2 rfl rfl Tryd.isAgg41 Tryd.sizeOf41 (by show (List.map vU8 leaf).length = _; rw [List.length_map]; exact hll)) rfl ?_
  refine ow_val (val_move rfl) rfl ?_
  refine ow_val (val_move rfl) rfl ?_
  refine ow_val (val_move rfl) rfl ?_
  refine ow_call_pure (callsTo Tryd.func86 rfl (by kernel_rfl) rfl) rfl (fun w hm => ih i (splitU n) w hk0 (hK.mem0 hm) (hrq.mem hm)) ?_
  refine ow_val (val_move rfl) rfl ?_
  refine ow_val (val_extract rfl rfl) rfl ?_
  refine ow_val (val_extract rfl rfl) rfl ?_
  refine ow_new (acts_alloc zD) rfl (fun b15 hb15 => ?_)
  refine ow_do_eq (does_store_all 0 rfl rfl rfl (one_u8s _) Tryd.sizeOf41 (by show (List.map vU8 ((upR k leaf i (splitU n) q.reverse).1)).length = _; rw [List.length_map]; exact (upR_len h2 hll _ _ _)) (by show (List.map vU8 zeros32).length = _; rw [List.length_map]; exact zeros32_len)) ?_
  refine ow_val (val_assign rfl) rfl ?_
  refine ow_nil (into ?_)
  refine sw_seq ?_
  refine sw_region ?_
  refine ow_val (val_move rfl) rfl ?_
  refine ow_val (val_load_all 0 rfl rfl Tryd.isAgg41 Tryd.sizeOf41 (by show (List.map vU8 ((upR k leaf i (splitU n) q.reverse).1)).length = _; rw [List.length_map]; exact (upR_len h2 hll _ _ _))) rfl ?_
  refine ow_val (val_load_all 1 rfl rfl Tryd.isAgg41 Tryd.sizeOf41 (by show (List.map vU8 x).length = _; rw [List.length_map]; exact hxl)) rfl ?_
  refine ow_call_pure (callsTo Tryd.func41 rfl (by kernel_rfl) rfl) rfl (fun w hm => krnd_any k h1 h2 ((upR k leaf i (splitU n) q.reverse).1) x (upR_len h2 hll _ _ _) hxl w) ?_
  refine ow_val (val_move rfl) rfl ?_
  refine ow_do_eq (does_store_all 2 rfl rfl rfl (one_u8s _) Tryd.sizeOf41 (by show (List.map vU8 (nd k ((upR k leaf i (splitU n) q.reverse).1) x)).length = _; rw [List.length_map]; exact (nd_len _ _ _ h2)) (by show (List.map vU8 zeros32).length = _; rw [List.length_map]; exact zeros32_len)) ?_
  refine ow_val (val_assign rfl) rfl ?_
  refine ow_nil (into ?_)
  refine sw_ret (fun w hm => ?_)
  try dsimp only [thenP, blockP, Nat.beq, cond]
  exact ret_cell_two 2 rfl rfl rfl hm rfl Tryd.isAgg41 Tryd.sizeOf41 (by show (List.map vU8 (nd k ((upR k leaf i (splitU n) q.reverse).1) x)).length = _; rw [List.length_map]; exact (nd_len _ _ _ h2)) ⟨by rw [upR, if_neg hn1, if_pos hik] <;> rfl, hm.forgetAll⟩

theorem path_right (k : Nat) (h1 : 1 ≤ k) (h2 : k ≤ 32) (leaf : List UInt8) (hll : leaf.length = 32) (hlf : fm (k : Int) leaf = true) (i n : UInt64) (w : World) (hK : KW w) (a : Option Addr) (c : Nat) (q : List (List UInt8)) (x : List UInt8) (hqe : ∀ d ∈ q ++ [x], d.length = 32) (hqf : ∀ d ∈ q ++ [x], fm (k : Int) d = true) (hr : Rd w a ((q ++ [x]).flatMap fun d => d.map vU8)) (hc : q.length + 1 ≤ c) (hl : q.length + 1 < 9223372036854775808) (hn0 : n ≠ 0) (hn1 : ¬ n = 1) (hik : ¬ i < splitU n) (ih : ∀ (i n : UInt64) (w : World), n ≠ 0 → KW w → Rd w a ((q).flatMap fun d => d.map vU8) → Calls Tryd.prog 86 #[vInt (k : Int), .agg ((leaf).map vU8).toArray, vU64 i, vU64 n, .slice a (q.length) c] w fun e w' => ∃ v, e = .returned v ∧ v = .tuple #[.agg (((upR k leaf i n q.reverse).1).map vU8).toArray, .bool (upR k leaf i n q.reverse).2] ∧ Mem w [] [] w') : Calls Tryd.prog 86 #[vInt (k : Int), .agg ((leaf).map vU8).toArray, vU64 i, vU64 n, .slice a (q.length + 1) c] w fun e w' => ∃ v, e = .returned v ∧ v = .tuple #[.agg (((upR k leaf i n (x :: q.reverse)).1).map vU8).toArray, .bool (upR k leaf i n (x :: q.reverse)).2] ∧ Mem w [] [] w' := by
  have hq : ∀ d ∈ q, d.length = 32 := fun d hd => hqe d (by simp [hd])
  have hqfm : ∀ d ∈ q, fm (k : Int) d = true := fun d hd => hqf d (by simp [hd])
  have hrq : Rd w a (q.flatMap fun d => d.map vU8) := by rw [List.flatMap_append] at hr; exact Rd.pre hr
  have hxl := hqe x (by simp)
  have hxf := hqf x (by simp)
  have hn2 : 2 ≤ n.toNat := two_le hn0 hn1
  have hsl := splitN_lt hn2
  have hsp := splitN_pos n.toNat
  have hsn := splitU_nat hn2
  have hk0 : splitU n ≠ 0 := fun h => by rw [h] at hsn; have h9 : (0 : UInt64).toNat = 0 := rfl; omega
  have hnk0 : n - splitU n ≠ 0 := sub_ne hn2
  refine calls_of_sw (vs := [vInt (k : Int), .agg ((leaf).map vU8).toArray, vU64 i, vU64 n, .slice a (q.length + 1) c]) Tryd.func86 rfl Tryd.ntmps86 rfl (SW.begin ?_)
  refine sw_seq ?_
  refine sw_region ?_
  refine ow_new (acts_box rfl) rfl (fun b6 hb6 => ?_)
  refine ow_new (acts_alloc zD) rfl (fun b10 hb10 => ?_)
  refine ow_val (val_assign rfl) rfl ?_
  refine ow_nil (into ?_)
  refine sw_seq ?_
  refine sw_seq ?_
  refine sw_region ?_
  refine ow_val (val_move rfl) rfl ?_
  refine ow_val (val_eql_u64 rfl rfl) rfl ?_
  refine ow_nil (into ?_)
  refine sw_false rfl (decide_eq_false (fun h => hn1 (h.trans rfl))) ?_
  refine sw_skip (into ?_)
  refine sw_seq ?_
  refine sw_seq ?_
  refine sw_region ?_
  refine ow_val (val_move rfl) rfl ?_
  refine ow_val (val_len rfl Tryd.underlying22) rfl ?_
  refine ow_val (val_eql_int rfl rfl) rfl ?_
  refine ow_nil (into ?_)
  refine sw_false rfl (decide_eq_false (by omega)) ?_
  refine sw_skip (into ?_)
  refine sw_seq ?_
  refine sw_region ?_
  refine ow_val (val_move rfl) rfl ?_
  refine ow_call_pure (callsTo Tryd.func102 rfl (by kernel_rfl) rfl) rfl (fun w hm => rended_cons w a c q x hqe (hr.mem hm) hc hl) ?_
  refine ow_val (val_move rfl) rfl ?_
  refine ow_val (val_extract rfl rfl) rfl ?_
  refine ow_val (val_extract rfl rfl) rfl ?_
  refine ow_new (acts_alloc zD) rfl (fun b13 hb13 => ?_)
  refine ow_val (val_assign rfl) rfl ?_
  refine ow_do_eq (does_store_all 0 rfl rfl rfl (one_u8s _) Tryd.sizeOf41 (by show (List.map vU8 x).length = _; rw [List.length_map]; exact hxl) (by show (List.map vU8 zeros32).length = _; rw [List.length_map]; exact zeros32_len)) ?_
  refine ow_nil (into ?_)
  refine sw_seq ?_
  refine sw_region ?_
  refine ow_val (val_move rfl) rfl ?_
  refine ow_call_pure (callsTo Tryd.func103 rfl (by kernel_rfl) rfl) rfl (fun w hm => rsplit_any n hn2 w) ?_
  refine ow_val (val_assign rfl) rfl ?_
  refine ow_nil (into ?_)
  refine sw_seq ?_
  refine sw_seq ?_
  refine sw_region ?_
  refine ow_val (val_move rfl) rfl ?_
  refine ow_val (val_move rfl) rfl ?_
  refine ow_val (val_lss_u64 rfl rfl) rfl ?_
  refine ow_nil (into ?_)
  refine sw_false rfl (decide_eq_false hik) ?_
  refine sw_skip (into ?_)
  refine sw_seq ?_
  refine sw_region ?_
  refine ow_val (val_move rfl) rfl ?_
  refine ow_val (val_load_all 2 rfl rfl Tryd.isAgg41 Tryd.sizeOf41 (by show (List.map vU8 leaf).length = _; rw [List.length_map]; exact hll)) rfl ?_
  refine ow_val (val_move rfl) rfl ?_
  refine ow_val (val_move rfl) rfl ?_
  refine ow_val (val_sub_u64 rfl rfl) rfl ?_
  refine ow_val (val_move rfl) rfl ?_
  refine ow_val (val_move rfl) rfl ?_
  refine ow_val (val_sub_u64 rfl rfl) rfl ?_
  refine ow_val (val_move rfl) rfl ?_
  refine ow_call_pure (callsTo Tryd.func86 rfl (by kernel_rfl) rfl) rfl (fun w hm => ih ((i - (splitU n))) ((n - (splitU n))) w hnk0 (hK.mem0 hm) (hrq.mem hm)) ?_
  refine ow_val (val_move rfl) rfl ?_
  refine ow_val (val_extract rfl rfl) rfl ?_
  refine ow_val (val_extract rfl rfl) rfl ?_
  refine ow_new (acts_alloc zD) rfl (fun b17 hb17 => ?_)
  refine ow_do_eq (does_store_all 0 rfl rfl rfl (one_u8s _) Tryd.sizeOf41 (by show (List.map vU8 ((upR k leaf ((i - (splitU n))) ((n - (splitU n))) q.reverse).1)).length = _; rw [List.length_map]; exact (upR_len h2 hll _ _ _)) (by show (List.map vU8 zeros32).length = _; rw [List.length_map]; exact zeros32_len)) ?_
  refine ow_val (val_assign rfl) rfl ?_
  refine ow_nil (into ?_)
  refine sw_seq ?_
  refine sw_region ?_
  refine ow_val (val_move rfl) rfl ?_
  refine ow_val (val_load_all 1 rfl rfl Tryd.isAgg41 Tryd.sizeOf41 (by show (List.map vU8 x).length = _; rw [List.length_map]; exact hxl)) rfl ?_
  refine ow_val (val_load_all 0 rfl rfl Tryd.isAgg41 Tryd.sizeOf41 (by show (List.map vU8 ((upR k leaf ((i - (splitU n))) ((n - (splitU n))) q.reverse).1)).length = _; rw [List.length_map]; exact (upR_len h2 hll _ _ _))) rfl ?_
  refine ow_call_pure (callsTo Tryd.func41 rfl (by kernel_rfl) rfl) rfl (fun w hm => krnd_any k h1 h2 x ((upR k leaf ((i - (splitU n))) ((n - (splitU n))) q.reverse).1) hxl (upR_len h2 hll _ _ _) w) ?_
  refine ow_val (val_move rfl) rfl ?_
  refine ow_do_eq (does_store_all 2 rfl rfl rfl (one_u8s _) Tryd.sizeOf41 (by show (List.map vU8 (nd k x ((upR k leaf ((i - (splitU n))) ((n - (splitU n))) q.reverse).1))).length = _; rw [List.length_map]; exact (nd_len _ _ _ h2)) (by show (List.map vU8 zeros32).length = _; rw [List.length_map]; exact zeros32_len)) ?_
  refine ow_val (val_assign rfl) rfl ?_
  refine ow_nil (into ?_)
  exact sw_ret (fun w hm => ret_cell_two 2 rfl rfl rfl hm rfl Tryd.isAgg41 Tryd.sizeOf41 (by show (List.map vU8 (nd k x ((upR k leaf ((i - (splitU n))) ((n - (splitU n))) q.reverse).1))).length = _; rw [List.length_map]; exact (nd_len _ _ _ h2)) ⟨by rw [upR, if_neg hn1, if_neg hik] <;> rfl, hm.forgetAll⟩)

theorem kpath_any (k : Nat) (h1 : 1 ≤ k) (h2 : k ≤ 32) (leaf : List UInt8) (hll : leaf.length = 32) (hlf : fm (k : Int) leaf = true) (a : Option Addr) (c : Nat) : ∀ (N : Nat) (ps : List (List UInt8)) (_ : ps.length = N) (_ : ∀ d ∈ ps, d.length = 32) (_ : ∀ d ∈ ps, fm (k : Int) d = true) (_ : ps.length ≤ c) (_ : ps.length < 9223372036854775808)
    (i n : UInt64) (w : World) (_ : n ≠ 0) (_ : KW w) (_ : Rd w a ((ps).flatMap fun d => d.map vU8)), Calls Tryd.prog 86 #[vInt (k : Int), .agg ((leaf).map vU8).toArray, vU64 i, vU64 n, .slice a (ps.length) c] w fun e w' => ∃ v, e = .returned v ∧ v = .tuple #[.agg (((upR k leaf i n ps.reverse).1).map vU8).toArray, .bool (upR k leaf i n ps.reverse).2] ∧ Mem w [] [] w'
  | 0, ps, hN, _, _, _, _, i, n, w, _, hK, hr => by
    obtain rfl := List.length_eq_zero_iff.1 hN
    by_cases hn1 : n = 1
    · exact path_nil1 k h1 h2 leaf hll hlf a c i n w hK hr hn1
    · exact path_nil0 k h1 h2 leaf hll hlf a c i n w hK hr hn1
  | N + 1, ps, hN, hpl, hpf, hc, hl, i, n, w, hn0, hK, hr => by
    obtain ⟨q, x, rfl⟩ : ∃ q x, ps = q ++ [x] := ⟨ps.dropLast, ps.getLast (fun h => by rw [h] at hN; cases hN), (List.dropLast_concat_getLast _).symm⟩
    rw [List.length_append, List.length_cons, List.length_nil] at hN hc hl
    rw [List.reverse_append, List.reverse_cons, List.reverse_nil, List.nil_append, List.singleton_append, List.length_append, List.length_cons, List.length_nil]
    have ih := fun i n w h0 hK hr => kpath_any k h1 h2 leaf hll hlf a c N q (by omega) (fun d hd => hpl d (by simp [hd])) (fun d hd => hpf d (by simp [hd])) (by omega) (by omega) i n w h0 hK hr
    by_cases hn1 : n = 1
    · exact path_one k h1 h2 leaf hll hlf i n w hK a c q x hpl hpf hr hc hl hn1
    · by_cases hik : i < splitU n
      · exact path_left k h1 h2 leaf hll hlf i n w hK a c q x hpl hpf hr hc hl hn0 hn1 hik ih
      · exact path_right k h1 h2 leaf hll hlf i n w hK a c q x hpl hpf hr hc hl hn0 hn1 hik ih

theorem two_nilw (k : Nat) (h1 : 1 ≤ k) (h2 : k ≤ 32) (old : List UInt8) (hll : old.length = 32) (hlf : fm (k : Int) old = true) (a : Option Addr) (c : Nat) (m' n : UInt64) (w : World) (hK : KW w) (hr : Rd w a (([] : List (List UInt8)).flatMap fun d => d.map vU8)) (hmn : m' = n) : Calls Tryd.prog 72 #[vInt (k : Int), vU64 m', vU64 n, .agg ((old).map vU8).toArray, .bool true, .slice a (0) c] w fun e w' => ∃ v, e = .returned v ∧ v = .tuple #[.agg (((twoR k old m' n true []).1.1).map vU8 ++ ((twoR k old m' n true []).1.2).map vU8).toArray, .bool (twoR k old m' n true []).2] ∧ Mem w [] [] w' := by
  refine calls_of_sw (vs := [vInt (k : Int), vU64 m', vU64 n, .agg ((old).map vU8).toArray, .bool true, .slice a (0) c]) Tryd.func72 rfl Tryd.ntmps72 rfl (SW.begin ?_)
  refine sw_seq ?_
  refine sw_region ?_
  refine ow_new (acts_box rfl) rfl (fun b9 hb9 => ?_)
  refine ow_new (acts_alloc zPair) rfl (fun b12 hb12 => ?_)
  refine ow_val (val_assign rfl) rfl ?_
  refine ow_nil (into ?_)
  refine sw_seq ?_
  refine sw_seq ?_
  refine sw_region ?_
  refine ow_val (val_move rfl) rfl ?_
  refine ow_val (val_move rfl) rfl ?_
  refine ow_val ((val_eql_u64 rfl rfl).to (v' := .bool true) (congrArg Value.bool (decide_eq_true hmn))) rfl ?_
  refine ow_val (val_move rfl) rfl ?_
  refine ow_guard_yes rfl rfl rfl ?_
  refine ow_val (val_move rfl) rfl ?_
  refine ow_val (val_pick_true rfl rfl) rfl ?_
  refine ow_nil (into ?_)
  refine sw_true rfl rfl ?_
  refine sw_seq ?_
  refine sw_region ?_
  refine ow_val (val_load_all 1 rfl rfl Tryd.isAgg41 Tryd.sizeOf41 (by show (List.map vU8 old).length = _; rw [List.length_map]; exact hll)) rfl ?_
  refine ow_val (val_load_all 1 rfl rfl Tryd.isAgg41 Tryd.sizeOf41 (by show (List.map vU8 old).length = _; rw [List.length_map]; exact hll)) rfl ?_
  refine ow_val (val_build' (cs := old.map vU8 ++ old.map vU8) rfl (built_pair (by kernel_rfl) old old hll hll)) rfl ?_
  refine ow_val (val_move rfl) rfl ?_
  refine ow_val (val_len rfl Tryd.underlying22) rfl ?_
  refine ow_val ((val_eql_int rfl rfl).to (v' := .bool true) (congrArg Value.bool (decide_eq_true rfl))) rfl ?_
  refine ow_do_eq (does_store_all 0 rfl rfl rfl (one_pair _ _) Tryd.sizeOf100 (pair_len hll hll) rfl) ?_
  refine ow_val (val_assign rfl) rfl ?_
  refine ow_nil (into ?_)
  refine sw_ret (fun w hm => ?_)
  try dsimp only [thenP, blockP, Nat.beq, cond]
  exact ret_cell_two 0 rfl rfl rfl hm rfl Tryd.isAgg100 Tryd.sizeOf100 (pair_len hll hll) ⟨by rw [twoR, if_pos ⟨hmn, rfl⟩] <;> rfl, hm.forgetAll⟩

theorem two_nilf (k : Nat) (h1 : 1 ≤ k) (h2 : k ≤ 32) (old : List UInt8) (hll : old.length = 32) (hlf : fm (k : Int) old = true) (a : Option Addr) (c : Nat) (m' n : UInt64) (w : World) (hK : KW w) (hr : Rd w a (([] : List (List UInt8)).flatMap fun d => d.map vU8)) (hmn : m' = n) : Calls Tryd.prog 72 #[vInt (k : Int), vU64 m', vU64 n, .agg ((old).map vU8).toArray, .bool false, .slice a (0) c] w fun e w' => ∃ v, e = .returned v ∧ v = .tuple #[.agg (((twoR k old m' n false []).1.1).map vU8 ++ ((twoR k old m' n false []).1.2).map vU8).toArray, .bool (twoR k old m' n false []).2] ∧ Mem w [] [] w' := by
  refine calls_of_sw (vs := [vInt (k : Int), vU64 m', vU64 n, .agg ((old).map vU8).toArray, .bool false, .slice a (0) c]) Tryd.func72 rfl Tryd.ntmps72 rfl (SW.begin ?_)
  refine sw_seq ?_
  refine sw_region ?_
  refine ow_new (acts_box rfl) rfl (fun b9 hb9 => ?_)
  refine ow_new (acts_alloc zPair) rfl (fun b12 hb12 => ?_)
  refine ow_val (val_assign rfl) rfl ?_
  refine ow_nil (into ?_)
  refine sw_seq ?_
  refine sw_seq ?_
  refine sw_region ?_
  refine ow_val (val_move rfl) rfl ?_
  refine ow_val (val_move rfl) rfl ?_
  refine ow_val ((val_eql_u64 rfl rfl).to (v' := .bool true) (congrArg Value.bool (decide_eq_true hmn))) rfl ?_
  refine ow_val (val_move rfl) rfl ?_
  refine ow_guard_yes rfl rfl rfl ?_
  refine ow_val (val_move rfl) rfl ?_
  refine ow_val (val_pick_true rfl rfl) rfl ?_
  refine ow_nil (into ?_)
  refine sw_false rfl rfl ?_
  refine sw_skip (into ?_)
  refine sw_seq ?_
  refine sw_region ?_
  refine ow_val (val_move rfl) rfl ?_
  refine ow_call_pure (v := .tuple #[.slice none 0 0, .agg ((zeros32).map vU8).toArray, .bool false]) (callsTo Tryd.func90 rfl (by kernel_rfl) rfl) rfl (fun w hm => ended_nil w a c) ?_
  refine ow_val (val_move rfl) rfl ?_
  refine ow_val (val_extract rfl rfl) rfl ?_
  refine ow_val (val_extract rfl rfl) rfl ?_
  refine ow_val (val_extract rfl rfl) rfl ?_
  refine ow_new (acts_alloc zD) rfl (fun b15 hb15 => ?_)
  refine ow_val (val_assign rfl) rfl ?_
  refine ow_do_eq (does_store_all 0 rfl rfl rfl (one_u8s _) Tryd.sizeOf41 (by show (List.map vU8 zeros32).length = _; rw [List.length_map]; exact zeros32_len) (by show (List.map vU8 zeros32).length = _; rw [List.length_map]; exact zeros32_len)) ?_
  refine ow_val (val_assign rfl) rfl ?_
  refine ow_nil (into ?_)
  refine sw_seq ?_
  refine sw_seq ?_
  refine sw_region ?_
  refine ow_val (val_move rfl) rfl ?_
  refine ow_val (val_not rfl) rfl ?_
  refine ow_nil (into ?_)
  refine sw_true rfl rfl ?_
  refine sw_seq ?_
  refine sw_region ?_
  refine ow_val (val_build' (cs := zeros32.map vU8 ++ zeros32.map vU8) rfl (by kernel_rfl)) rfl ?_
  refine ow_do_eq (does_store_all 1 rfl rfl rfl (one_pair _ _) Tryd.sizeOf100 (pair_len zeros32_len zeros32_len) rfl) ?_
  refine ow_val (val_assign rfl) rfl ?_
  refine ow_nil (into ?_)
  refine sw_ret (fun w hm => ?_)
  try dsimp only [thenP, blockP, Nat.beq, cond]
  exact ret_cell_two 1 rfl rfl rfl hm rfl Tryd.isAgg100 Tryd.sizeOf100 (pair_len zeros32_len zeros32_len) ⟨by rw [twoR, if_neg (fun h => by cases h.2)] <;> rfl, hm.forgetAll⟩

theorem two_nil0 (k : Nat) (h1 : 1 ≤ k) (h2 : k ≤ 32) (old : List UInt8) (hll : old.length = 32) (hlf : fm (k : Int) old = true) (a : Option Addr) (c : Nat) (m' n : UInt64) (w : World) (hK : KW w) (hr : Rd w a (([] : List (List UInt8)).flatMap fun d => d.map vU8)) (wh : Bool) (hmn : ¬ m' = n) : Calls Tryd.prog 72 #[vInt (k : Int), vU64 m', vU64 n, .agg ((old).map vU8).toArray, .bool wh, .slice a (0) c] w fun e w' => ∃ v, e = .returned v ∧ v = .tuple #[.agg (((twoR k old m' n wh []).1.1).map vU8 ++ ((twoR k old m' n wh []).1.2).map vU8).toArray, .bool (twoR k old m' n wh []).2] ∧ Mem w [] [] w' := by
  refine calls_of_sw (vs := [vInt (k : Int), vU64 m', vU64 n, .agg ((old).map vU8).toArray, .bool wh, .slice a (0) c]) Tryd.func72 rfl Tryd.ntmps72 rfl (SW.begin ?_)
  refine sw_seq ?_
  refine sw_region ?_
  refine ow_new (acts_box rfl) rfl (fun b9 hb9 => ?_)
  refine ow_new (acts_alloc zPair) rfl (fun b12 hb12 => ?_)
  refine ow_val (val_assign rfl) rfl ?_
  refine ow_nil (into ?_)
  refine sw_seq ?_
  refine sw_seq ?_
  refine sw_region ?_
  refine ow_val (val_move rfl) rfl ?_
  refine ow_val (val_move rfl) rfl ?_
  refine ow_val ((val_eql_u64 rfl rfl).to (v' := .bool false) (congrArg Value.bool (decide_eq_false hmn))) rfl ?_
  refine ow_val (val_move rfl) rfl ?_
  first | refine ow_guard_no rfl rfl rfl rfl rfl ?_ | refine ow_guard_none rfl rfl rfl rfl rfl ?_
  refine ow_val (val_pick_false rfl rfl) rfl ?_
  refine ow_nil (into ?_)
  refine sw_false rfl rfl ?_
  refine sw_skip (into ?_)
  refine sw_seq ?_
  refine sw_region ?_
  refine ow_val (val_move rfl) rfl ?_
  refine ow_call_pure (v := .tuple #[.slice none 0 0, .agg ((zeros32).map vU8).toArray, .bool false]) (callsTo Tryd.func90 rfl (by kernel_rfl) rfl) rfl (fun w hm => ended_nil w a c) ?_
  refine ow_val (val_move rfl) rfl ?_
  refine ow_val (val_extract rfl rfl) rfl ?_
  refine ow_val (val_extract rfl rfl) rfl ?_
  refine ow_val (val_extract rfl rfl) rfl ?_
  refine ow_new (acts_alloc zD) rfl (fun b15 hb15 => ?_)
  refine ow_val (val_assign rfl) rfl ?_
  refine ow_do_eq (does_store_all 0 rfl rfl rfl (one_u8s _) Tryd.sizeOf41 (by show (List.map vU8 zeros32).length = _; rw [List.length_map]; exact zeros32_len) (by show (List.map vU8 zeros32).length = _; rw [List.length_map]; exact zeros32_len)) ?_
  refine ow_val (val_assign rfl) rfl ?_
  refine ow_nil (into ?_)
  refine sw_seq ?_
  refine sw_seq ?_
  refine sw_region ?_
  refine ow_val (val_move rfl) rfl ?_
  refine ow_val (val_not rfl) rfl ?_
  refine ow_nil (into ?_)
  refine sw_true rfl rfl ?_
  refine sw_seq ?_
  refine sw_region ?_
  refine ow_val (val_build' (cs := zeros32.map vU8 ++ zeros32.map vU8) rfl (by kernel_rfl)) rfl ?_
  refine ow_do_eq (does_store_all 1 rfl rfl rfl (one_pair _ _) Tryd.sizeOf100 (pair_len zeros32_len zeros32_len) rfl) ?_
  refine ow_val (val_assign rfl) rfl ?_
  refine ow_nil (into ?_)
  refine sw_ret (fun w hm => ?_)
  try dsimp only [thenP, blockP, Nat.beq, cond]
  exact ret_cell_two 1 rfl rfl rfl hm rfl Tryd.isAgg100 Tryd.sizeOf100 (pair_len zeros32_len zeros32_len) ⟨by rw [twoR, if_neg (fun h => hmn h.1)] <;> rfl, hm.forgetAll⟩

theorem two_whole (k : Nat) (h1 : 1 ≤ k) (h2 : k ≤ 32) (old : List UInt8) (hll : old.length = 32) (hlf : fm (k : Int) old = true) (m' n : UInt64) (w : World) (hK : KW w) (a : Option Addr) (c : Nat) (q : List (List UInt8)) (x : List UInt8) (hqe : ∀ d ∈ q ++ [x], d.length = 32) (hqf : ∀ d ∈ q ++ [x], fm (k : Int) d = true) (hr : Rd w a ((q ++ [x]).flatMap fun d => d.map vU8)) (hc : q.length + 1 ≤ c) (hl : q.length + 1 < 9223372036854775808) (hmn : m' = n) : Calls Tryd.prog 72 #[vInt (k : Int), vU64 m', vU64 n, .agg ((old).map vU8).toArray, .bool true, .slice a (q.length + 1) c] w fun e w' => ∃ v, e = .returned v ∧ v = .tuple #[.agg (((twoR k old m' n true (x :: q.reverse)).1.1).map vU8 ++ ((twoR k old m' n true (x :: q.reverse)).1.2).map vU8).toArray, .bool (twoR k old m' n true (x :: q.reverse)).2] ∧ Mem w [] [] w' := by
  have hq : ∀ d ∈ q, d.length = 32 := fun d hd => hqe d (by simp [hd])
  have hqfm : ∀ d ∈ q, fm (k : Int) d = true := fun d hd => hqf d (by simp [hd])
  have hrq : Rd w a (q.flatMap fun d => d.map vU8) := by rw [List.flatMap_append] at hr; exact Rd.pre hr
  have hxl := hqe x (by simp)
  have hxf := hqf x (by simp)
  refine calls_of_sw (vs := [vInt (k : Int), vU64 m', vU64 n, .agg ((old).map vU8).toArray, .bool true, .slice a (q.length + 1) c]) Tryd.func72 rfl Tryd.ntmps72 rfl (SW.begin ?_)
  refine sw_seq ?_
  refine sw_region ?_
  refine ow_new (acts_box rfl) rfl (fun b9 hb9 => ?_)
  refine ow_new (acts_alloc zPair) rfl (fun b12 hb12 => ?_)
  refine ow_val (val_assign rfl) rfl ?_
  refine ow_nil (into ?_)
  refine sw_seq ?_
  refine sw_seq ?_
  refine sw_region ?_
  refine ow_val (val_move rfl) rfl ?_
  refine ow_val (val_move rfl) rfl ?_
  refine ow_val ((val_eql_u64 rfl rfl).to (v' := .bool true) (congrArg Value.bool (decide_eq_true hmn))) rfl ?_
  refine ow_val (val_move rfl) rfl ?_
  refine ow_guard_yes rfl rfl rfl ?_
  refine ow_val (val_move rfl) rfl ?_
  refine ow_val (val_pick_true rfl rfl) rfl ?_
  refine ow_nil (into ?_)
  refine sw_true rfl rfl ?_
  refine sw_seq ?_
  refine sw_region ?_
  refine ow_val (val_load_all 1 rfl rfl Tryd.isAgg41 Tryd.sizeOf41 (by show (List.map vU8 old).length = _; rw [List.length_map]; exact hll)) rfl ?_
  refine ow_val (val_load_all 1 rfl rfl Tryd.isAgg41 Tryd.sizeOf41 (by show (List.map vU8 old).length = _; rw [List.length_map]; exact hll)) rfl ?_
  refine ow_val (val_build' (cs := old.map vU8 ++ old.map vU8) rfl (built_pair (by kernel_rfl) old old hll hll)) rfl ?_
  refine ow_val (val_move rfl) rfl ?_
  refine ow_val (val_len rfl Tryd.underlying22) rfl ?_
  refine ow_val ((val_eql_int rfl rfl).to (v' := .bool false) (congrArg Value.bool (decide_eq_false (by omega)))) rfl ?_
  refine ow_do_eq (does_store_all 0 rfl rfl rfl (one_pair _ _) Tryd.sizeOf100 (pair_len hll hll) rfl) ?_
  refine ow_val (val_assign rfl) rfl ?_
  refine ow_nil (into ?_)
  refine sw_ret (fun w hm => ?_)
  try dsimp only [thenP, blockP, Nat.beq, cond]
  exact ret_cell_two 0 rfl rfl rfl hm rfl Tryd.isAgg100 Tryd.sizeOf100 (pair_len hll hll) ⟨by rw [twoR, if_pos ⟨hmn, rfl⟩] <;> rfl, hm.forgetAll⟩

theorem two_end1 (k : Nat) (h1 : 1 ≤ k) (h2 : k ≤ 32) (old : List UInt8) (hll : old.length = 32) (hlf : fm (k : Int) old = true) (m' n : UInt64) (w : World) (hK : KW w) (a : Option Addr) (c : Nat) (q : List (List UInt8)) (x : List UInt8) (hqe : ∀ d ∈ q ++ [x], d.length = 32) (hqf : ∀ d ∈ q ++ [x], fm (k : Int) d = true) (hr : Rd w a ((q ++ [x]).flatMap fun d => d.map vU8)) (hc : q.length + 1 ≤ c) (hl : q.length + 1 < 9223372036854775808) (hmn : m' = n) (hqn : q.length = 0) : Calls Tryd.prog 72 #[vInt (k : Int), vU64 m', vU64 n, .agg ((old).map vU8).toArray, .bool false, .slice a (q.length + 1) c] w fun e w' => ∃ v, e = .returned v ∧ v = .tuple #[.agg (((twoR k old m' n false (x :: q.reverse)).1.1).map vU8 ++ ((twoR k old m' n false (x :: q.reverse)).1.2).map vU8).toArray, .bool (twoR k old m' n false (x :: q.reverse)).2] ∧ Mem w [] [] w' := by
  have hq : ∀ d ∈ q, d.length = 32 := fun d hd => hqe d (by simp [hd])
  have hqfm : ∀ d ∈ q, fm (k : Int) d = true := fun d hd => hqf d (by simp [hd])
  have hrq : Rd w a (q.flatMap fun d => d.map vU8) := by rw [List.flatMap_append] at hr; exact Rd.pre hr
  have hxl := hqe x (by simp)
  have hxf := hqf x (by simp)
  have hqr : q.reverse.isEmpty = true := by rw [List.length_eq_zero_iff.1 hqn]; rfl
  refine calls_of_sw (vs := [vInt (k : Int), vU64 m', vU64 n, .agg ((old).map vU8).toArray, .bool false, .slice a (q.length + 1) c]) Tryd.func72 rfl Tryd.ntmps72 rfl (SW.begin ?_)
  refine sw_seq ?_
  refine sw_region ?_
  refine ow_new (acts_box rfl) rfl (fun b9 hb9 => ?_)
  refine ow_new (acts_alloc zPair) rfl (fun b12 hb12 => ?_)
  refine ow_val (val_assign rfl) rfl ?_
  refine ow_nil (into ?_)
  refine sw_seq ?_
  refine sw_seq ?_
  refine sw_region ?_
  refine ow_val (val_move rfl) rfl ?_
  refine ow_val (val_move rfl) rfl ?_
  refine ow_val ((val_eql_u64 rfl rfl).to (v' := .bool true) (congrArg Value.bool (decide_eq_true hmn))) rfl ?_
  refine ow_val (val_move rfl) rfl ?_
  refine ow_guard_yes rfl rfl rfl ?_
  refine ow_val (val_move rfl) rfl ?_
  refine ow_val (val_pick_true rfl rfl) rfl ?_
  refine ow_nil (into ?_)
  refine sw_false rfl rfl ?_
  refine sw_skip (into ?_)
  refine sw_seq ?_
  refine sw_region ?_
  refine ow_val (val_move rfl) rfl ?_
  refine ow_call_pure (callsTo Tryd.func90 rfl (by kernel_rfl) rfl) rfl (fun w hm => ended_cons w a c q x hqe (hr.mem hm) hc hl) ?_
  refine ow_val (val_move rfl) rfl ?_
  refine ow_val (val_extract rfl rfl) rfl ?_
  refine ow_val (val_extract rfl rfl) rfl ?_
  refine ow_val (val_extract rfl rfl) rfl ?_
  refine ow_new (acts_alloc zD) rfl (fun b15 hb15 => ?_)
  refine ow_val (val_assign rfl) rfl ?_
  refine ow_do_eq (does_store_all 0 rfl rfl rfl (one_u8s _) Tryd.sizeOf41 (by show (List.map vU8 x).length = _; rw [List.length_map]; exact hxl) (by show (List.map vU8 zeros32).length = _; rw [List.length_map]; exact zeros32_len)) ?_
  refine ow_val (val_assign rfl) rfl ?_
  refine ow_nil (into ?_)
  refine sw_seq ?_
  refine sw_seq ?_
  refine sw_region ?_
  refine ow_val (val_move rfl) rfl ?_
  refine ow_val (val_not rfl) rfl ?_
  refine ow_nil (into ?_)
  refine sw_false rfl rfl ?_
  refine sw_skip (into ?_)
  refine sw_seq ?_
  refine sw_seq ?_
  refine sw_region ?_
  refine ow_val (val_move rfl) rfl ?_
  refine ow_val (val_move rfl) rfl ?_
  refine ow_val ((val_eql_u64 rfl rfl).to (v' := .bool true) (congrArg Value.bool (decide_eq_true hmn))) rfl ?_
  refine ow_nil (into ?_)
  refine sw_true rfl rfl ?_
  refine sw_seq ?_
  refine sw_region ?_
  refine ow_val (val_load_all 0 rfl rfl Tryd.isAgg41 Tryd.sizeOf41 (by show (List.map vU8 x).length = _; rw [List.length_map]; exact hxl)) rfl ?_
  refine ow_val (val_load_all 0 rfl rfl Tryd.isAgg41 Tryd.sizeOf41 (by show (List.map vU8 x).length = _; rw [List.length_map]; exact hxl)) rfl ?_
  refine ow_val (val_build' (cs := x.map vU8 ++ x.map vU8) rfl (built_pair (by kernel_rfl) x x hxl hxl)) rfl ?_
  refine ow_val (val_move rfl) rfl ?_
  refine ow_val (val_len rfl Tryd.underlying22) rfl ?_
  refine ow_val ((val_eql_int rfl rfl).to (v' := .bool true) (congrArg Value.bool (decide_eq_true (by omega)))) rfl ?_
  refine ow_do_eq (does_store_all 1 rfl rfl rfl (one_pair _ _) Tryd.sizeOf100 (pair_len hxl hxl) rfl) ?_
  refine ow_val (val_assign rfl) rfl ?_
  refine ow_nil (into ?_)
  refine sw_ret (fun w hm => ?_)
  try dsimp only [thenP, blockP, Nat.beq, cond]
  exact ret_cell_two 1 rfl rfl rfl hm rfl Tryd.isAgg100 Tryd.sizeOf100 (pair_len hxl hxl) ⟨by rw [twoR, if_neg (fun h => by cases h.2), if_pos hmn, hqr] <;> rfl, hm.forgetAll⟩

theorem two_end2 (k : Nat) (h1 : 1 ≤ k) (h2 : k ≤ 32) (old : List UInt8) (hll : old.length = 32) (hlf : fm (k : Int) old = true) (m' n : UInt64) (w : World) (hK : KW w) (a : Option Addr) (c : Nat) (q : List (List UInt8)) (x : List UInt8) (hqe : ∀ d ∈ q ++ [x], d.length = 32) (hqf : ∀ d ∈ q ++ [x], fm (k : Int) d = true) (hr : Rd w a ((q ++ [x]).flatMap fun d => d.map vU8)) (hc : q.length + 1 ≤ c) (hl : q.length + 1 < 9223372036854775808) (hmn : m' = n) (hqn : ¬ q.length = 0) : Calls Tryd.prog 72 #[vInt (k : Int), vU64 m', vU64 n, .agg ((old).map vU8).toArray, .bool false, .slice a (q.length + 1) c] w fun e w' => ∃ v, e = .returned v ∧ v = .tuple #[.agg (((twoR k old m' n false (x :: q.reverse)).1.1).map vU8 ++ ((twoR k old m' n false (x :: q.reverse)).1.2).map vU8).toArray, .bool (twoR k old m' n false (x :: q.reverse)).2] ∧ Mem w [] [] w' := by
  have hq : ∀ d ∈ q, d.length = 32 := fun d hd => hqe d (by simp [hd])
  have hqfm : ∀ d ∈ q, fm (k : Int) d = true := fun d hd => hqf d (by simp [hd])
  have hrq : Rd w a (q.flatMap fun d => d.map vU8) := by rw [List.flatMap_append] at hr; exact Rd.pre hr
  have hxl := hqe x (by simp)
  have hxf := hqf x (by simp)
  have hqr : q.reverse.isEmpty = false := by cases hq9 : q.reverse.isEmpty with
    | false => rfl
    | true => exact absurd (by rw [← List.length_reverse, List.isEmpty_iff.1 hq9]; rfl) hqn
  refine calls_of_sw (vs := [vInt (k : Int), vU64 m', vU64 n, .agg ((old).map vU8).toArray, .bool false, .slice a (q.length + 1) c]) Tryd.func72 rfl Tryd.ntmps72 rfl (SW.begin ?_)
  refine sw_seq ?_
  refine sw_region ?_
  refine ow_new (acts_box rfl) rfl (fun b9 hb9 => ?_)
  refine ow_new (acts_alloc zPair) rfl (fun b12 hb12 => ?_)
  refine ow_val (val_assign rfl) rfl ?_
  refine ow_nil (into ?_)
  refine sw_seq ?_
  refine sw_seq ?_
  refine sw_region ?_
  refine ow_val (val_move rfl) rfl ?_
  refine ow_val (val_move rfl) rfl ?_
  refine ow_val ((val_eql_u64 rfl rfl).to (v' := .bool true) (congrArg Value.bool (decide_eq_true hmn))) rfl ?_
  refine ow_val (val_move rfl) rfl ?_
  refine ow_guard_yes rfl rfl rfl ?_
  refine ow_val (val_move rfl) rfl ?_
  refine ow_val (val_pick_true rfl rfl) rfl ?_
  refine ow_nil (into ?_)
  refine sw_false rfl rfl ?_
  refine sw_skip (into ?_)
  refine sw_seq ?_
  refine sw_region ?_
  refine ow_val (val_move rfl) rfl ?_
  refine ow_call_pure (callsTo Tryd.func90 rfl (by kernel_rfl) rfl) rfl (fun w hm => ended_cons w a c q x hqe (hr.mem hm) hc hl) ?_
  refine ow_val (val_move rfl) rfl ?_
  refine ow_val (val_extract rfl rfl) rfl ?_
  refine ow_val (val_extract rfl rfl) rfl ?_
  refine ow_val (val_extract rfl rfl) rfl ?_
  refine ow_new (acts_alloc zD) rfl (fun b15 hb15 => ?_)
  refine ow_val (val_assign rfl) rfl ?_
  refine ow_do_eq (does_store_all 0 rfl rfl rfl (one_u8s _) Tryd.sizeOf41 (by show (List.map vU8 x).length = _; rw [List.length_map]; exact hxl) (by show (List.map vU8 zeros32).length = _; rw [List.length_map]; exact zeros32_len)) ?_
  refine ow_val (val_assign rfl) rfl ?_
  refine ow_nil (into ?_)
  refine sw_seq ?_
  refine sw_seq ?_
  refine sw_region ?_
  refine ow_val (val_move rfl) rfl ?_
  refine ow_val (val_not rfl) rfl ?_
  refine ow_nil (into ?_)
  refine sw_false rfl rfl ?_
  refine sw_skip (into ?_)
  refine sw_seq ?_
  refine sw_seq ?_
  refine sw_region ?_
  refine ow_val (val_move rfl) rfl ?_
  refine ow_val (val_move rfl) rfl ?_
  refine ow_val ((val_eql_u64 rfl rfl).to (v' := .bool true) (congrArg Value.bool (decide_eq_true hmn))) rfl ?_
  refine ow_nil (into ?_)
  refine sw_true rfl rfl ?_
  refine sw_seq ?_
  refine sw_region ?_
  refine ow_val (val_load_all 0 rfl rfl Tryd.isAgg41 Tryd.sizeOf41 (by show (List.map vU8 x).length = _; rw [List.length_map]; exact hxl)) rfl ?_
  refine ow_val (val_load_all 0 rfl rfl Tryd.isAgg41 Tryd.sizeOf41 (by show (List.map vU8 x).length = _; rw [List.length_map]; exact hxl)) rfl ?_
  refine ow_val (val_build' (cs := x.map vU8 ++ x.map vU8) rfl (built_pair (by kernel_rfl) x x hxl hxl)) rfl ?_
  refine ow_val (val_move rfl) rfl ?_
  refine ow_val (val_len rfl Tryd.underlying22) rfl ?_
  refine ow_val ((val_eql_int rfl rfl).to (v' := .bool false) (congrArg Value.bool (decide_eq_false (by omega)))) rfl ?_
  refine ow_do_eq (does_store_all 1 rfl rfl rfl (one_pair _ _) Tryd.sizeOf100 (pair_len hxl hxl) rfl) ?_
  refine ow_val (val_assign rfl) rfl ?_
  refine ow_nil (into ?_)
  refine sw_ret (fun w hm => ?_)
  try dsimp only [thenP, blockP, Nat.beq, cond]
  exact ret_cell_two 1 rfl rfl rfl hm rfl Tryd.isAgg100 Tryd.sizeOf100 (pair_len hxl hxl) ⟨by rw [twoR, if_neg (fun h => by cases h.2), if_pos hmn, hqr] <;> rfl, hm.forgetAll⟩

theorem two_left (k : Nat) (h1 : 1 ≤ k) (h2 : k ≤ 32) (old : List UInt8) (hll : old.length = 32) (hlf : fm (k : Int) old = true) (m' n : UInt64) (w : World) (hK : KW w) (a : Option Addr) (c : Nat) (q : List (List UInt8)) (x : List UInt8) (hqe : ∀ d ∈ q ++ [x], d.length = 32) (hqf : ∀ d ∈ q ++ [x], fm (k : Int) d = true) (hr : Rd w a ((q ++ [x]).flatMap fun d => d.map vU8)) (hc : q.length + 1 ≤ c) (hl : q.length + 1 < 9223372036854775808) (wh : Bool) (hm0 : m' ≠ 0) (hle : m' ≤ n) (hmn : ¬ m' = n) (hmk : m' ≤ splitU n) (ih : ∀ (m' n : UInt64) (wh : Bool) (w : World), m' ≠ 0 → n ≠ 0 → m' ≤ n → KW w → Rd w a ((q).flatMap fun d => d.map vU8) → Calls Tryd.prog 72 #[vInt (k : Int), vU64 m', vU64 n, .agg ((old).map vU8).toArray, .bool wh, .slice a (q.length) c] w fun e w' => ∃ v, e = .returned v ∧ v = .tuple #[.agg (((twoR k old m' n wh q.reverse).1.1).map vU8 ++ ((twoR k old m' n wh q.reverse).1.2).map vU8).toArray, .bool (twoR k old m' n wh q.reverse).2] ∧ Mem w [] [] w') : Calls Tryd.prog 72 #[vInt (k : Int), vU64 m', vU64 n, .agg ((old).map vU8).toArray, .bool wh, .slice a (q.length + 1) c] w fun e w' => ∃ v, e = .returned v ∧ v = .tuple #[.agg (((twoR k old m' n wh (x :: q.reverse)).1.1).map vU8 ++ ((twoR k old m' n wh (x :: q.reverse)).1.2).map vU8).toArray, .bool (twoR k old m' n wh (x :: q.reverse)).2] ∧ Mem w [] [] w' := by
  have hq : ∀ d ∈ q, d.length = 32 := fun d hd => hqe d (by simp [hd])
  have hqfm : ∀ d ∈ q, fm (k : Int) d = true := fun d hd => hqf d (by simp [hd])
  have hrq : Rd w a (q.flatMap fun d => d.map vU8) := by rw [List.flatMap_append] at hr; exact Rd.pre hr
  have hxl := hqe x (by simp)
  have hxf := hqf x (by simp)
  have hmn' := UInt64.le_iff_toNat_le.1 hle
  have hmn2 : m'.toNat ≠ n.toNat := fun h => hmn (UInt64.toNat.inj h)
  have hm0' : m'.toNat ≠ 0 := fun h => hm0 (UInt64.toNat.inj h)
  have hn2 : 2 ≤ n.toNat := by omega
  have hsl := splitN_lt hn2
  have hsp := splitN_pos n.toNat
  have hsn := splitU_nat hn2
  have hk0 : splitU n ≠ 0 := fun h => by rw [h] at hsn; have h9 : (0 : UInt64).toNat = 0 := rfl; omega
  have hnk0 : n - splitU n ≠ 0 := sub_ne hn2
  have hmk0 : m' ≠ 0 := hm0
  have hmk1 : m' ≤ splitU n := hmk
  refine calls_of_sw (vs := [vInt (k : Int), vU64 m', vU64 n, .agg ((old).map vU8).toArray, .bool wh, .slice a (q.length + 1) c]) Tryd.func72 rfl Tryd.ntmps72 rfl (SW.begin ?_)
  refine sw_seq ?_
  refine sw_region ?_
  refine ow_new (acts_box rfl) rfl (fun b9 hb9 => ?_)
  refine ow_new (acts_alloc zPair) rfl (fun b12 hb12 => ?_)
  refine ow_val (val_assign rfl) rfl ?_
  refine ow_nil (into ?_)
  refine sw_seq ?_
  refine sw_seq ?_
  refine sw_region ?_
  refine ow_val (val_move rfl) rfl ?_
  refine ow_val (val_move rfl) rfl ?_
  refine ow_val ((val_eql_u64 rfl rfl).to (v' := .bool false) (congrArg Value.bool (decide_eq_false hmn))) rfl ?_
  refine ow_val (val_move rfl) rfl ?_
  first | refine ow_guard_no rfl rfl rfl rfl rfl ?_ | refine ow_guard_none rfl rfl rfl rfl rfl ?_
  refine ow_val (val_pick_false rfl rfl) rfl ?_
  refine ow_nil (into ?_)
  refine sw_false rfl rfl ?_
  refine sw_skip (into ?_)
  refine sw_seq ?_
  refine sw_region ?_
  refine ow_val (val_move rfl) rfl ?_
  refine ow_call_pure (callsTo Tryd.func90 rfl (by kernel_rfl) rfl) rfl (fun w hm => ended_cons w a c q x hqe (hr.mem hm) hc hl) ?_
  refine ow_val (val_move rfl) rfl ?_
  refine ow_val (val_extract rfl rfl) rfl ?_
  refine ow_val (val_extract rfl rfl) rfl ?_
  refine ow_val (val_extract rfl rfl) rfl ?_
  refine ow_new (acts_alloc zD) rfl (fun b15 hb15 => ?_)
  refine ow_val (val_assign rfl) rfl ?_
  refine ow_do_eq (does_store_all 0 rfl rfl rfl (one_u8s _) Tryd.sizeOf41 (by show (List.map vU8 x).length = _; rw [List.length_map]; exact hxl) (by show (List.map vU8 zeros32).length = _; rw [List.length_map]; exact zeros32_len)) ?_
  refine ow_val (val_assign rfl) rfl ?_
  refine ow_nil (into ?_)
  refine sw_seq ?_
  refine sw_seq ?_
  refine sw_region ?_
  refine ow_val (val_move rfl) rfl ?_
  refine ow_val (val_not rfl) rfl ?_
  refine ow_nil (into ?_)
  refine sw_false rfl rfl ?_
  refine sw_skip (into ?_)
  refine sw_seq ?_
  refine sw_seq ?_
  refine sw_region ?_
  refine ow_val (val_move rfl) rfl ?_
  refine ow_val (val_move rfl) rfl ?_
  refine ow_val ((val_eql_u64 rfl rfl).to (v' := .bool false) (congrArg Value.bool (decide_eq_false hmn))) rfl ?_
  refine ow_nil (into ?_)
  refine sw_false rfl rfl ?_
  refine sw_skip (into ?_)
  refine sw_seq ?_
  refine sw_region ?_
  refine ow_val (val_move rfl) rfl ?_
  refine ow_call_pure (callsTo Tryd.func91 rfl (by kernel_rfl) rfl) rfl (fun w hm => below_any n hn2 w) ?_
  refine ow_val (val_assign rfl) rfl ?_
  refine ow_nil (into ?_)
  refine sw_seq ?_
  refine sw_seq ?_
  refine sw_region ?_
  refine ow_val (val_move rfl) rfl ?_
  refine ow_val (val_move rfl) rfl ?_
  refine ow_val ((val_leq_u64 rfl rfl).to (v' := .bool true) (congrArg Value.bool (decide_eq_true hmk))) rfl ?_
  refine ow_nil (into ?_)
  refine sw_true rfl rfl ?_
  refine sw_seq ?_
  refine sw_region ?_
  refine ow_val (val_move rfl) rfl ?_
  refine ow_val (val_move rfl) rfl ?_
  refine ow_val (val_move rfl) rfl ?_
  refine ow_val (val_load_all 2 rfl rfl Tryd.isAgg41 Tryd.sizeOf41 (by show (List.map vU8 old).length = _; rw [List.length_map]; exact hll)) rfl ?_
  refine ow_val (val_move rfl) rfl ?_
  refine ow_val (val_move rfl) rfl ?_
  refine ow_call_pure (callsTo Tryd.func72 rfl (by kernel_rfl) rfl) rfl (fun w hm => ih m' (splitU n) wh w hmk0 hk0 hmk1 (hK.mem0 hm) (hrq.mem hm)) ?_
  refine ow_val (val_move rfl) rfl ?_
  refine ow_val (val_extract rfl rfl) rfl ?_
  refine ow_val (val_extract rfl rfl) rfl ?_
  refine ow_new (acts_alloc zPair) rfl (fun b18 hb18 => ?_)
  refine ow_do_eq (does_store_all 0 rfl rfl rfl (one_pair _ _) Tryd.sizeOf100 (pair_len (twoR_len h2 hll _ (fun d hd => hq d (List.mem_reverse.1 hd)) _ _ _).1 (twoR_len h2 hll _ (fun d hd => hq d (List.mem_reverse.1 hd)) _ _ _).2) rfl) ?_
  refine ow_val (val_assign rfl) rfl ?_
  refine ow_nil (into ?_)
  refine sw_seq ?_
  refine sw_region_lex _ [9] [(0, 0), (2, 0), (3, 0), (8, 0), (1, 1), (4, 1), (5, 1), (6, 2), (7, 0), (9, 2), (10, 0)] (by kernel_rfl) (by kernel_rfl) (fun _ _ _ h => h) (fun _ h => h) (fun _ h => h.drawn _) ?_
  refine lw_pure rfl (val_fieldAddr (m := 31) (e := 0) rfl Tryd.underlying100 rfl rfl Tryd.sizeOf41 rfl) rfl ?_
  refine lw_pure rfl (val_move rfl) rfl ?_
  refine lw_pure rfl (val_fieldAddr (m := 31) (e := 32) rfl Tryd.underlying100 rfl rfl Tryd.sizeOf41 rfl) rfl ?_
  refine lw_pure rfl (val_move rfl) rfl ?_
  refine lw_held rfl (val_load_part 0 rfl rfl Tryd.isAgg41 Tryd.sizeOf41 (by show (List.map vU8 ((twoR k old m' (splitU n) wh q.reverse).1.1)).length = _; rw [List.length_map]; exact (twoR_len h2 hll _ (fun d hd => hq d (List.mem_reverse.1 hd)) _ _ _).1) (pair_0 (twoR_len h2 hll _ (fun d hd => hq d (List.mem_reverse.1 hd)) _ _ _).1)) rfl ?_
  refine lw_held rfl (val_load_part 0 rfl rfl Tryd.isAgg41 Tryd.sizeOf41 (by show (List.map vU8 ((twoR k old m' (splitU n) wh q.reverse).1.2)).length = _; rw [List.length_map]; exact (twoR_len h2 hll _ (fun d hd => hq d (List.mem_reverse.1 hd)) _ _ _).2) (pair_32 (twoR_len h2 hll _ (fun d hd => hq d (List.mem_reverse.1 hd)) _ _ _).1 (twoR_len h2 hll _ (fun d hd => hq d (List.mem_reverse.1 hd)) _ _ _).2)) rfl ?_
  refine lw_held rfl (val_load_all 1 rfl rfl Tryd.isAgg41 Tryd.sizeOf41 (by show (List.map vU8 x).length = _; rw [List.length_map]; exact hxl)) rfl ?_
  refine lw_call_pure rfl (callsTo Tryd.func92 rfl (by kernel_rfl) rfl) rfl (fun w hm => mnode_any k h1 h2 ((twoR k old m' (splitU n) wh q.reverse).1.2) x (twoR_len h2 hll _ (fun d hd => hq d (List.mem_reverse.1 hd)) _ _ _).2 hxl (twoR_fm h1 h2 hlf _ (fun d hd => hqfm d (List.mem_reverse.1 hd)) _ _ _).2 hxf w (hK.mem0 hm)) ?_
  refine lw_pure rfl (val_build' (cs := ((twoR k old m' (splitU n) wh q.reverse).1.1).map vU8 ++ ((nd k ((twoR k old m' (splitU n) wh q.reverse).1.2) x)).map vU8) rfl (built_pair (by kernel_rfl) ((twoR k old m' (splitU n) wh q.reverse).1.1) ((nd k ((twoR k old m' (splitU n) wh q.reverse).1.2) x)) (twoR_len h2 hll _ (fun d hd => hq d (List.mem_reverse.1 hd)) _ _ _).1 (nd_len _ _ _ h2))) rfl ?_
  refine lw_do rfl (does_store_all 2 rfl rfl rfl (one_pair _ _) Tryd.sizeOf100 (pair_len (twoR_len h2 hll _ (fun d hd => hq d (List.mem_reverse.1 hd)) _ _ _).1 (nd_len _ _ _ h2)) rfl) (fun h => nomatch h) (fun _ _ => ?_)
  refine lw_pure rfl (val_assign rfl) rfl ?_
  refine lw_nil (into ?_)
  refine sw_ret (fun w hm => ?_)
  try dsimp only [thenP, blockP, Nat.beq, cond]
  exact ret_cell_two 2 rfl rfl rfl hm rfl Tryd.isAgg100 Tryd.sizeOf100 (pair_len (twoR_len h2 hll _ (fun d hd => hq d (List.mem_reverse.1 hd)) _ _ _).1 (nd_len _ _ _ h2)) ⟨by rw [twoR, if_neg (fun h => hmn h.1), if_neg hmn, if_pos hmk] <;> rfl, hm.forgetAll⟩

theorem two_right (k : Nat) (h1 : 1 ≤ k) (h2 : k ≤ 32) (old : List UInt8) (hll : old.length = 32) (hlf : fm (k : Int) old = true) (m' n : UInt64) (w : World) (hK : KW w) (a : Option Addr) (c : Nat) (q : List (List UInt8)) (x : List UInt8) (hqe : ∀ d ∈ q ++ [x], d.length = 32) (hqf : ∀ d ∈ q ++ [x], fm (k : Int) d = true) (hr : Rd w a ((q ++ [x]).flatMap fun d => d.map vU8)) (hc : q.length + 1 ≤ c) (hl : q.length + 1 < 9223372036854775808) (wh : Bool) (hm0 : m' ≠ 0) (hle : m' ≤ n) (hmn : ¬ m' = n) (hmk : ¬ m' ≤ splitU n) (ih : ∀ (m' n : UInt64) (wh : Bool) (w : World), m' ≠ 0 → n ≠ 0 → m' ≤ n → KW w → Rd w a ((q).flatMap fun d => d.map vU8) → Calls Tryd.prog 72 #[vInt (k : Int), vU64 m', vU64 n, .agg ((old).map vU8).toArray, .bool wh, .slice a (q.length) c] w fun e w' => ∃ v, e = .returned v ∧ v = .tuple #[.agg (((twoR k old m' n wh q.reverse).1.1).map vU8 ++ ((twoR k old m' n wh q.reverse).1.2).map vU8).toArray, .bool (twoR k old m' n wh q.reverse).2] ∧ Mem w [] [] w') : Calls Tryd.prog 72 #[vInt (k : Int), vU64 m', vU64 n, .agg ((old).map vU8).toArray, .bool wh, .slice a (q.length + 1) c] w fun e w' => ∃ v, e = .returned v ∧ v = .tuple #[.agg (((twoR k old m' n wh (x :: q.reverse)).1.1).map vU8 ++ ((twoR k old m' n wh (x :: q.reverse)).1.2).map vU8).toArray, .bool (twoR k old m' n wh (x :: q.reverse)).2] ∧ Mem w [] [] w' := by
  have hq : ∀ d ∈ q, d.length = 32 := fun d hd => hqe d (by simp [hd])
  have hqfm : ∀ d ∈ q, fm (k : Int) d = true := fun d hd => hqf d (by simp [hd])
  have hrq : Rd w a (q.flatMap fun d => d.map vU8) := by rw [List.flatMap_append] at hr; exact Rd.pre hr
  have hxl := hqe x (by simp)
  have hxf := hqf x (by simp)
  have hmn' := UInt64.le_iff_toNat_le.1 hle
  have hmn2 : m'.toNat ≠ n.toNat := fun h => hmn (UInt64.toNat.inj h)
  have hm0' : m'.toNat ≠ 0 := fun h => hm0 (UInt64.toNat.inj h)
  have hn2 : 2 ≤ n.toNat := by omega
  have hsl := splitN_lt hn2
  have hsp := splitN_pos n.toNat
  have hsn := splitU_nat hn2
  have hk0 : splitU n ≠ 0 := fun h => by rw [h] at hsn; have h9 : (0 : UInt64).toNat = 0 := rfl; omega
  have hnk0 : n - splitU n ≠ 0 := sub_ne hn2
  have hgt : (splitU n).toNat < m'.toNat := Nat.lt_of_not_le fun h => hmk (UInt64.le_iff_toNat_le.2 h)
  have hs1 : (m' - splitU n).toNat = m'.toNat - (splitU n).toNat := UInt64.toNat_sub_of_le _ _ (UInt64.le_iff_toNat_le.2 (by omega))
  have hs2 : (n - splitU n).toNat = n.toNat - (splitU n).toNat := UInt64.toNat_sub_of_le _ _ (UInt64.le_iff_toNat_le.2 (by omega))
  have hnm0 : m' - splitU n ≠ 0 := fun h => by rw [h] at hs1; have h9 : (0 : UInt64).toNat = 0 := rfl; omega
  have hmk2 : m' - splitU n ≤ n - splitU n := UInt64.le_iff_toNat_le.2 (by omega)
  refine calls_of_sw (vs := [vInt (k : Int), vU64 m', vU64 n, .agg ((old).map vU8).toArray, .bool wh, .slice a (q.length + 1) c]) Tryd.func72 rfl Tryd.ntmps72 rfl (SW.begin ?_)
  refine sw_seq ?_
  refine sw_region ?_
  refine ow_new (acts_box rfl) rfl (fun b9 hb9 => ?_)
  refine ow_new (acts_alloc zPair) rfl (fun b12 hb12 => ?_)
  refine ow_val (val_assign rfl) rfl ?_
  refine ow_nil (into ?_)
  refine sw_seq ?_
  refine sw_seq ?_
  refine sw_region ?_
  refine ow_val (val_move rfl) rfl ?_
  refine ow_val (val_move rfl) rfl ?_
  refine ow_val ((val_eql_u64 rfl rfl).to (v' := .bool false) (congrArg Value.bool (decide_eq_false hmn))) rfl ?_
  refine ow_val (val_move rfl) rfl ?_
  first | refine ow_guard_no rfl rfl rfl rfl rfl ?_ | refine ow_guard_none rfl rfl rfl rfl rfl ?_
  refine ow_val (val_pick_false rfl rfl) rfl ?_
  refine ow_nil (into ?_)
  refine sw_false rfl rfl ?_
  refine sw_skip (into ?_)
  refine sw_seq ?_
  refine sw_region ?_
  refine ow_val (val_move rfl) rfl ?_
  refine ow_call_pure (callsTo Tryd.func90 rfl (by kernel_rfl) rfl) rfl (fun w hm => ended_cons w a c q x hqe (hr.mem hm) hc hl) ?_
  refine ow_val (val_move rfl) rfl ?_
  refine ow_val (val_extract rfl rfl) rfl ?_
  refine ow_val (val_extract rfl rfl) rfl ?_
  refine ow_val (val_extract rfl rfl) rfl ?_
  refine ow_new (acts_alloc zD) rfl (fun b15 hb15 => ?_)
  refine ow_val (val_assign rfl) rfl ?_
  refine ow_do_eq (does_store_all 0 rfl rfl rfl (one_u8s _) Tryd.sizeOf41 (by show (List.map vU8 x).length = _; rw [List.length_map]; exact hxl) (by show (List.map vU8 zeros32).length = _; rw [List.length_map]; exact zeros32_len)) ?_
  refine ow_val (val_assign rfl) rfl ?_
  refine ow_nil (into ?_)
  refine sw_seq ?_
  refine sw_seq ?_
  refine sw_region ?_
  refine ow_val (val_move rfl) rfl ?_
  refine ow_val (val_not rfl) rfl ?_
  refine ow_nil (into ?_)
  refine sw_false rfl rfl ?_
  refine sw_skip (into ?_)
  refine sw_seq ?_
  refine sw_seq ?_
  refine sw_region ?_
  refine ow_val (val_move rfl) rfl ?_
  refine ow_val (val_move rfl) rfl ?_
  refine ow_val ((val_eql_u64 rfl rfl).to (v' := .bool false) (congrArg Value.bool (decide_eq_false hmn))) rfl ?_
  refine ow_nil (into ?_)
  refine sw_false rfl rfl ?_
  refine sw_skip (into ?_)
  refine sw_seq ?_
  refine sw_region ?_
  refine ow_val (val_move rfl) rfl ?_
  refine ow_call_pure (callsTo Tryd.func91 rfl (by kernel_rfl) rfl) rfl (fun w hm => below_any n hn2 w) ?_
  refine ow_val (val_assign rfl) rfl ?_
  refine ow_nil (into ?_)
  refine sw_seq ?_
  refine sw_seq ?_
  refine sw_region ?_
  refine ow_val (val_move rfl) rfl ?_
  refine ow_val (val_move rfl) rfl ?_
  refine ow_val ((val_leq_u64 rfl rfl).to (v' := .bool false) (congrArg Value.bool (decide_eq_false hmk))) rfl ?_
  refine ow_nil (into ?_)
  refine sw_false rfl rfl ?_
  refine sw_skip (into ?_)
  refine sw_seq ?_
  refine sw_region ?_
  refine ow_val (val_move rfl) rfl ?_
  refine ow_val (val_move rfl) rfl ?_
  refine ow_val (val_move rfl) rfl ?_
  refine ow_val (val_sub_u64 rfl rfl) rfl ?_
  refine ow_val (val_move rfl) rfl ?_
  refine ow_val (val_move rfl) rfl ?_
  refine ow_val (val_sub_u64 rfl rfl) rfl ?_
  refine ow_val (val_load_all 2 rfl rfl Tryd.isAgg41 Tryd.sizeOf41 (by show (List.map vU8 old).length = _; rw [List.length_map]; exact hll)) rfl ?_
  refine ow_val (val_move rfl) rfl ?_
  refine ow_call_pure (callsTo Tryd.func72 rfl (by kernel_rfl) rfl) rfl (fun w hm => ih ((m' - (splitU n))) ((n - (splitU n))) false w hnm0 hnk0 hmk2 (hK.mem0 hm) (hrq.mem hm)) ?_
  refine ow_val (val_move rfl) rfl ?_
  refine ow_val (val_extract rfl rfl) rfl ?_
  refine ow_val (val_extract rfl rfl) rfl ?_
  refine ow_new (acts_alloc zPair) rfl (fun b20 hb20 => ?_)
  refine ow_do_eq (does_store_all 0 rfl rfl rfl (one_pair _ _) Tryd.sizeOf100 (pair_len (twoR_len h2 hll _ (fun d hd => hq d (List.mem_reverse.1 hd)) _ _ _).1 (twoR_len h2 hll _ (fun d hd => hq d (List.mem_reverse.1 hd)) _ _ _).2) rfl) ?_
  refine ow_val (val_assign rfl) rfl ?_
  refine ow_nil (into ?_)
  refine sw_seq ?_
  refine sw_region_lex _ [12] [(0, 0), (2, 0), (5, 0), (7, 0), (11, 0), (1, 1), (3, 1), (6, 1), (8, 1), (4, 2), (9, 2), (10, 0), (12, 2), (13, 0)] (by kernel_rfl) (by kernel_rfl) (fun _ _ _ h => h) (fun _ h => h) (fun _ h => h.drawn _) ?_
  refine lw_pure rfl (val_move rfl) rfl ?_
  refine lw_pure rfl (val_fieldAddr (m := 31) (e := 0) rfl Tryd.underlying100 rfl rfl Tryd.sizeOf41 rfl) rfl ?_
  refine lw_pure rfl (val_move rfl) rfl ?_
  refine lw_pure rfl (val_fieldAddr (m := 31) (e := 32) rfl Tryd.underlying100 rfl rfl Tryd.sizeOf41 rfl) rfl ?_
  refine lw_pure rfl (val_move rfl) rfl ?_
  refine lw_held rfl (val_load_all 1 rfl rfl Tryd.isAgg41 Tryd.sizeOf41 (by show (List.map vU8 x).length = _; rw [List.length_map]; exact hxl)) rfl ?_
  refine lw_held rfl (val_load_part 0 rfl rfl Tryd.isAgg41 Tryd.sizeOf41 (by show (List.map vU8 ((twoR k old ((m' - (splitU n))) ((n - (splitU n))) false q.reverse).1.1)).length = _; rw [List.length_map]; exact (twoR_len h2 hll _ (fun d hd => hq d (List.mem_reverse.1 hd)) _ _ _).1) (pair_0 (twoR_len h2 hll _ (fun d hd => hq d (List.mem_reverse.1 hd)) _ _ _).1)) rfl ?_
  refine lw_held rfl (val_load_all 1 rfl rfl Tryd.isAgg41 Tryd.sizeOf41 (by show (List.map vU8 x).length = _; rw [List.length_map]; exact hxl)) rfl ?_
  refine lw_held rfl (val_load_part 0 rfl rfl Tryd.isAgg41 Tryd.sizeOf41 (by show (List.map vU8 ((twoR k old ((m' - (splitU n))) ((n - (splitU n))) false q.reverse).1.2)).length = _; rw [List.length_map]; exact (twoR_len h2 hll _ (fun d hd => hq d (List.mem_reverse.1 hd)) _ _ _).2) (pair_32 (twoR_len h2 hll _ (fun d hd => hq d (List.mem_reverse.1 hd)) _ _ _).1 (twoR_len h2 hll _ (fun d hd => hq d (List.mem_reverse.1 hd)) _ _ _).2)) rfl ?_
  refine lw_call_pure rfl (callsTo Tryd.func92 rfl (by kernel_rfl) rfl) rfl (fun w hm => mnode_any k h1 h2 x ((twoR k old ((m' - (splitU n))) ((n - (splitU n))) false q.reverse).1.1) hxl (twoR_len h2 hll _ (fun d hd => hq d (List.mem_reverse.1 hd)) _ _ _).1 hxf (twoR_fm h1 h2 hlf _ (fun d hd => hqfm d (List.mem_reverse.1 hd)) _ _ _).1 w (hK.mem0 hm)) ?_
  refine lw_call_pure rfl (callsTo Tryd.func92 rfl (by kernel_rfl) rfl) rfl (fun w hm => mnode_any k h1 h2 x ((twoR k old ((m' - (splitU n))) ((n - (splitU n))) false q.reverse).1.2) hxl (twoR_len h2 hll _ (fun d hd => hq d (List.mem_reverse.1 hd)) _ _ _).2 hxf (twoR_fm h1 h2 hlf _ (fun d hd => hqfm d (List.mem_reverse.1 hd)) _ _ _).2 w (hK.mem0 hm)) ?_
  refine lw_pure rfl (val_build' (cs := ((nd k x ((twoR k old ((m' - (splitU n))) ((n - (splitU n))) false q.reverse).1.1))).map vU8 ++ ((nd k x ((twoR k old ((m' - (splitU n))) ((n - (splitU n))) false q.reverse).1.2))).map vU8) rfl (built_pair (by kernel_rfl) ((nd k x ((twoR k old ((m' - (splitU n))) ((n - (splitU n))) false q.reverse).1.1))) ((nd k x ((twoR k old ((m' - (splitU n))) ((n - (splitU n))) false q.reverse).1.2))) (nd_len _ _ _ h2) (nd_len _ _ _ h2))) rfl ?_
  refine lw_do rfl (does_store_all 2 rfl rfl rfl (one_pair _ _) Tryd.sizeOf100 (pair_len (nd_len _ _ _ h2) (nd_len _ _ _ h2)) rfl) (fun h => nomatch h) (fun _ _ => ?_)
  refine lw_pure rfl (val_assign rfl) rfl ?_
  refine lw_nil (into ?_)
  exact sw_ret (fun w hm => ret_cell_two 2 rfl rfl rfl hm rfl Tryd.isAgg100 Tryd.sizeOf100 (pair_len (nd_len _ _ _ h2) (nd_len _ _ _ h2)) ⟨by rw [twoR, if_neg (fun h => hmn h.1), if_neg hmn, if_neg hmk] <;> rfl, hm.forgetAll⟩)

theorem two_any (k : Nat) (h1 : 1 ≤ k) (h2 : k ≤ 32) (old : List UInt8) (hll : old.length = 32) (hlf : fm (k : Int) old = true) (a : Option Addr) (c : Nat) : ∀ (N : Nat) (ps : List (List UInt8)) (_ : ps.length = N) (_ : ∀ d ∈ ps, d.length = 32) (_ : ∀ d ∈ ps, fm (k : Int) d = true) (_ : ps.length ≤ c) (_ : ps.length < 9223372036854775808)
    (m' n : UInt64) (wh : Bool) (w : World) (_ : m' ≠ 0) (_ : n ≠ 0) (_ : m' ≤ n) (_ : KW w) (_ : Rd w a ((ps).flatMap fun d => d.map vU8)), Calls Tryd.prog 72 #[vInt (k : Int), vU64 m', vU64 n, .agg ((old).map vU8).toArray, .bool wh, .slice a (ps.length) c] w fun e w' => ∃ v, e = .returned v ∧ v = .tuple #[.agg (((twoR k old m' n wh ps.reverse).1.1).map vU8 ++ ((twoR k old m' n wh ps.reverse).1.2).map vU8).toArray, .bool (twoR k old m' n wh ps.reverse).2] ∧ Mem w [] [] w'
  | 0, ps, hN, _, _, _, _, m', n, wh, w, _, _, _, hK, hr => by
    obtain rfl := List.length_eq_zero_iff.1 hN
    by_cases hmn : m' = n
    · cases wh with
      | true => exact two_nilw k h1 h2 old hll hlf a c m' n w hK hr hmn
      | false => exact two_nilf k h1 h2 old hll hlf a c m' n w hK hr hmn
    · exact two_nil0 k h1 h2 old hll hlf a c m' n w hK hr wh hmn
  | N + 1, ps, hN, hpl, hpf, hc, hl, m', n, wh, w, hm0, hn0, hle, hK, hr => by
    obtain ⟨q, x, rfl⟩ : ∃ q x, ps = q ++ [x] := ⟨ps.dropLast, ps.getLast (fun h => by rw [h] at hN; cases hN), (List.dropLast_concat_getLast _).symm⟩
    rw [List.length_append, List.length_cons, List.length_nil] at hN hc hl
    rw [List.reverse_append, List.reverse_cons, List.reverse_nil, List.nil_append, List.singleton_append, List.length_append, List.length_cons, List.length_nil]
    have ih := fun m' n wh w hm0 hn0 hle hK hr => two_any k h1 h2 old hll hlf a c N q (by omega) (fun d hd => hpl d (by simp [hd])) (fun d hd => hpf d (by simp [hd])) (by omega) (by omega) m' n wh w hm0 hn0 hle hK hr
    by_cases hmn : m' = n
    · cases wh with
      | true => exact two_whole k h1 h2 old hll hlf m' n w hK a c q x hpl hpf hr hc hl hmn
      | false =>
        by_cases hqn : q.length = 0
        · exact two_end1 k h1 h2 old hll hlf m' n w hK a c q x hpl hpf hr hc hl hmn hqn
        · exact two_end2 k h1 h2 old hll hlf m' n w hK a c q x hpl hpf hr hc hl hmn hqn
    · by_cases hmk : m' ≤ splitU n
      · exact two_left k h1 h2 old hll hlf m' n w hK a c q x hpl hpf hr hc hl wh hm0 hle hmn hmk ih
      · exact two_right k h1 h2 old hll hlf m' n w hK a c q x hpl hpf hr hc hl wh hm0 hle hmn hmk ih
end Go.Proofs.YtcdponddgnkecaaDoor
