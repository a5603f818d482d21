import Derived.Test.YtcdponddgnkecaaDoorMt2
import Derived.Test.YtcdponddgnkecaaDoorProg
set_option linter.unusedVariables false
set_option linter.unusedSimpArgs false
namespace Go.Proofs.YtcdponddgnkecaaDoor
open Go.Sx Go.Ps
theorem part_whole (k : Nat) (h1 : 1 ≤ k) (h2 : k ≤ 32) (b : Nat) (l : List (List UInt8)) (hdl : ∀ d ∈ l, d.length = 32) (hfl : ∀ d ∈ l, fm (k : Int) d = true) (b3 b8 : Nat) (lo hi : UInt64) (w : World) (hK : KW w) (ps : List Pk) (a : Option Addr) (c : Nat) (ht : TreeAt 110 79 k w b l ps a c) (hl63 : l.length < 9223372036854775808) (h3 : w.heap[b3]? = some (blk [vPtr b] 25)) (h8 : w.heap[b8]? = some (blk [.func (.func 69) #[] #[vPtr b3, vPtr b8]] 80)) (hlt : lo.toNat < hi.toNat) (hhi : hi.toNat ≤ l.length) (hz : (hi - lo) &&& (hi - lo - 1) = 0) (hm0 : lo % (hi - lo) = 0) (hn0 : hi - lo ≠ 0) (r : Nat) (hr2 : (hi - lo).toNat = 2 ^ r) (hdv : 2 ^ r ∣ lo.toNat) : Calls Tryd.prog 69 #[vU64 lo, vU64 hi, vPtr b3, vPtr b8] w fun e w' => ∃ v, e = .returned v ∧ v = .agg ((lg k ((l.drop lo.toNat).take (hi.toNat - lo.toNat))).map vU8).toArray ∧ Mem w [] [] w' := by
  have hn : (hi - lo).toNat = hi.toNat - lo.toNat := UInt64.toNat_sub_of_le _ _ (UInt64.le_iff_toNat_le.2 (by omega))
  have hel : ∀ {i n : Nat} d, d ∈ (l.drop i).take n → d ∈ l := fun d hd => List.mem_of_mem_drop (List.mem_of_mem_take hd)
  refine calls_of_sw (vs := [vU64 lo, vU64 hi, vPtr b3, vPtr b8]) Tryd.func69 rfl Tryd.ntmps69 rfl (SW.begin ?_)
  refine sw_seq ?_
  refine sw_region ?_
  refine ow_new (acts_alloc zD) rfl (fun b6 hb6 => ?_)
  refine ow_nil (into ?_)
  refine sw_seq ?_
  refine sw_region ?_
  refine ow_val (val_move rfl) rfl ?_
  refine ow_val (val_move rfl) rfl ?_
  refine ow_val (val_sub_u64 rfl rfl) rfl ?_
  refine ow_val (val_assign rfl) rfl ?_
  refine ow_nil (into ?_)
  refine sw_seq ?_
  refine sw_seq ?_
  refine sw_region ?_
  refine ow_val (val_move rfl) rfl ?_
  refine ow_val (val_move rfl) rfl ?_
  refine ow_val (val_sub_u64 rfl rfl) rfl ?_
  refine ow_val (val_and_u64 rfl rfl) rfl ?_
  refine ow_val ((val_eql_u64 rfl rfl).to (congrArg Value.bool (decide_eq_true (hz)))) rfl ?_
  refine ow_val (val_move rfl) rfl ?_
  refine ow_guard_yes rfl rfl rfl ?_
  refine ow_val (val_move rfl) rfl ?_
  refine ow_guard_yes rfl rfl rfl ?_
  refine ow_val (val_move rfl) rfl ?_
  refine ow_guard_yes rfl rfl rfl ?_
  refine ow_val (val_rem_u64 rfl rfl hn0) rfl ?_
  refine ow_guard_yes rfl rfl rfl ?_
  refine ow_val ((val_eql_u64 rfl rfl).to (congrArg Value.bool (decide_eq_true (hm0)))) rfl ?_
  refine ow_val (val_pick_true rfl rfl) rfl ?_
  refine ow_nil (into ?_)
  refine sw_true rfl rfl ?_
  refine sw_seq ?_
  refine sw_region ?_
  refine ow_val (val_load_old h3 (List.not_mem_nil) rfl Tryd.isAgg25 rfl) rfl ?_
  refine ow_val (val_move rfl) rfl ?_
  refine ow_val (val_move rfl) rfl ?_
  refine ow_call_pure (v := .agg ((lg k ((l.drop lo.toNat).take (hi.toNat - lo.toNat))).map vU8).toArray) (callsTo Tryd.func57 rfl (by kernel_rfl) rfl) rfl (fun w hm => (by have h := whole_any k h1 h2 w b l hdl ps a c (ht.mem hm) hl63 lo (hi - lo) r hr2 hdv (by omega); rw [← hr2, hn] at h; exact h)) ?_
  refine ow_do_eq (does_store_all 0 rfl rfl rfl (one_u8s _) Tryd.sizeOf41 (by show (List.map vU8 (lg k ((l.drop lo.toNat).take (hi.toNat - lo.toNat)))).length = _; rw [List.length_map]; exact (lg_len h2 _ rfl (fun d hd => hdl d (hel d hd)))) (by show (List.map vU8 zeros32).length = _; rw [List.length_map]; exact zeros32_len)) ?_
  refine ow_nil (into ?_)
  refine sw_ret (fun w hm => ?_)
  try dsimp only [thenP, blockP, Nat.beq, cond]
  exact ret_cell 0 rfl rfl hm rfl Tryd.isAgg41 Tryd.sizeOf41 (by rw [List.length_map]; exact lg_len h2 _ rfl (fun d hd => hdl d (hel d hd))) ⟨rfl, hm.forgetAll⟩

theorem part_x (k : Nat) (h1 : 1 ≤ k) (h2 : k ≤ 32) (b : Nat) (l : List (List UInt8)) (hdl : ∀ d ∈ l, d.length = 32) (hfl : ∀ d ∈ l, fm (k : Int) d = true) (b3 b8 : Nat) (lo hi : UInt64) (w : World) (hK : KW w) (ps : List Pk) (a : Option Addr) (c : Nat) (ht : TreeAt 110 79 k w b l ps a c) (hl63 : l.length < 9223372036854775808) (h3 : w.heap[b3]? = some (blk [vPtr b] 25)) (h8 : w.heap[b8]? = some (blk [.func (.func 69) #[] #[vPtr b3, vPtr b8]] 80)) (hlt : lo.toNat < hi.toNat) (hhi : hi.toNat ≤ l.length) (hz : ¬ (hi - lo) &&& (hi - lo - 1) = 0) (hn2 : 2 ≤ (hi - lo).toNat) (mm : UInt64) (hmm : lo + splitU (hi - lo) = mm) (hml : mm.toNat = lo.toNat + splitN (hi.toNat - lo.toNat)) (ih : ∀ (lo' hi' : UInt64) (w' : World), lo'.toNat < hi'.toNat → hi'.toNat ≤ l.length → hi'.toNat - lo'.toNat < hi.toNat - lo.toNat → KW w' → TreeAt 110 79 k w' b l ps a c → w'.heap[b3]? = some (blk [vPtr b] 25) → w'.heap[b8]? = some (blk [.func (.func 69) #[] #[vPtr b3, vPtr b8]] 80) → Calls Tryd.prog 69 #[vU64 lo', vU64 hi', vPtr b3, vPtr b8] w' fun en w'' => ∃ v, en = .returned v ∧ v = .agg ((lg k ((l.drop lo'.toNat).take (hi'.toNat - lo'.toNat))).map vU8).toArray ∧ Mem w' [] [] w'') : Calls Tryd.prog 69 #[vU64 lo, vU64 hi, vPtr b3, vPtr b8] w fun e w' => ∃ v, e = .returned v ∧ v = .agg ((lg k ((l.drop lo.toNat).take (hi.toNat - lo.toNat))).map vU8).toArray ∧ Mem w [] [] w' := by
  have hn : (hi - lo).toNat = hi.toNat - lo.toNat := UInt64.toNat_sub_of_le _ _ (UInt64.le_iff_toNat_le.2 (by omega))
  have hel : ∀ {i n : Nat} d, d ∈ (l.drop i).take n → d ∈ l := fun d hd => List.mem_of_mem_drop (List.mem_of_mem_take hd)
  have hs1 := splitN_lt (n := hi.toNat - lo.toNat) (by omega)
  have hs2 := splitN_pos (hi.toNat - lo.toNat)
  have hpart := lg_part k (l := l) (lo := lo.toNat) (n := hi.toNat - lo.toNat) (by omega) (by omega)
  rw [← hml, show splitN (hi.toNat - lo.toNat) = mm.toNat - lo.toNat by omega, show hi.toNat - lo.toNat - (mm.toNat - lo.toNat) = hi.toNat - mm.toNat by omega] at hpart
  refine calls_of_sw (vs := [vU64 lo, vU64 hi, vPtr b3, vPtr b8]) Tryd.func69 rfl Tryd.ntmps69 rfl (SW.begin ?_)
  refine sw_seq ?_
  refine sw_region ?_
  refine ow_new (acts_alloc zD) rfl (fun b6 hb6 => ?_)
  refine ow_nil (into ?_)
  refine sw_seq ?_
  refine sw_region ?_
  refine ow_val (val_move rfl) rfl ?_
  refine ow_val (val_move rfl) rfl ?_
  refine ow_val (val_sub_u64 rfl rfl) rfl ?_
  refine ow_val (val_assign rfl) rfl ?_
  refine ow_nil (into ?_)
  refine sw_seq ?_
  refine sw_seq ?_
  refine sw_region ?_
  refine ow_val (val_move rfl) rfl ?_
  refine ow_val (val_move rfl) rfl ?_
  refine ow_val (val_sub_u64 rfl rfl) rfl ?_
  refine ow_val (val_and_u64 rfl rfl) rfl ?_
  refine ow_val ((val_eql_u64 rfl rfl).to (congrArg Value.bool (decide_eq_false (hz)))) rfl ?_
  refine ow_val (val_move rfl) rfl ?_
  first | refine ow_guard_no rfl rfl rfl rfl rfl ?_ | refine ow_guard_none rfl rfl rfl rfl rfl ?_
  first | refine ow_guard_no rfl rfl rfl rfl rfl ?_ | refine ow_guard_none rfl rfl rfl rfl rfl ?_
  first | refine ow_guard_no rfl rfl rfl rfl rfl ?_ | refine ow_guard_none rfl rfl rfl rfl rfl ?_
  first | refine ow_guard_no rfl rfl rfl rfl rfl ?_ | refine ow_guard_none rfl rfl rfl rfl rfl ?_
  refine ow_val (val_pick_false rfl rfl) rfl ?_
  refine ow_nil (into ?_)
  refine sw_false rfl rfl ?_
  refine sw_skip (into ?_)
  refine sw_seq ?_
  refine sw_region ?_
  refine ow_val (val_move rfl) rfl ?_
  refine ow_val (val_move rfl) rfl ?_
  refine ow_call_pure (callsTo Tryd.func70 rfl (by kernel_rfl) rfl) rfl (fun w hm => tbelow_any (hi - lo) hn2 w) ?_
  refine ow_val ((val_add_u64 rfl rfl).to (congrArg vU64 hmm)) rfl ?_
  refine ow_val (val_assign rfl) rfl ?_
  refine ow_nil (into ?_)
  refine sw_seq ?_
  refine sw_region_lex _ [10] [(2, 0), (3, 0), (6, 0), (7, 0), (0, 1), (1, 1), (5, 1), (4, 2), (8, 2), (9, 2), (10, 2)] (by kernel_rfl) (by kernel_rfl) (fun _ _ _ h => h) (fun _ h => h) (fun _ h => h.drawn _) ?_
  refine lw_pure rfl (val_move rfl) rfl ?_
  refine lw_pure rfl (val_move rfl) rfl ?_
  refine lw_pure rfl (val_move rfl) rfl ?_
  refine lw_pure rfl (val_move rfl) rfl ?_
  refine lw_held rfl (val_load_old h3 (List.not_mem_nil) rfl Tryd.isAgg25 rfl) rfl ?_
  refine lw_held rfl (val_load_old h8 (List.not_mem_nil) rfl Tryd.isAgg80 rfl) rfl ?_
  refine lw_held rfl (val_load_old h8 (List.not_mem_nil) rfl Tryd.isAgg80 rfl) rfl ?_
  refine lw_call_pure (v := .agg ((lg k ((l.drop lo.toNat).take (mm.toNat - lo.toNat))).map vU8).toArray) rfl (callsToVal (cap := [vPtr b3, vPtr b8]) rfl Tryd.func69 rfl (by kernel_rfl) rfl) rfl (fun w hm => ih lo mm w (by omega) (by omega) (by omega) (hK.mem0 hm) (ht.mem hm) (hm.oldBlk h3) (hm.oldBlk h8)) ?_
  refine lw_call_pure (v := .agg ((lg k ((l.drop mm.toNat).take (hi.toNat - mm.toNat))).map vU8).toArray) rfl (callsToVal (cap := [vPtr b3, vPtr b8]) rfl Tryd.func69 rfl (by kernel_rfl) rfl) rfl (fun w hm => ih mm hi w (by omega) (by omega) (by omega) (hK.mem0 hm) (ht.mem hm) (hm.oldBlk h3) (hm.oldBlk h8)) ?_
  refine lw_call_pure rfl (callsTo Tryd.func71 rfl (by kernel_rfl) rfl) rfl (fun w hm => tjoin_any k h1 h2 ((lg k ((l.drop lo.toNat).take (mm.toNat - lo.toNat)))) ((lg k ((l.drop mm.toNat).take (hi.toNat - mm.toNat)))) (lg_len h2 _ rfl (fun d hd => hdl d (hel d hd))) (lg_len h2 _ rfl (fun d hd => hdl d (hel d hd))) (lg_fm h1 h2 (fun d hd => hfl d (hel d hd))) (lg_fm h1 h2 (fun d hd => hfl d (hel d hd))) w (hK.mem0 hm) b _ _ (hm.oldBlk ht.blk)) ?_
  refine lw_do rfl (does_store_all 0 rfl rfl rfl (one_u8s _) Tryd.sizeOf41 (by show (List.map vU8 (nd k ((lg k ((l.drop lo.toNat).take (mm.toNat - lo.toNat)))) ((lg k ((l.drop mm.toNat).take (hi.toNat - mm.toNat)))))).length = _; rw [List.length_map]; exact (nd_len _ _ _ h2)) (by show (List.map vU8 zeros32).length = _; rw [List.length_map]; exact zeros32_len)) (fun h => nomatch h) (fun _ _ => ?_)
  refine lw_nil (into ?_)
  exact sw_ret (fun w hm => ret_cell 0 rfl rfl hm rfl Tryd.isAgg41 Tryd.sizeOf41 (by rw [List.length_map]; exact nd_len _ _ _ h2) ⟨by rw [hpart], hm.forgetAll⟩)

theorem part_y (k : Nat) (h1 : 1 ≤ k) (h2 : k ≤ 32) (b : Nat) (l : List (List UInt8)) (hdl : ∀ d ∈ l, d.length = 32) (hfl : ∀ d ∈ l, fm (k : Int) d = true) (b3 b8 : Nat) (lo hi : UInt64) (w : World) (hK : KW w) (ps : List Pk) (a : Option Addr) (c : Nat) (ht : TreeAt 110 79 k w b l ps a c) (hl63 : l.length < 9223372036854775808) (h3 : w.heap[b3]? = some (blk [vPtr b] 25)) (h8 : w.heap[b8]? = some (blk [.func (.func 69) #[] #[vPtr b3, vPtr b8]] 80)) (hlt : lo.toNat < hi.toNat) (hhi : hi.toNat ≤ l.length) (hz : (hi - lo) &&& (hi - lo - 1) = 0) (hm0 : ¬ lo % (hi - lo) = 0) (hn0 : hi - lo ≠ 0) (hn2 : 2 ≤ (hi - lo).toNat) (mm : UInt64) (hmm : lo + splitU (hi - lo) = mm) (hml : mm.toNat = lo.toNat + splitN (hi.toNat - lo.toNat)) (ih : ∀ (lo' hi' : UInt64) (w' : World), lo'.toNat < hi'.toNat → hi'.toNat ≤ l.length → hi'.toNat - lo'.toNat < hi.toNat - lo.toNat → KW w' → TreeAt 110 79 k w' b l ps a c → w'.heap[b3]? = some (blk [vPtr b] 25) → w'.heap[b8]? = some (blk [.func (.func 69) #[] #[vPtr b3, vPtr b8]] 80) → Calls Tryd.prog 69 #[vU64 lo', vU64 hi', vPtr b3, vPtr b8] w' fun en w'' => ∃ v, en = .returned v ∧ v = .agg ((lg k ((l.drop lo'.toNat).take (hi'.toNat - lo'.toNat))).map vU8).toArray ∧ Mem w' [] [] w'') : Calls Tryd.prog 69 #[vU64 lo, vU64 hi, vPtr b3, vPtr b8] w fun e w' => ∃ v, e = .returned v ∧ v = .agg ((lg k ((l.drop lo.toNat).take (hi.toNat - lo.toNat))).map vU8).toArray ∧ Mem w [] [] w' := by
  have hn : (hi - lo).toNat = hi.toNat - lo.toNat := UInt64.toNat_sub_of_le _ _ (UInt64.le_iff_toNat_le.2 (by omega))
  have hel : ∀ {i n : Nat} d, d ∈ (l.drop i).take n → d ∈ l := fun d hd => List.mem_of_mem_drop (List.mem_of_mem_take hd)
  have hs1 := splitN_lt (n := hi.toNat - lo.toNat) (by omega)
  have hs2 := splitN_pos (hi.toNat - lo.toNat)
  have hpart := lg_part k (l := l) (lo := lo.toNat) (n := hi.toNat - lo.toNat) (by omega) (by omega)
  rw [← hml, show splitN (hi.toNat - lo.toNat) = mm.toNat - lo.toNat by omega, show hi.toNat - lo.toNat - (mm.toNat - lo.toNat) = hi.toNat - mm.toNat by omega] at hpart
  refine calls_of_sw (vs := [vU64 lo, vU64 hi, vPtr b3, vPtr b8]) Tryd.func69 rfl Tryd.ntmps69 rfl (SW.begin ?_)
  refine sw_seq ?_
  refine sw_region ?_
  refine ow_new (acts_alloc zD) rfl (fun b6 hb6 => ?_)
  refine ow_nil (into ?_)
  refine sw_seq ?_
  refine sw_region ?_
  refine ow_val (val_move rfl) rfl ?_
  refine ow_val (val_move rfl) rfl ?_
  refine ow_val (val_sub_u64 rfl rfl) rfl ?_
  refine ow_val (val_assign rfl) rfl ?_
  refine ow_nil (into ?_)
  refine sw_seq ?_
  refine sw_seq ?_
  refine sw_region ?_
  refine ow_val (val_move rfl) rfl ?_
  refine ow_val (val_move rfl) rfl ?_
  refine ow_val (val_sub_u64 rfl rfl) rfl ?_
  refine ow_val (val_and_u64 rfl rfl) rfl ?_
  refine ow_val ((val_eql_u64 rfl rfl).to (congrArg Value.bool (decide_eq_true (hz)))) rfl ?_
  refine ow_val (val_move rfl) rfl ?_
  refine ow_guard_yes rfl rfl rfl ?_
  refine ow_val (val_move rfl) rfl ?_
  refine ow_guard_yes rfl rfl rfl ?_
  refine ow_val (val_move rfl) rfl ?_
  refine ow_guard_yes rfl rfl rfl ?_
  refine ow_val (val_rem_u64 rfl rfl hn0) rfl ?_
  refine ow_guard_yes rfl rfl rfl ?_
  refine ow_val ((val_eql_u64 rfl rfl).to (congrArg Value.bool (decide_eq_false (hm0)))) rfl ?_
  refine ow_val (val_pick_true rfl rfl) rfl ?_
  refine ow_nil (into ?_)
  refine sw_false rfl rfl ?_
  refine sw_skip (into ?_)
  refine sw_seq ?_
  refine sw_region ?_
  refine ow_val (val_move rfl) rfl ?_
  refine ow_val (val_move rfl) rfl ?_
  refine ow_call_pure (callsTo Tryd.func70 rfl (by kernel_rfl) rfl) rfl (fun w hm => tbelow_any (hi - lo) hn2 w) ?_
  refine ow_val ((val_add_u64 rfl rfl).to (congrArg vU64 hmm)) rfl ?_
  refine ow_val (val_assign rfl) rfl ?_
  refine ow_nil (into ?_)
  refine sw_seq ?_
  refine sw_region_lex _ [10] [(2, 0), (3, 0), (6, 0), (7, 0), (0, 1), (1, 1), (5, 1), (4, 2), (8, 2), (9, 2), (10, 2)] (by kernel_rfl) (by kernel_rfl) (fun _ _ _ h => h) (fun _ h => h) (fun _ h => h.drawn _) ?_
  refine lw_pure rfl (val_move rfl) rfl ?_
  refine lw_pure rfl (val_move rfl) rfl ?_
  refine lw_pure rfl (val_move rfl) rfl ?_
  refine lw_pure rfl (val_move rfl) rfl ?_
  refine lw_held rfl (val_load_old h3 (List.not_mem_nil) rfl Tryd.isAgg25 rfl) rfl ?_
  refine lw_held rfl (val_load_old h8 (List.not_mem_nil) rfl Tryd.isAgg80 rfl) rfl ?_
  refine lw_held rfl (val_load_old h8 (List.not_mem_nil) rfl Tryd.isAgg80 rfl) rfl ?_
  refine lw_call_pure (v := .agg ((lg k ((l.drop lo.toNat).take (mm.toNat - lo.toNat))).map vU8).toArray) rfl (callsToVal (cap := [vPtr b3, vPtr b8]) rfl Tryd.func69 rfl (by kernel_rfl) rfl) rfl (fun w hm => ih lo mm w (by omega) (by omega) (by omega) (hK.mem0 hm) (ht.mem hm) (hm.oldBlk h3) (hm.oldBlk h8)) ?_
  refine lw_call_pure (v := .agg ((lg k ((l.drop mm.toNat).take (hi.toNat - mm.toNat))).map vU8).toArray) rfl (callsToVal (cap := [vPtr b3, vPtr b8]) rfl Tryd.func69 rfl (by kernel_rfl) rfl) rfl (fun w hm => ih mm hi w (by omega) (by omega) (by omega) (hK.mem0 hm) (ht.mem hm) (hm.oldBlk h3) (hm.oldBlk h8)) ?_
  refine lw_call_pure rfl (callsTo Tryd.func71 rfl (by kernel_rfl) rfl) rfl (fun w hm => tjoin_any k h1 h2 ((lg k ((l.drop lo.toNat).take (mm.toNat - lo.toNat)))) ((lg k ((l.drop mm.toNat).take (hi.toNat - mm.toNat)))) (lg_len h2 _ rfl (fun d hd => hdl d (hel d hd))) (lg_len h2 _ rfl (fun d hd => hdl d (hel d hd))) (lg_fm h1 h2 (fun d hd => hfl d (hel d hd))) (lg_fm h1 h2 (fun d hd => hfl d (hel d hd))) w (hK.mem0 hm) b _ _ (hm.oldBlk ht.blk)) ?_
  refine lw_do rfl (does_store_all 0 rfl rfl rfl (one_u8s _) Tryd.sizeOf41 (by show (List.map vU8 (nd k ((lg k ((l.drop lo.toNat).take (mm.toNat - lo.toNat)))) ((lg k ((l.drop mm.toNat).take (hi.toNat - mm.toNat)))))).length = _; rw [List.length_map]; exact (nd_len _ _ _ h2)) (by show (List.map vU8 zeros32).length = _; rw [List.length_map]; exact zeros32_len)) (fun h => nomatch h) (fun _ _ => ?_)
  refine lw_nil (into ?_)
  exact sw_ret (fun w hm => ret_cell 0 rfl rfl hm rfl Tryd.isAgg41 Tryd.sizeOf41 (by rw [List.length_map]; exact nd_len _ _ _ h2) ⟨by rw [hpart], hm.forgetAll⟩)

theorem part_any (k : Nat) (h1 : 1 ≤ k) (h2 : k ≤ 32) (b : Nat) (l : List (List UInt8)) (hdl : ∀ d ∈ l, d.length = 32) (hfl : ∀ d ∈ l, fm (k : Int) d = true) (b3 b8 : Nat) (ps : List Pk) (a : Option Addr) (c : Nat) (hl63 : l.length < 9223372036854775808) : ∀ (N : Nat) (lo hi : UInt64) (w : World), hi.toNat - lo.toNat ≤ N → KW w → TreeAt 110 79 k w b l ps a c → w.heap[b3]? = some (blk [vPtr b] 25) → w.heap[b8]? = some (blk [.func (.func 69) #[] #[vPtr b3, vPtr b8]] 80) → lo.toNat < hi.toNat → hi.toNat ≤ l.length → Calls Tryd.prog 69 #[vU64 lo, vU64 hi, vPtr b3, vPtr b8] w fun e w' => ∃ v, e = .returned v ∧ v = .agg ((lg k ((l.drop lo.toNat).take (hi.toNat - lo.toNat))).map vU8).toArray ∧ Mem w [] [] w'
  | N, lo, hi, w, hN, hK, ht, h3, h8, hlt, hhi => by
    have hn : (hi - lo).toNat = hi.toNat - lo.toNat := UInt64.toNat_sub_of_le _ _ (UInt64.le_iff_toNat_le.2 (by omega))
    have h9 : (0 : UInt64).toNat = 0 := rfl
    have h8' : (1 : UInt64).toNat = 1 := rfl
    have hn0 : hi - lo ≠ 0 := fun h => by rw [h] at hn; omega
    have hand : ((hi - lo) &&& (hi - lo - 1)).toNat = (hi.toNat - lo.toNat) &&& (hi.toNat - lo.toNat - 1) := by
      have hn1 : (hi - lo - 1).toNat = (hi - lo).toNat - (1 : UInt64).toNat := UInt64.toNat_sub_of_le _ _ (UInt64.le_iff_toNat_le.2 (by omega))
      rw [UInt64.toNat_and, hn1, hn, h8']
    have hsum : 2 ≤ (hi - lo).toNat → (lo + splitU (hi - lo)).toNat = lo.toNat + splitN (hi.toNat - lo.toNat) := fun h2n => by
      have hs := splitU_nat h2n
      have hs2 := splitN_lt h2n
      have hh := hi.toNat_lt
      rw [UInt64.toNat_add, hs, hn, Nat.mod_eq_of_lt (by rw [hn] at hs2; omega)]
    match N, hN with
    | 0, hN => omega
    | N + 1, hN =>
      have ih : ∀ (lo' hi' : UInt64) (w' : World), lo'.toNat < hi'.toNat → hi'.toNat ≤ l.length → hi'.toNat - lo'.toNat < hi.toNat - lo.toNat → KW w' → TreeAt 110 79 k w' b l ps a c → w'.heap[b3]? = some (blk [vPtr b] 25) → w'.heap[b8]? = some (blk [.func (.func 69) #[] #[vPtr b3, vPtr b8]] 80) → _ :=
        fun lo' hi' w' ha hb hc hK ht h3 h8 => part_any k h1 h2 b l hdl hfl b3 b8 ps a c hl63 N lo' hi' w' (by omega) hK ht h3 h8 ha hb
      by_cases hz : (hi - lo) &&& (hi - lo - 1) = 0
      · have hz' := hand
        rw [hz, h9] at hz'
        have hpw := pow_of_and (n := hi.toNat - lo.toNat) (by omega) hz'.symm
        by_cases hm0 : lo % (hi - lo) = 0
        · have hdv := congrArg UInt64.toNat hm0
          rw [UInt64.toNat_mod, hn, h9] at hdv
          exact part_whole k h1 h2 b l hdl hfl b3 b8 lo hi w hK ps a c ht hl63 h3 h8 hlt hhi hz hm0 hn0 _ (by rw [hn]; exact hpw) (by rw [← hpw]; exact Nat.dvd_of_mod_eq_zero hdv)
        · have h2n : 2 ≤ (hi - lo).toNat := by
            rcases Nat.lt_or_ge (hi - lo).toNat 2 with h | h
            · exfalso; apply hm0; apply UInt64.toNat.inj
              rw [UInt64.toNat_mod, show (hi - lo).toNat = 1 by omega, Nat.mod_one]; rfl
            · exact h
          exact part_y k h1 h2 b l hdl hfl b3 b8 lo hi w hK ps a c ht hl63 h3 h8 hlt hhi hz hm0 hn0 h2n _ rfl (hsum h2n) ih
      · have h2n : 2 ≤ (hi - lo).toNat := by
          rcases Nat.lt_or_ge (hi - lo).toNat 2 with h | h
          · exfalso; apply hz; apply UInt64.toNat.inj
            rw [hand, show hi.toNat - lo.toNat = 1 by omega]; rfl
          · exact h
        exact part_x k h1 h2 b l hdl hfl b3 b8 lo hi w hK ps a c ht hl63 h3 h8 hlt hhi hz h2n _ rfl (hsum h2n) ih
theorem zFn (w : World) : (zeroValue 80).run Tryd.prog w = .ok .nilFunc w := by kernel_rfl

theorem range_gt (k : Nat) (h1 : 1 ≤ k) (h2 : k ≤ 32) (b : Nat) (l : List (List UInt8)) (hdl : ∀ d ∈ l, d.length = 32) (hfl : ∀ d ∈ l, fm (k : Int) d = true) (lo hi : UInt64) (w : World) (hK : KW w) (ps : List Pk) (a : Option Addr) (c : Nat) (ht : TreeAt 110 79 k w b l ps a c) (hl63 : l.length < 9223372036854775808) (hgt : hi < lo) : Calls Tryd.prog 39 #[vPtr b, vU64 lo, vU64 hi] w fun e w' => ∃ v, e = .returned v ∧ v = .tuple #[.agg (((rngO k l lo hi).1).map vU8).toArray, vInt (((rngO k l lo hi).2 : Nat) : Int)] ∧ Mem w [] [] w' := by
  have hlen : (UInt64.ofNat l.length).toNat = l.length := of_nat (by omega)
  refine calls_of_sw (vs := [vPtr b, vU64 lo, vU64 hi]) Tryd.func39 rfl Tryd.ntmps39 rfl (SW.begin ?_)
  refine sw_seq ?_
  refine sw_region ?_
  refine ow_new (acts_box rfl) rfl (fun b3 hb3 => ?_)
  refine ow_new (acts_alloc zD) rfl (fun b6 hb6 => ?_)
  refine ow_val (val_assign rfl) rfl ?_
  refine ow_nil (into ?_)
  refine sw_seq ?_
  refine sw_block ?_
  refine sw_seq ?_
  refine sw_region ?_
  refine ow_val (val_load_at 1 rfl rfl Tryd.isAgg25 rfl) rfl ?_
  refine ow_val (val_eql_nilptr Tryd.underlying25 rfl rfl) rfl ?_
  refine ow_val (val_assign rfl) rfl ?_
  refine ow_nil (into ?_)
  refine sw_false rfl rfl ?_
  refine sw_seq ?_
  refine sw_region ?_
  refine ow_val (val_move rfl) rfl ?_
  refine ow_val (val_move rfl) rfl ?_
  refine ow_val ((val_gtr_u64 rfl rfl).to (v' := .bool true) (congrArg Value.bool (decide_eq_true hgt))) rfl ?_
  refine ow_val (val_move rfl) rfl ?_
  first | refine ow_guard_no rfl rfl rfl rfl rfl ?_ | refine ow_guard_none rfl rfl rfl rfl rfl ?_
  first | refine ow_guard_no rfl rfl rfl rfl rfl ?_ | refine ow_guard_none rfl rfl rfl rfl rfl ?_
  first | refine ow_guard_no rfl rfl rfl rfl rfl ?_ | refine ow_guard_none rfl rfl rfl rfl rfl ?_
  first | refine ow_guard_no rfl rfl rfl rfl rfl ?_ | refine ow_guard_none rfl rfl rfl rfl rfl ?_
  first | refine ow_guard_no rfl rfl rfl rfl rfl ?_ | refine ow_guard_none rfl rfl rfl rfl rfl ?_
  first | refine ow_guard_no rfl rfl rfl rfl rfl ?_ | refine ow_guard_none rfl rfl rfl rfl rfl ?_
  refine ow_val (val_pick_true rfl rfl) rfl ?_
  refine ow_val (val_assign rfl) rfl ?_
  refine ow_nil (into ?_)
  refine sw_true rfl rfl ?_
  refine sw_seq ?_
  refine sw_region ?_
  refine ow_val (val_build' (cs := zeros32.map vU8) rfl (by kernel_rfl)) rfl ?_
  refine ow_do_eq (does_store_all 0 rfl rfl rfl (one_u8s _) Tryd.sizeOf41 (by show (List.map vU8 zeros32).length = _; rw [List.length_map]; exact zeros32_len) (by show (List.map vU8 zeros32).length = _; rw [List.length_map]; exact zeros32_len)) ?_
  refine ow_val (val_assign rfl) rfl ?_
  refine ow_nil (into ?_)
  refine sw_ret (fun w hm => ?_)
  try dsimp only [thenP, blockP, Nat.beq, cond]
  exact ret_cell_two 0 rfl rfl rfl hm rfl Tryd.isAgg41 Tryd.sizeOf41 (by show (List.map vU8 zeros32).length = _; rw [List.length_map]; exact zeros32_len) ⟨by rw [rngO, if_pos (.inl hgt)] <;> rfl, hm.forgetAll⟩

theorem range_sz (k : Nat) (h1 : 1 ≤ k) (h2 : k ≤ 32) (b : Nat) (l : List (List UInt8)) (hdl : ∀ d ∈ l, d.length = 32) (hfl : ∀ d ∈ l, fm (k : Int) d = true) (lo hi : UInt64) (w : World) (hK : KW w) (ps : List Pk) (a : Option Addr) (c : Nat) (ht : TreeAt 110 79 k w b l ps a c) (hl63 : l.length < 9223372036854775808) (hgt : ¬ hi < lo) (hsz : UInt64.ofNat l.length < hi) : Calls Tryd.prog 39 #[vPtr b, vU64 lo, vU64 hi] w fun e w' => ∃ v, e = .returned v ∧ v = .tuple #[.agg (((rngO k l lo hi).1).map vU8).toArray, vInt (((rngO k l lo hi).2 : Nat) : Int)] ∧ Mem w [] [] w' := by
  have hlen : (UInt64.ofNat l.length).toNat = l.length := of_nat (by omega)
  refine calls_of_sw (vs := [vPtr b, vU64 lo, vU64 hi]) Tryd.func39 rfl Tryd.ntmps39 rfl (SW.begin ?_)
  refine sw_seq ?_
  refine sw_region ?_
  refine ow_new (acts_box rfl) rfl (fun b3 hb3 => ?_)
  refine ow_new (acts_alloc zD) rfl (fun b6 hb6 => ?_)
  refine ow_val (val_assign rfl) rfl ?_
  refine ow_nil (into ?_)
  refine sw_seq ?_
  refine sw_block ?_
  refine sw_seq ?_
  refine sw_region ?_
  refine ow_val (val_load_at 1 rfl rfl Tryd.isAgg25 rfl) rfl ?_
  refine ow_val (val_eql_nilptr Tryd.underlying25 rfl rfl) rfl ?_
  refine ow_val (val_assign rfl) rfl ?_
  refine ow_nil (into ?_)
  refine sw_false rfl rfl ?_
  refine sw_seq ?_
  refine sw_region ?_
  refine ow_val (val_move rfl) rfl ?_
  refine ow_val (val_move rfl) rfl ?_
  refine ow_val ((val_gtr_u64 rfl rfl).to (v' := .bool false) (congrArg Value.bool (decide_eq_false hgt))) rfl ?_
  refine ow_val (val_move rfl) rfl ?_
  refine ow_guard_yes rfl rfl rfl ?_
  refine ow_val (val_move rfl) rfl ?_
  refine ow_guard_yes rfl rfl rfl ?_
  refine ow_val (val_load_at 1 rfl rfl Tryd.isAgg25 rfl) rfl ?_
  refine ow_guard_yes rfl rfl rfl ?_
  refine ow_val (val_nilCheck rfl) rfl ?_
  refine ow_guard_yes rfl rfl rfl ?_
  refine ow_val (val_fieldAddr (m := 0) (e := 1) rfl Tryd.underlying79 rfl rfl Tryd.sizeOf23 rfl) rfl ?_
  refine ow_guard_yes rfl rfl rfl ?_
  refine ow_val (val_load_old ht.blk (List.not_mem_nil) rfl Tryd.isAgg23 rfl) rfl ?_
  refine ow_guard_yes rfl rfl rfl ?_
  refine ow_val ((val_gtr_u64 rfl rfl).to (v' := .bool true) (congrArg Value.bool (decide_eq_true hsz))) rfl ?_
  refine ow_val (val_pick_false rfl rfl) rfl ?_
  refine ow_val (val_assign rfl) rfl ?_
  refine ow_nil (into ?_)
  refine sw_true rfl rfl ?_
  refine sw_seq ?_
  refine sw_region ?_
  refine ow_val (val_build' (cs := zeros32.map vU8) rfl (by kernel_rfl)) rfl ?_
  refine ow_do_eq (does_store_all 0 rfl rfl rfl (one_u8s _) Tryd.sizeOf41 (by show (List.map vU8 zeros32).length = _; rw [List.length_map]; exact zeros32_len) (by show (List.map vU8 zeros32).length = _; rw [List.length_map]; exact zeros32_len)) ?_
  refine ow_val (val_assign rfl) rfl ?_
  refine ow_nil (into ?_)
  refine sw_ret (fun w hm => ?_)
  try dsimp only [thenP, blockP, Nat.beq, cond]
  exact ret_cell_two 0 rfl rfl rfl hm rfl Tryd.isAgg41 Tryd.sizeOf41 (by show (List.map vU8 zeros32).length = _; rw [List.length_map]; exact zeros32_len) ⟨by rw [rngO, if_pos (.inr (by have h9 := UInt64.lt_iff_toNat_lt.1 hsz; omega))] <;> rfl, hm.forgetAll⟩

theorem range_eq (k : Nat) (h1 : 1 ≤ k) (h2 : k ≤ 32) (b : Nat) (l : List (List UInt8)) (hdl : ∀ d ∈ l, d.length = 32) (hfl : ∀ d ∈ l, fm (k : Int) d = true) (lo hi : UInt64) (w : World) (hK : KW w) (ps : List Pk) (a : Option Addr) (c : Nat) (ht : TreeAt 110 79 k w b l ps a c) (hl63 : l.length < 9223372036854775808) (hgt : ¬ hi < lo) (hsz : ¬ UInt64.ofNat l.length < hi) (heq : lo = hi) : Calls Tryd.prog 39 #[vPtr b, vU64 lo, vU64 hi] w fun e w' => ∃ v, e = .returned v ∧ v = .tuple #[.agg (((rngO k l lo hi).1).map vU8).toArray, vInt (((rngO k l lo hi).2 : Nat) : Int)] ∧ Mem w [] [] w' := by
  have hlen : (UInt64.ofNat l.length).toNat = l.length := of_nat (by omega)
  refine calls_of_sw (vs := [vPtr b, vU64 lo, vU64 hi]) Tryd.func39 rfl Tryd.ntmps39 rfl (SW.begin ?_)
  refine sw_seq ?_
  refine sw_region ?_
  refine ow_new (acts_box rfl) rfl (fun b3 hb3 => ?_)
  refine ow_new (acts_alloc zD) rfl (fun b6 hb6 => ?_)
  refine ow_val (val_assign rfl) rfl ?_
  refine ow_nil (into ?_)
  refine sw_seq ?_
  refine sw_block ?_
  refine sw_seq ?_
  refine sw_region ?_
  refine ow_val (val_load_at 1 rfl rfl Tryd.isAgg25 rfl) rfl ?_
  refine ow_val (val_eql_nilptr Tryd.underlying25 rfl rfl) rfl ?_
  refine ow_val (val_assign rfl) rfl ?_
  refine ow_nil (into ?_)
  refine sw_false rfl rfl ?_
  refine sw_seq ?_
  refine sw_region ?_
  refine ow_val (val_move rfl) rfl ?_
  refine ow_val (val_move rfl) rfl ?_
  refine ow_val ((val_gtr_u64 rfl rfl).to (v' := .bool false) (congrArg Value.bool (decide_eq_false hgt))) rfl ?_
  refine ow_val (val_move rfl) rfl ?_
  refine ow_guard_yes rfl rfl rfl ?_
  refine ow_val (val_move rfl) rfl ?_
  refine ow_guard_yes rfl rfl rfl ?_
  refine ow_val (val_load_at 1 rfl rfl Tryd.isAgg25 rfl) rfl ?_
  refine ow_guard_yes rfl rfl rfl ?_
  refine ow_val (val_nilCheck rfl) rfl ?_
  refine ow_guard_yes rfl rfl rfl ?_
  refine ow_val (val_fieldAddr (m := 0) (e := 1) rfl Tryd.underlying79 rfl rfl Tryd.sizeOf23 rfl) rfl ?_
  refine ow_guard_yes rfl rfl rfl ?_
  refine ow_val (val_load_old ht.blk (List.not_mem_nil) rfl Tryd.isAgg23 rfl) rfl ?_
  refine ow_guard_yes rfl rfl rfl ?_
  refine ow_val ((val_gtr_u64 rfl rfl).to (v' := .bool false) (congrArg Value.bool (decide_eq_false hsz))) rfl ?_
  refine ow_val (val_pick_false rfl rfl) rfl ?_
  refine ow_val (val_assign rfl) rfl ?_
  refine ow_nil (into ?_)
  refine sw_false rfl rfl ?_
  refine sw_seq ?_
  refine sw_region ?_
  refine ow_val (val_move rfl) rfl ?_
  refine ow_val (val_move rfl) rfl ?_
  refine ow_val ((val_eql_u64 rfl rfl).to (v' := .bool true) (congrArg Value.bool (decide_eq_true heq))) rfl ?_
  refine ow_val (val_assign rfl) rfl ?_
  refine ow_nil (into ?_)
  refine sw_true rfl rfl ?_
  refine sw_seq ?_
  refine sw_region ?_
  refine ow_val (val_load_at 1 rfl rfl Tryd.isAgg25 rfl) rfl ?_
  refine ow_val (val_nilCheck rfl) rfl ?_
  refine ow_val (val_fieldAddr (m := 0) (e := 0) rfl Tryd.underlying79 rfl rfl Tryd.sizeOf3 rfl) rfl ?_
  refine ow_val (val_load_old ht.blk (List.not_mem_nil) rfl Tryd.isAgg3 rfl) rfl ?_
  refine ow_call_pure (v := .tuple #[.agg ((dig k []).map vU8).toArray, vInt ((0 : Nat) : Int)]) (callsTo Tryd.func63 rfl (by kernel_rfl) rfl) rfl (fun w hm => (by have h := nolog_any (k : Int) w (hK.mem0 hm); rw [digO_yes h1 h2] at h; exact h)) ?_
  refine ow_val (val_extract rfl rfl) rfl ?_
  refine ow_val (val_extract rfl rfl) rfl ?_
  refine ow_do_eq (does_store_all 0 rfl rfl rfl (one_u8s _) Tryd.sizeOf41 (by show (List.map vU8 (dig k [])).length = _; rw [List.length_map]; exact (dig_len _ h2)) (by show (List.map vU8 zeros32).length = _; rw [List.length_map]; exact zeros32_len)) ?_
  refine ow_val (val_assign rfl) rfl ?_
  refine ow_nil (into ?_)
  refine sw_ret (fun w hm => ?_)
  try dsimp only [thenP, blockP, Nat.beq, cond]
  exact ret_cell_two 0 rfl rfl rfl hm rfl Tryd.isAgg41 Tryd.sizeOf41 (by show (List.map vU8 (dig k [])).length = _; rw [List.length_map]; exact (dig_len _ h2)) ⟨by rw [rngO, if_neg (fun h => h.elim hgt (fun h => hsz (UInt64.lt_iff_toNat_lt.2 (by omega)))), heq, Nat.sub_self, List.take_zero, lg_nil] <;> rfl, hm.forgetAll⟩

theorem range_go (k : Nat) (h1 : 1 ≤ k) (h2 : k ≤ 32) (b : Nat) (l : List (List UInt8)) (hdl : ∀ d ∈ l, d.length = 32) (hfl : ∀ d ∈ l, fm (k : Int) d = true) (lo hi : UInt64) (w : World) (hK : KW w) (ps : List Pk) (a : Option Addr) (c : Nat) (ht : TreeAt 110 79 k w b l ps a c) (hl63 : l.length < 9223372036854775808) (hgt : ¬ hi < lo) (hsz : ¬ UInt64.ofNat l.length < hi) (heq : ¬ lo = hi) : Calls Tryd.prog 39 #[vPtr b, vU64 lo, vU64 hi] w fun e w' => ∃ v, e = .returned v ∧ v = .tuple #[.agg (((rngO k l lo hi).1).map vU8).toArray, vInt (((rngO k l lo hi).2 : Nat) : Int)] ∧ Mem w [] [] w' := by
  have hlen : (UInt64.ofNat l.length).toNat = l.length := of_nat (by omega)
  have hle := Nat.le_of_not_lt (mt UInt64.lt_iff_toNat_lt.2 hgt)
  have hls := Nat.le_of_not_lt (mt UInt64.lt_iff_toNat_lt.2 hsz)
  have hne : lo.toNat ≠ hi.toNat := fun h => heq (UInt64.toNat.inj h)
  refine calls_of_sw (vs := [vPtr b, vU64 lo, vU64 hi]) Tryd.func39 rfl Tryd.ntmps39 rfl (SW.begin ?_)
  refine sw_seq ?_
  refine sw_region ?_
  refine ow_new (acts_box rfl) rfl (fun b3 hb3 => ?_)
  refine ow_new (acts_alloc zD) rfl (fun b6 hb6 => ?_)
  refine ow_val (val_assign rfl) rfl ?_
  refine ow_nil (into ?_)
  refine sw_seq ?_
  refine sw_block ?_
  refine sw_seq ?_
  refine sw_region ?_
  refine ow_val (val_load_at 1 rfl rfl Tryd.isAgg25 rfl) rfl ?_
  refine ow_val (val_eql_nilptr Tryd.underlying25 rfl rfl) rfl ?_
  refine ow_val (val_assign rfl) rfl ?_
  refine ow_nil (into ?_)
  refine sw_false rfl rfl ?_
  refine sw_seq ?_
  refine sw_region ?_
  refine ow_val (val_move rfl) rfl ?_
  refine ow_val (val_move rfl) rfl ?_
  refine ow_val ((val_gtr_u64 rfl rfl).to (v' := .bool false) (congrArg Value.bool (decide_eq_false hgt))) rfl ?_
  refine ow_val (val_move rfl) rfl ?_
  refine ow_guard_yes rfl rfl rfl ?_
  refine ow_val (val_move rfl) rfl ?_
  refine ow_guard_yes rfl rfl rfl ?_
  refine ow_val (val_load_at 1 rfl rfl Tryd.isAgg25 rfl) rfl ?_
  refine ow_guard_yes rfl rfl rfl ?_
  refine ow_val (val_nilCheck rfl) rfl ?_
  refine ow_guard_yes rfl rfl rfl ?_
  refine ow_val (val_fieldAddr (m := 0) (e := 1) rfl Tryd.underlying79 rfl rfl Tryd.sizeOf23 rfl) rfl ?_
  refine ow_guard_yes rfl rfl rfl ?_
  refine ow_val (val_load_old ht.blk (List.not_mem_nil) rfl Tryd.isAgg23 rfl) rfl ?_
  refine ow_guard_yes rfl rfl rfl ?_
  refine ow_val ((val_gtr_u64 rfl rfl).to (v' := .bool false) (congrArg Value.bool (decide_eq_false hsz))) rfl ?_
  refine ow_val (val_pick_false rfl rfl) rfl ?_
  refine ow_val (val_assign rfl) rfl ?_
  refine ow_nil (into ?_)
  refine sw_false rfl rfl ?_
  refine sw_seq ?_
  refine sw_region ?_
  refine ow_val (val_move rfl) rfl ?_
  refine ow_val (val_move rfl) rfl ?_
  refine ow_val ((val_eql_u64 rfl rfl).to (v' := .bool false) (congrArg Value.bool (decide_eq_false heq))) rfl ?_
  refine ow_val (val_assign rfl) rfl ?_
  refine ow_nil (into ?_)
  refine sw_false rfl rfl ?_
  refine sw_skip (into ?_)
  refine sw_seq ?_
  refine sw_region ?_
  refine ow_new (acts_alloc zFn) rfl (fun b8 hb8 => ?_)
  refine ow_nil (into ?_)
  refine sw_seq ?_
  refine sw_region ?_
  refine ow_val (val_makeFunc (vs := #[vPtr b3, vPtr b8]) (fun a hf => by have h := evs_eval (xs := [.tmp 3, .tmp 8]) (vs := [vPtr b3, vPtr b8]) hf rfl; simpa using h)) rfl ?_
  refine ow_do (does_store 0 rfl rfl rfl rfl Tryd.sizeOf80 (by decide)) (fun _ _ => ?_)
  refine ow_nil (into ?_)
  refine sw_seq ?_
  refine sw_region ?_
  refine ow_val (val_load_at 0 rfl rfl Tryd.isAgg80 rfl) rfl ?_
  refine ow_val (val_move rfl) rfl ?_
  refine ow_val (val_move rfl) rfl ?_
  refine ow_call_pure (v := .agg ((lg k ((l.drop lo.toNat).take (hi.toNat - lo.toNat))).map vU8).toArray) (callsToVal (cap := [vPtr b3, vPtr b8]) rfl Tryd.func69 rfl (by kernel_rfl) rfl) rfl (fun w hm => part_any k h1 h2 b l hdl hfl b3 b8 ps a c hl63 _ lo hi w (Nat.le_refl _) (hK.mem0 hm) (ht.mem hm) (hm.at (i := 2) rfl) (hm.at (i := 0) rfl) (by omega) (by omega)) ?_
  refine ow_do_eq (does_store_all 1 rfl rfl rfl (one_u8s _) Tryd.sizeOf41 (by show (List.map vU8 (lg k ((l.drop lo.toNat).take (hi.toNat - lo.toNat)))).length = _; rw [List.length_map]; exact (lg_len h2 _ rfl (fun d hd => hdl d (List.mem_of_mem_drop (List.mem_of_mem_take hd))))) (by show (List.map vU8 zeros32).length = _; rw [List.length_map]; exact zeros32_len)) ?_
  refine ow_val (val_assign rfl) rfl ?_
  refine ow_nil (into ?_)
  exact sw_ret (fun w hm => ret_cell_two 1 rfl rfl rfl hm rfl Tryd.isAgg41 Tryd.sizeOf41 (by show (List.map vU8 (lg k ((l.drop lo.toNat).take (hi.toNat - lo.toNat)))).length = _; rw [List.length_map]; exact (lg_len h2 _ rfl (fun d hd => hdl d (List.mem_of_mem_drop (List.mem_of_mem_take hd))))) ⟨by rw [rngO, if_neg (fun h => h.elim hgt (fun h => hsz (UInt64.lt_iff_toNat_lt.2 (by omega))))] <;> rfl, hm.forgetAll⟩)

theorem range_any (k : Nat) (h1 : 1 ≤ k) (h2 : k ≤ 32) (b : Nat) (l : List (List UInt8)) (hdl : ∀ d ∈ l, d.length = 32) (hfl : ∀ d ∈ l, fm (k : Int) d = true) (lo hi : UInt64) (w : World) (hK : KW w) (ht : TreeIs 110 79 k w b l) (hl63 : l.length < 9223372036854775808) : Calls Tryd.prog 39 #[vPtr b, vU64 lo, vU64 hi] w fun e w' => ∃ v, e = .returned v ∧ v = .tuple #[.agg (((rngO k l lo hi).1).map vU8).toArray, vInt (((rngO k l lo hi).2 : Nat) : Int)] ∧ Mem w [] [] w' := by
  obtain ⟨ps, a, c, ht⟩ := ht
  by_cases hgt : hi < lo
  · exact range_gt k h1 h2 b l hdl hfl lo hi w hK ps a c ht hl63 hgt
  by_cases hsz : UInt64.ofNat l.length < hi
  · exact range_sz k h1 h2 b l hdl hfl lo hi w hK ps a c ht hl63 hgt hsz
  by_cases heq : lo = hi
  · exact range_eq k h1 h2 b l hdl hfl lo hi w hK ps a c ht hl63 hgt hsz heq
  · exact range_go k h1 h2 b l hdl hfl lo hi w hK ps a c ht hl63 hgt hsz heq

theorem range_nil (lo hi : UInt64) (w : World) : Calls Tryd.prog 39 #[.pointer none, vU64 lo, vU64 hi] w fun e w' => ∃ v, e = .returned v ∧ v = .tuple #[.agg ((zeros32).map vU8).toArray, vInt ((5 : Nat) : Int)] ∧ Mem w [] [] w' := by
  refine calls_of_sw (vs := [.pointer none, vU64 lo, vU64 hi]) Tryd.func39 rfl Tryd.ntmps39 rfl (SW.begin ?_)
  refine sw_seq ?_
  refine sw_region ?_
  refine ow_new (acts_box rfl) rfl (fun b3 hb3 => ?_)
  refine ow_new (acts_alloc zD) rfl (fun b6 hb6 => ?_)
  refine ow_val (val_assign rfl) rfl ?_
  refine ow_nil (into ?_)
  refine sw_seq ?_
  refine sw_block ?_
  refine sw_seq ?_
  refine sw_region ?_
  refine ow_val (val_load_at 1 rfl rfl Tryd.isAgg25 rfl) rfl ?_
  refine ow_val (val_eql_nilptr Tryd.underlying25 rfl rfl) rfl ?_
  refine ow_val (val_assign rfl) rfl ?_
  refine ow_nil (into ?_)
  refine sw_true rfl rfl ?_
  refine sw_seq ?_
  refine sw_region ?_
  refine ow_val (val_build' (cs := zeros32.map vU8) rfl (by kernel_rfl)) rfl ?_
  refine ow_do_eq (does_store_all 0 rfl rfl rfl (one_u8s _) Tryd.sizeOf41 (by show (List.map vU8 zeros32).length = _; rw [List.length_map]; exact zeros32_len) (by show (List.map vU8 zeros32).length = _; rw [List.length_map]; exact zeros32_len)) ?_
  refine ow_val (val_assign rfl) rfl ?_
  refine ow_nil (into ?_)
  refine sw_ret (fun w hm => ?_)
  try dsimp only [thenP, blockP, Nat.beq, cond]
  exact ret_cell_two 0 rfl rfl rfl hm rfl Tryd.isAgg41 Tryd.sizeOf41 rfl ⟨rfl, hm.forgetAll⟩

theorem rngO_len {k : Nat} (h2 : k ≤ 32) {l : List (List UInt8)} (h : ∀ d ∈ l, d.length = 32) {lo hi : UInt64} : (rngO k l lo hi).1.length = 32 := by
  unfold rngO; split
  · rfl
  · exact lg_len h2 _ rfl (fun d hd => h d (List.mem_of_mem_drop (List.mem_of_mem_take hd)))
/-- What Leaf answers. -/
def leafO (l : List (List UInt8)) (i : UInt64) : List UInt8 × Nat := if l.length ≤ i.toNat then (zeros32, 4) else (l.getD i.toNat default, 0)
theorem leafO_len {l : List (List UInt8)} (h : ∀ d ∈ l, d.length = 32) {i : UInt64} : (leafO l i).1.length = 32 := by
  unfold leafO; split
  · rfl
  · exact h _ (getD_mem (by omega))
theorem take_one {l : List (List UInt8)} {i : Nat} (h : i < l.length) (k : Nat) : lg k ((l.drop i).take 1) = l.getD i default := by
  rw [List.drop_eq_getElem_cons h, List.take_succ_cons, List.take_zero, lg_one, List.getD_eq_getElem?_getD, List.getElem?_eq_getElem h, Option.getD_some]

theorem root_any (k : Nat) (h1 : 1 ≤ k) (h2 : k ≤ 32) (b : Nat) (l : List (List UInt8)) (hdl : ∀ d ∈ l, d.length = 32) (hfl : ∀ d ∈ l, fm (k : Int) d = true) (n : UInt64) (w : World) (hK : KW w) (ht : TreeIs 110 79 k w b l) (hl63 : l.length < 9223372036854775808) : Calls Tryd.prog 26 #[vPtr b, vU64 n] w fun e w' => ∃ v, e = .returned v ∧ v = .tuple #[.agg (((rngO k l 0 n).1).map vU8).toArray, vInt (((rngO k l 0 n).2 : Nat) : Int)] ∧ Mem w [] [] w' := by
  refine calls_of_sw (vs := [vPtr b, vU64 n]) Tryd.func26 rfl Tryd.ntmps26 rfl (SW.begin ?_)
  refine sw_seq ?_
  refine sw_region ?_
  refine ow_new (acts_alloc zD) rfl (fun b4 hb4 => ?_)
  refine ow_val (val_assign rfl) rfl ?_
  refine ow_nil (into ?_)
  refine sw_seq ?_
  refine sw_region ?_
  refine ow_val (val_move rfl) rfl ?_
  refine ow_val (val_move rfl) rfl ?_
  refine ow_call_pure (callsTo Tryd.func39 rfl (by kernel_rfl) rfl) rfl (fun w hm => range_any k h1 h2 b l hdl hfl 0 n w (hK.mem0 hm) (ht.mem hm) hl63) ?_
  refine ow_val (val_extract rfl rfl) rfl ?_
  refine ow_val (val_extract rfl rfl) rfl ?_
  refine ow_do_eq (does_store_all 0 rfl rfl rfl (one_u8s _) Tryd.sizeOf41 (by show (List.map vU8 ((rngO k l 0 n).1)).length = _; rw [List.length_map]; exact (rngO_len h2 hdl)) (by show (List.map vU8 zeros32).length = _; rw [List.length_map]; exact zeros32_len)) ?_
  refine ow_val (val_assign rfl) rfl ?_
  refine ow_nil (into ?_)
  exact sw_ret (fun w hm => ret_cell_two 0 rfl rfl rfl hm rfl Tryd.isAgg41 Tryd.sizeOf41 (by rw [List.length_map]; exact rngO_len h2 hdl) ⟨rfl, hm.forgetAll⟩)

theorem root_nil (n : UInt64) (w : World) : Calls Tryd.prog 26 #[.pointer none, vU64 n] w fun e w' => ∃ v, e = .returned v ∧ v = .tuple #[.agg ((zeros32).map vU8).toArray, vInt ((5 : Nat) : Int)] ∧ Mem w [] [] w' := by
  refine calls_of_sw (vs := [.pointer none, vU64 n]) Tryd.func26 rfl Tryd.ntmps26 rfl (SW.begin ?_)
  refine sw_seq ?_
  refine sw_region ?_
  refine ow_new (acts_alloc zD) rfl (fun b4 hb4 => ?_)
  refine ow_val (val_assign rfl) rfl ?_
  refine ow_nil (into ?_)
  refine sw_seq ?_
  refine sw_region ?_
  refine ow_val (val_move rfl) rfl ?_
  refine ow_val (val_move rfl) rfl ?_
  refine ow_call_pure (v := .tuple #[.agg ((zeros32).map vU8).toArray, vInt ((5 : Nat) : Int)]) (callsTo Tryd.func39 rfl (by kernel_rfl) rfl) rfl (fun w hm => range_nil 0 n w) ?_
  refine ow_val (val_extract rfl rfl) rfl ?_
  refine ow_val (val_extract rfl rfl) rfl ?_
  refine ow_do_eq (does_store_all 0 rfl rfl rfl (one_u8s _) Tryd.sizeOf41 (by show (List.map vU8 zeros32).length = _; rw [List.length_map]; exact zeros32_len) (by show (List.map vU8 zeros32).length = _; rw [List.length_map]; exact zeros32_len)) ?_
  refine ow_val (val_assign rfl) rfl ?_
  refine ow_nil (into ?_)
  exact sw_ret (fun w hm => ret_cell_two 0 rfl rfl rfl hm rfl Tryd.isAgg41 Tryd.sizeOf41 rfl ⟨rfl, hm.forgetAll⟩)

theorem leaf_no (k : Nat) (h1 : 1 ≤ k) (h2 : k ≤ 32) (b : Nat) (l : List (List UInt8)) (hdl : ∀ d ∈ l, d.length = 32) (i : UInt64) (w : World) (ps : List Pk) (a : Option Addr) (c : Nat) (ht : TreeAt 110 79 k w b l ps a c) (hl63 : l.length < 9223372036854775808) (hi : UInt64.ofNat l.length ≤ i) : Calls Tryd.prog 28 #[vPtr b, vU64 i] w fun e w' => ∃ v, e = .returned v ∧ v = .tuple #[.agg (((leafO l i).1).map vU8).toArray, vInt (((leafO l i).2 : Nat) : Int)] ∧ Mem w [] [] w' := by
  have hlen : (UInt64.ofNat l.length).toNat = l.length := of_nat (by omega)
  refine calls_of_sw (vs := [vPtr b, vU64 i]) Tryd.func28 rfl Tryd.ntmps28 rfl (SW.begin ?_)
  refine sw_seq ?_
  refine sw_region ?_
  refine ow_new (acts_alloc zD) rfl (fun b4 hb4 => ?_)
  refine ow_val (val_assign rfl) rfl ?_
  refine ow_nil (into ?_)
  refine sw_seq ?_
  refine sw_block ?_
  refine sw_seq ?_
  refine sw_region ?_
  refine ow_val (val_move rfl) rfl ?_
  refine ow_val (val_eql_nilptr Tryd.underlying25 rfl rfl) rfl ?_
  refine ow_val (val_assign rfl) rfl ?_
  refine ow_nil (into ?_)
  refine sw_false rfl rfl ?_
  refine sw_seq ?_
  refine sw_region ?_
  refine ow_val (val_move rfl) rfl ?_
  refine ow_val (val_move rfl) rfl ?_
  refine ow_val (val_nilCheck rfl) rfl ?_
  refine ow_val (val_fieldAddr (m := 0) (e := 1) rfl Tryd.underlying79 rfl rfl Tryd.sizeOf23 rfl) rfl ?_
  refine ow_val (val_load_old ht.blk (List.not_mem_nil) rfl Tryd.isAgg23 rfl) rfl ?_
  refine ow_val ((val_geq_u64 rfl rfl).to (v' := .bool true) (congrArg Value.bool (decide_eq_true hi))) rfl ?_
  refine ow_val (val_assign rfl) rfl ?_
  refine ow_nil (into ?_)
  refine sw_true rfl rfl ?_
  refine sw_seq ?_
  refine sw_region ?_
  refine ow_val (val_build' (cs := zeros32.map vU8) rfl (by kernel_rfl)) rfl ?_
  refine ow_do_eq (does_store_all 0 rfl rfl rfl (one_u8s _) Tryd.sizeOf41 (by show (List.map vU8 zeros32).length = _; rw [List.length_map]; exact zeros32_len) (by show (List.map vU8 zeros32).length = _; rw [List.length_map]; exact zeros32_len)) ?_
  refine ow_val (val_assign rfl) rfl ?_
  refine ow_nil (into ?_)
  refine sw_ret (fun w hm => ?_)
  try dsimp only [thenP, blockP, Nat.beq, cond]
  exact ret_cell_two 0 rfl rfl rfl hm rfl Tryd.isAgg41 Tryd.sizeOf41 rfl ⟨by rw [leafO, if_pos (by have h9 := UInt64.le_iff_toNat_le.1 hi; omega)] <;> rfl, hm.forgetAll⟩

theorem leaf_yes (k : Nat) (h1 : 1 ≤ k) (h2 : k ≤ 32) (b : Nat) (l : List (List UInt8)) (hdl : ∀ d ∈ l, d.length = 32) (i : UInt64) (w : World) (ps : List Pk) (a : Option Addr) (c : Nat) (ht : TreeAt 110 79 k w b l ps a c) (hl63 : l.length < 9223372036854775808) (hi : ¬ UInt64.ofNat l.length ≤ i) : Calls Tryd.prog 28 #[vPtr b, vU64 i] w fun e w' => ∃ v, e = .returned v ∧ v = .tuple #[.agg (((leafO l i).1).map vU8).toArray, vInt (((leafO l i).2 : Nat) : Int)] ∧ Mem w [] [] w' := by
  have hlen : (UInt64.ofNat l.length).toNat = l.length := of_nat (by omega)
  have hgl : (l.getD i.toNat default).length = 32 := hdl _ (getD_mem (by have h9 := mt UInt64.le_iff_toNat_le.2 hi; omega))
  refine calls_of_sw (vs := [vPtr b, vU64 i]) Tryd.func28 rfl Tryd.ntmps28 rfl (SW.begin ?_)
  refine sw_seq ?_
  refine sw_region ?_
  refine ow_new (acts_alloc zD) rfl (fun b4 hb4 => ?_)
  refine ow_val (val_assign rfl) rfl ?_
  refine ow_nil (into ?_)
  refine sw_seq ?_
  refine sw_block ?_
  refine sw_seq ?_
  refine sw_region ?_
  refine ow_val (val_move rfl) rfl ?_
  refine ow_val (val_eql_nilptr Tryd.underlying25 rfl rfl) rfl ?_
  refine ow_val (val_assign rfl) rfl ?_
  refine ow_nil (into ?_)
  refine sw_false rfl rfl ?_
  refine sw_seq ?_
  refine sw_region ?_
  refine ow_val (val_move rfl) rfl ?_
  refine ow_val (val_move rfl) rfl ?_
  refine ow_val (val_nilCheck rfl) rfl ?_
  refine ow_val (val_fieldAddr (m := 0) (e := 1) rfl Tryd.underlying79 rfl rfl Tryd.sizeOf23 rfl) rfl ?_
  refine ow_val (val_load_old ht.blk (List.not_mem_nil) rfl Tryd.isAgg23 rfl) rfl ?_
  refine ow_val ((val_geq_u64 rfl rfl).to (v' := .bool false) (congrArg Value.bool (decide_eq_false hi))) rfl ?_
  refine ow_val (val_assign rfl) rfl ?_
  refine ow_nil (into ?_)
  refine sw_false rfl rfl ?_
  refine sw_skip (into ?_)
  refine sw_seq ?_
  refine sw_region ?_
  refine ow_val (val_move rfl) rfl ?_
  refine ow_val (val_move rfl) rfl ?_
  refine ow_call_pure (v := .agg ((l.getD i.toNat default).map vU8).toArray) (callsTo Tryd.func57 rfl (by kernel_rfl) rfl) rfl (fun w hm => (by have h := whole_any k h1 h2 w b l hdl ps a c (ht.mem hm) hl63 i 1 0 rfl (Nat.one_dvd _) (by have h9 := mt UInt64.le_iff_toNat_le.2 hi; omega); rw [show (2 : Nat) ^ 0 = 1 from rfl, take_one (by have h9 := mt UInt64.le_iff_toNat_le.2 hi; omega)] at h; exact h)) ?_
  refine ow_do_eq (does_store_all 0 rfl rfl rfl (one_u8s _) Tryd.sizeOf41 (by show (List.map vU8 (l.getD i.toNat default)).length = _; rw [List.length_map]; exact hgl) (by show (List.map vU8 zeros32).length = _; rw [List.length_map]; exact zeros32_len)) ?_
  refine ow_val (val_assign rfl) rfl ?_
  refine ow_nil (into ?_)
  exact sw_ret (fun w hm => ret_cell_two 0 rfl rfl rfl hm rfl Tryd.isAgg41 Tryd.sizeOf41 (by rw [List.length_map]; exact hgl) ⟨by rw [leafO, if_neg (by have h9 := mt UInt64.le_iff_toNat_le.2 hi; omega)] <;> rfl, hm.forgetAll⟩)

theorem tleaf_any (k : Nat) (h1 : 1 ≤ k) (h2 : k ≤ 32) (b : Nat) (l : List (List UInt8)) (hdl : ∀ d ∈ l, d.length = 32) (i : UInt64) (w : World) (ht : TreeIs 110 79 k w b l) (hl63 : l.length < 9223372036854775808) : Calls Tryd.prog 28 #[vPtr b, vU64 i] w fun e w' => ∃ v, e = .returned v ∧ v = .tuple #[.agg (((leafO l i).1).map vU8).toArray, vInt (((leafO l i).2 : Nat) : Int)] ∧ Mem w [] [] w' := by
  obtain ⟨ps, a, c, ht⟩ := ht
  by_cases hi : UInt64.ofNat l.length ≤ i
  · exact leaf_no k h1 h2 b l hdl i w ps a c ht hl63 hi
  · exact leaf_yes k h1 h2 b l hdl i w ps a c ht hl63 hi

theorem leaf_nil (i : UInt64) (w : World) : Calls Tryd.prog 28 #[.pointer none, vU64 i] w fun e w' => ∃ v, e = .returned v ∧ v = .tuple #[.agg ((zeros32).map vU8).toArray, vInt ((5 : Nat) : Int)] ∧ Mem w [] [] w' := by
  refine calls_of_sw (vs := [.pointer none, vU64 i]) Tryd.func28 rfl Tryd.ntmps28 rfl (SW.begin ?_)
  refine sw_seq ?_
  refine sw_region ?_
  refine ow_new (acts_alloc zD) rfl (fun b4 hb4 => ?_)
  refine ow_val (val_assign rfl) rfl ?_
  refine ow_nil (into ?_)
  refine sw_seq ?_
  refine sw_block ?_
  refine sw_seq ?_
  refine sw_region ?_
  refine ow_val (val_move rfl) rfl ?_
  refine ow_val (val_eql_nilptr Tryd.underlying25 rfl rfl) rfl ?_
  refine ow_val (val_assign rfl) rfl ?_
  refine ow_nil (into ?_)
  refine sw_true rfl rfl ?_
  refine sw_seq ?_
  refine sw_region ?_
  refine ow_val (val_build' (cs := zeros32.map vU8) rfl (by kernel_rfl)) rfl ?_
  refine ow_do_eq (does_store_all 0 rfl rfl rfl (one_u8s _) Tryd.sizeOf41 (by show (List.map vU8 zeros32).length = _; rw [List.length_map]; exact zeros32_len) (by show (List.map vU8 zeros32).length = _; rw [List.length_map]; exact zeros32_len)) ?_
  refine ow_val (val_assign rfl) rfl ?_
  refine ow_nil (into ?_)
  refine sw_ret (fun w hm => ?_)
  try dsimp only [thenP, blockP, Nat.beq, cond]
  exact ret_cell_two 0 rfl rfl rfl hm rfl Tryd.isAgg41 Tryd.sizeOf41 rfl ⟨rfl, hm.forgetAll⟩
end Go.Proofs.YtcdponddgnkecaaDoor
