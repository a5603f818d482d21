import Derived.Test.YtbhbhdojmacpmaaDoorMck4
import Derived.Test.YtbhbhdojmacpmaaDoorPPow
import Derived.Test.YtbhbhdojmacpmaaDoorProg
set_option linter.unusedVariables false
set_option linter.unusedSimpArgs false
namespace Go.Proofs.YtbhbhdojmacpmaaDoor
open Go.Sx Go.Ps
theorem powers_long (v0 : Int) (leaf : List UInt8) (hll : leaf.length = 32) (i n : UInt64) (root : List UInt8) (hrl : root.length = 32) (w : World) (hK : KW w) (a : Option Addr) (c : Nat) (proof : List (List UInt8)) (hpl : ∀ d ∈ proof, d.length = 32) (hr : Rd w a (proof.flatMap fun d => d.map vU8)) (hc : proof.length ≤ c) (hl : proof.length < 9223372036854775808) (hb : (proof.length + 2) * 32 ≤ 140737488355328) (hlong : 62 < proof.length) : Calls Tryd.prog 6 #[.agg (askC v0 leaf i n (.slice a proof.length c) root).toArray] w fun e w' => ∃ v, e = .returned v ∧ v = .bool true ∧ Mem w [] [] w' := by
  refine calls_of_sw (vs := [.agg (askC v0 leaf i n (.slice a proof.length c) root).toArray]) Tryd.func6 rfl Tryd.ntmps6 rfl (SW.begin ?_)
  refine sw_seq ?_
  refine sw_region ?_
  refine ow_new (acts_box rfl) rfl (fun b1 hb1 => ?_)   -- 1
  refine ow_val (val_assign rfl) rfl ?_   -- 2
  refine ow_nil (into ?_)
  refine sw_seq ?_
  refine sw_seq ?_
  refine sw_region ?_
  refine ow_call_pure (v := .bool true) (callsTo Tryd.func15 rfl (by kernel_rfl) rfl) rfl (fun w hm => awake_any w (hK.mem0 hm)) ?_   -- 11
  refine ow_val (val_not rfl) rfl ?_   -- 12
  refine ow_nil (into ?_)
  refine sw_false rfl rfl ?_
  refine sw_skip (into ?_)
  refine sw_seq ?_
  refine sw_seq ?_
  refine sw_region ?_
  refine ow_val (val_fieldAddr (m := 0) (e := 35) rfl Tryd.underlying27 rfl rfl Tryd.sizeOf25 rfl) rfl ?_   -- 13
  refine ow_val (val_load_at 0 rfl rfl Tryd.isAgg25 (ask_35 hll)) rfl ?_   -- 14
  refine ow_val (val_len rfl Tryd.underlying25) rfl ?_   -- 15
  refine ow_val ((val_gtr_int rfl rfl).to (congrArg Value.bool (decide_eq_true (by omega)))) rfl ?_   -- 16
  refine ow_val (val_move rfl) rfl ?_   -- 17
  first | refine ow_guard_no rfl rfl rfl rfl rfl ?_ | refine ow_guard_none rfl rfl rfl rfl rfl ?_
  first | refine ow_guard_no rfl rfl rfl rfl rfl ?_ | refine ow_guard_none rfl rfl rfl rfl rfl ?_
  first | refine ow_guard_no rfl rfl rfl rfl rfl ?_ | refine ow_guard_none rfl rfl rfl rfl rfl ?_
  first | refine ow_guard_no rfl rfl rfl rfl rfl ?_ | refine ow_guard_none rfl rfl rfl rfl rfl ?_
  first | refine ow_guard_no rfl rfl rfl rfl rfl ?_ | refine ow_guard_none rfl rfl rfl rfl rfl ?_
  first | refine ow_guard_no rfl rfl rfl rfl rfl ?_ | refine ow_guard_none rfl rfl rfl rfl rfl ?_
  refine ow_val (val_pick_true rfl rfl) rfl ?_   -- 24
  refine ow_nil (into ?_)
  refine sw_true rfl rfl ?_
  refine sw_seq ?_
  refine sw_region ?_
  refine ow_val (val_assign rfl) rfl ?_   -- 2
  refine ow_nil (into ?_)
  refine sw_ret (fun w hm => ?_)
  try dsimp only [thenP, blockP, Nat.beq, cond]
  exact ret_one _ rfl rfl ⟨rfl, hm.forgetAll⟩

theorem powers_leaf (v0 : Int) (leaf : List UInt8) (hll : leaf.length = 32) (i n : UInt64) (root : List UInt8) (hrl : root.length = 32) (w : World) (hK : KW w) (a : Option Addr) (c : Nat) (proof : List (List UInt8)) (hpl : ∀ d ∈ proof, d.length = 32) (hr : Rd w a (proof.flatMap fun d => d.map vU8)) (hc : proof.length ≤ c) (hl : proof.length < 9223372036854775808) (hb : (proof.length + 2) * 32 ≤ 140737488355328) (hlong : ¬ 62 < proof.length) (hfl : fm v0 leaf = false) : Calls Tryd.prog 6 #[.agg (askC v0 leaf i n (.slice a proof.length c) root).toArray] w fun e w' => ∃ v, e = .returned v ∧ v = .bool true ∧ Mem w [] [] w' := by
  refine calls_of_sw (vs := [.agg (askC v0 leaf i n (.slice a proof.length c) root).toArray]) Tryd.func6 rfl Tryd.ntmps6 rfl (SW.begin ?_)
  refine sw_seq ?_
  refine sw_region ?_
  refine ow_new (acts_box rfl) rfl (fun b1 hb1 => ?_)   -- 1
  refine ow_val (val_assign rfl) rfl ?_   -- 2
  refine ow_nil (into ?_)
  refine sw_seq ?_
  refine sw_seq ?_
  refine sw_region ?_
  refine ow_call_pure (v := .bool true) (callsTo Tryd.func15 rfl (by kernel_rfl) rfl) rfl (fun w hm => awake_any w (hK.mem0 hm)) ?_   -- 11
  refine ow_val (val_not rfl) rfl ?_   -- 12
  refine ow_nil (into ?_)
  refine sw_false rfl rfl ?_
  refine sw_skip (into ?_)
  refine sw_seq ?_
  refine sw_seq ?_
  refine sw_region ?_
  refine ow_val (val_fieldAddr (m := 0) (e := 35) rfl Tryd.underlying27 rfl rfl Tryd.sizeOf25 rfl) rfl ?_   -- 13
  refine ow_val (val_load_at 0 rfl rfl Tryd.isAgg25 (ask_35 hll)) rfl ?_   -- 14
  refine ow_val (val_len rfl Tryd.underlying25) rfl ?_   -- 15
  refine ow_val ((val_gtr_int rfl rfl).to (congrArg Value.bool (decide_eq_false (by omega)))) rfl ?_   -- 16
  refine ow_val (val_move rfl) rfl ?_   -- 17
  refine ow_guard_yes rfl rfl rfl ?_
  refine ow_val (val_fieldAddr (m := 0) (e := 0) rfl Tryd.underlying27 rfl rfl Tryd.sizeOf3 rfl) rfl ?_   -- 18
  refine ow_guard_yes rfl rfl rfl ?_
  refine ow_val (val_load_at 0 rfl rfl Tryd.isAgg3 rfl) rfl ?_   -- 19
  refine ow_guard_yes rfl rfl rfl ?_
  refine ow_val (val_fieldAddr (m := 31) (e := 1) rfl Tryd.underlying27 rfl rfl Tryd.sizeOf23 rfl) rfl ?_   -- 20
  refine ow_guard_yes rfl rfl rfl ?_
  refine ow_val (val_load_part 0 rfl rfl Tryd.isAgg23 Tryd.sizeOf23 (by show (List.map vU8 leaf).length = _; rw [List.length_map]; exact hll) (ask_leaf hll)) rfl ?_   -- 21
  refine ow_guard_yes rfl rfl rfl ?_
  refine ow_call_pure (v := .bool false) (callsTo Tryd.func20 rfl (by kernel_rfl) rfl) rfl (fun w hm => (by have h := docForm_any v0 leaf hll w; rw [hfl] at h; exact h)) ?_   -- 22
  refine ow_guard_yes rfl rfl rfl ?_
  refine ow_val (val_not rfl) rfl ?_   -- 23
  refine ow_val (val_pick_false rfl rfl) rfl ?_   -- 24
  refine ow_nil (into ?_)
  refine sw_true rfl rfl ?_
  refine sw_seq ?_
  refine sw_region ?_
  refine ow_val (val_assign rfl) rfl ?_   -- 2
  refine ow_nil (into ?_)
  refine sw_ret (fun w hm => ?_)
  try dsimp only [thenP, blockP, Nat.beq, cond]
  exact ret_one _ rfl rfl ⟨rfl, hm.forgetAll⟩

theorem pow_fin {k : Nat} (h1 : 1 ≤ k) (h2 : k ≤ 32) {leaf : List UInt8} {proof : List (List UInt8)} {I N : UInt64} (hll : leaf.length = 32) (hfl : fm (k : Int) leaf = true) (hpf : ∀ d ∈ proof, fm (k : Int) d = true)
    (hl : proof.length ≤ 62) (hn : N.toNat = 2 ^ proof.length) (hi : I.toNat < 2 ^ proof.length) {aT : List UInt8} (hat : aT = pwR k I leaf proof.reverse) :
    rootO (k : Int) leaf I N proof = (aT, 0) ∧ inclO (k : Int) leaf I N proof aT = 0 := by
  have hl0 : allE (k : Int) proof [leaf] = 0 := by
    rw [allE, chk_all (wd_of h1 h2) (fun d hd => by obtain rfl := List.mem_singleton.1 hd; exact hfl), if_neg (by simp), chk_all (wd_of h1 h2) hpf]
  have hup := up_pw k leaf proof.reverse I N (by simpa using hl) (by simpa using hn) (by simpa using hi)
  have h3 : rootO (k : Int) leaf I N proof = (aT, 0) := by
    rw [rootO, if_neg (by simp [hl0]), if_neg (fun h => by have := UInt64.le_iff_toNat_le.1 h; omega), Int.toNat_natCast, hup, if_pos rfl, hat]
  have h4 : chk (k : Int) [aT] = 0 := chk_all (wd_of h1 h2) (fun d hd => by obtain rfl := List.mem_singleton.1 hd; rw [hat]; exact pwR_fm h1 h2 hfl _)
  exact ⟨h3, by rw [inclO, if_neg (by simp [h4]), h3, if_neg (by simp), if_neg (by simp)]⟩

theorem powers_way (k : Nat) (h1 : 1 ≤ k) (h2 : k ≤ 32) (leaf : List UInt8) (hll : leaf.length = 32) (i n : UInt64) (root : List UInt8) (hrl : root.length = 32) (w : World) (hK : KW w) (a : Option Addr) (c : Nat) (proof : List (List UInt8)) (hpl : ∀ d ∈ proof, d.length = 32) (hr : Rd w a (proof.flatMap fun d => d.map vU8)) (hc : proof.length ≤ c) (hl : proof.length < 9223372036854775808) (hb : (proof.length + 2) * 32 ≤ 140737488355328) (hlong : ¬ 62 < proof.length) (hfl : fm (k : Int) leaf = true) (N I : UInt64) (hN : (1 : UInt64) <<< UInt64.ofNat proof.length = N) (hI : i % N = I) (hN0 : N ≠ 0) (hNn : N.toNat = 2 ^ proof.length) (hIn : I.toNat < 2 ^ proof.length) : Calls Tryd.prog 6 #[.agg (askC k leaf i n (.slice a proof.length c) root).toArray] w fun e w' => ∃ v, e = .returned v ∧ v = .bool true ∧ Mem w [] [] w' := by
  refine calls_of_sw (vs := [.agg (askC (k : Int) leaf i n (.slice a proof.length c) root).toArray]) Tryd.func6 rfl Tryd.ntmps6 rfl (SW.begin ?_)
  refine sw_seq ?_
  refine sw_region ?_
  refine ow_new (acts_box rfl) rfl (fun b1 hb1 => ?_)   -- 1
  refine ow_val (val_assign rfl) rfl ?_   -- 2
  refine ow_nil (into ?_)
  refine sw_seq ?_
  refine sw_seq ?_
  refine sw_region ?_
  refine ow_call_pure (v := .bool true) (callsTo Tryd.func15 rfl (by kernel_rfl) rfl) rfl (fun w hm => awake_any w (hK.mem0 hm)) ?_   -- 11
  refine ow_val (val_not rfl) rfl ?_   -- 12
  refine ow_nil (into ?_)
  refine sw_false rfl rfl ?_
  refine sw_skip (into ?_)
  refine sw_seq ?_
  refine sw_seq ?_
  refine sw_region ?_
  refine ow_val (val_fieldAddr (m := 0) (e := 35) rfl Tryd.underlying27 rfl rfl Tryd.sizeOf25 rfl) rfl ?_   -- 13
  refine ow_val (val_load_at 0 rfl rfl Tryd.isAgg25 (ask_35 hll)) rfl ?_   -- 14
  refine ow_val (val_len rfl Tryd.underlying25) rfl ?_   -- 15
  refine ow_val ((val_gtr_int rfl rfl).to (congrArg Value.bool (decide_eq_false (by omega)))) rfl ?_   -- 16
  refine ow_val (val_move rfl) rfl ?_   -- 17
  refine ow_guard_yes rfl rfl rfl ?_
  refine ow_val (val_fieldAddr (m := 0) (e := 0) rfl Tryd.underlying27 rfl rfl Tryd.sizeOf3 rfl) rfl ?_   -- 18
  refine ow_guard_yes rfl rfl rfl ?_
  refine ow_val (val_load_at 0 rfl rfl Tryd.isAgg3 rfl) rfl ?_   -- 19
  refine ow_guard_yes rfl rfl rfl ?_
  refine ow_val (val_fieldAddr (m := 31) (e := 1) rfl Tryd.underlying27 rfl rfl Tryd.sizeOf23 rfl) rfl ?_   -- 20
  refine ow_guard_yes rfl rfl rfl ?_
  refine ow_val (val_load_part 0 rfl rfl Tryd.isAgg23 Tryd.sizeOf23 (by show (List.map vU8 leaf).length = _; rw [List.length_map]; exact hll) (ask_leaf hll)) rfl ?_   -- 21
  refine ow_guard_yes rfl rfl rfl ?_
  refine ow_call_pure (v := .bool true) (callsTo Tryd.func20 rfl (by kernel_rfl) rfl) rfl (fun w hm => (by have h := docForm_any (k : Int) leaf hll w; rw [hfl] at h; exact h)) ?_   -- 22
  refine ow_guard_yes rfl rfl rfl ?_
  refine ow_val (val_not rfl) rfl ?_   -- 23
  refine ow_val (val_pick_false rfl rfl) rfl ?_   -- 24
  refine ow_nil (into ?_)
  refine sw_false rfl rfl ?_
  refine sw_skip (into ?_)
  refine sw_seq ?_
  refine sw_region ?_
  refine ow_val (val_fieldAddr (m := 0) (e := 35) rfl Tryd.underlying27 rfl rfl Tryd.sizeOf25 rfl) rfl ?_   -- 25
  refine ow_val (val_load_at 0 rfl rfl Tryd.isAgg25 (ask_35 hll)) rfl ?_   -- 26
  refine ow_val (val_len rfl Tryd.underlying25) rfl ?_   -- 27
  refine ow_val ((val_shl_u64 (proof.length) rfl rfl (by first | rfl | omega) (by omega)).to (congrArg vU64 hN)) rfl ?_   -- 28
  refine ow_val (val_assign rfl) rfl ?_   -- 3
  refine ow_nil (into ?_)
  refine sw_seq ?_
  refine sw_region ?_
  refine ow_val (val_fieldAddr (m := 0) (e := 33) rfl Tryd.underlying27 rfl rfl Tryd.sizeOf24 rfl) rfl ?_   -- 29
  refine ow_val (val_load_at 0 rfl rfl Tryd.isAgg24 (ask_33 hll)) rfl ?_   -- 30
  refine ow_val (val_move rfl) rfl ?_   -- 31
  refine ow_val ((val_rem_u64 rfl rfl hN0).to (congrArg vU64 hI)) rfl ?_   -- 32
  refine ow_val (val_assign rfl) rfl ?_   -- 4
  refine ow_nil (into ?_)
  refine sw_seq ?_
  refine sw_region ?_
  refine ow_val (val_fieldAddr (m := 31) (e := 1) rfl Tryd.underlying27 rfl rfl Tryd.sizeOf23 rfl) rfl ?_   -- 33
  refine ow_val (val_load_part 0 rfl rfl Tryd.isAgg23 Tryd.sizeOf23 (by show (List.map vU8 leaf).length = _; rw [List.length_map]; exact hll) (ask_leaf hll)) rfl ?_   -- 34
  refine ow_new (acts_alloc zD) rfl (fun b5 hb5 => ?_)   -- 5
  refine ow_do_eq (does_store_all 0 rfl rfl rfl (one_u8s _) Tryd.sizeOf23 (by show (List.map vU8 leaf).length = _; rw [List.length_map]; exact hll) (by show (List.map vU8 zeros32).length = _; rw [List.length_map]; exact zeros32_len)) ?_
  refine ow_nil (into ?_)
  refine sw_seq ?_
  refine sw_seq ?_
  refine sw_region ?_
  refine ow_val (val_fieldAddr (m := 0) (e := 35) rfl Tryd.underlying27 rfl rfl Tryd.sizeOf25 rfl) rfl ?_   -- 35
  refine ow_val (val_load_at 1 rfl rfl Tryd.isAgg25 (ask_35 hll)) rfl ?_   -- 36
  refine ow_val (val_len rfl Tryd.underlying25) rfl ?_   -- 37
  refine ow_val (val_move rfl) rfl ?_   -- 38
  refine ow_nil (into ?_)
  refine sw_block ?_
  refine sw_loop (σ := Nat × List UInt8) (fun t => t.1 ≤ proof.length ∧ t.2 = pwR k I leaf (proof.take t.1).reverse ∧ ∀ d ∈ proof.take t.1, fm (k : Int) d = true) (fun t => [(38, vInt (t.1 : Int)), (37, vInt (proof.length : Int)), (36, .slice a proof.length c), (5, .pointer (some ⟨b5, 0, none⟩)), (4, vU64 I), (3, vU64 N), (1, .pointer (some ⟨b1, 0, none⟩))]) (fun t => Mem w [] [some (b5, blk (t.2.map vU8) 23), some (b1, blk (askC (k : Int) leaf i n (.slice a proof.length c) root) 27)]) (fun t => proof.length - t.1) (0, leaf) ⟨Nat.zero_le _, rfl, fun d hd => by simp at hd⟩ ⟨rfl, rfl, rfl, rfl, rfl, rfl, rfl, trivial⟩ (fun w hm => hm) ?_
  rintro ⟨j, aT⟩ ⟨hj, hat, hpf⟩
  simp only at hj hat hpf ⊢
  have hal : aT.length = 32 := by rw [hat]; exact pwR_len h2 hll _
  have haf : fm (k : Int) aT = true := by rw [hat]; exact pwR_fm h1 h2 hfl _
  refine sw_seq ?_
  refine sw_region ?_
  refine ow_val (val_lss_int rfl rfl) rfl ?_   -- 39
  refine ow_nil (into ?_)
  refine sw_seq ?_
  refine sw_if rfl (fun h0 => ?_) (fun h0 => ?_)
  · -- then
    obtain ⟨ba, oa, rfl⟩ := hr.addr (by rw [flatMap_size proof (fun x hx => by rw [List.length_map]; exact hpl x hx)]; omega)
    refine sw_skip (into ?_)
    refine sw_seq ?_
    refine sw_block ?_
    refine sw_seq ?_
    refine sw_region ?_
    refine ow_val (val_move rfl) rfl ?_   -- 40
    refine ow_val (val_indexAddr_slice (j) (oa + j * 32) rfl rfl Tryd.underlying25 Tryd.sizeOf23 (by omega) (by omega) (by omega)) rfl ?_   -- 41
    refine ow_val (val_load_elem (cells := fun d => d.map vU8) (l := proof) (o := oa) (i := j) rfl Tryd.isAgg23 Tryd.sizeOf23 (fun x hx => by rw [List.length_map]; exact hpl x hx) (by omega) (by omega) (fun w' hm => hr.mem hm)) rfl ?_   -- 42
    refine ow_new (acts_alloc zD) rfl (fun b7 hb7 => ?_)   -- 7
    refine ow_val (val_assign rfl) rfl ?_   -- 6
    refine ow_do_eq (does_store_all 0 rfl rfl rfl (one_u8s _) Tryd.sizeOf23 (by show (List.map vU8 (proof.getD j default)).length = _; rw [List.length_map]; exact (hpl _ (getD_mem (by omega)))) (by show (List.map vU8 zeros32).length = _; rw [List.length_map]; exact zeros32_len)) ?_
    refine ow_nil (into ?_)
    refine sw_seq ?_
    refine sw_region ?_
    refine ow_val (val_assign rfl) rfl ?_   -- 8
    refine ow_nil (into ?_)
    refine sw_seq ?_
    refine sw_seq ?_
    refine sw_region ?_
    refine ow_val (val_move rfl) rfl ?_   -- 43
    refine ow_val (val_move rfl) rfl ?_   -- 44
    refine ow_val (val_shr_u64 (j) rfl rfl (by first | rfl | omega) (by omega)) rfl ?_   -- 45
    refine ow_val (val_and_u64 rfl rfl) rfl ?_   -- 46
    by_cases hb : bit0 I j
    · -- yes
      refine ow_val ((val_eql_u64 rfl rfl).to (congrArg Value.bool (decide_eq_true (hb)))) rfl ?_   -- 47
      refine ow_nil (into ?_)
      refine sw_true rfl rfl ?_
      by_cases hfp0 : fm (k : Int) (proof.getD j default) = true
      · -- case
        have hfp := hfp0
        refine sw_region ?_
        refine ow_val (val_fieldAddr (m := 0) (e := 0) rfl Tryd.underlying27 rfl rfl Tryd.sizeOf3 rfl) rfl ?_   -- 49
        refine ow_val (val_load_at 2 rfl rfl Tryd.isAgg3 rfl) rfl ?_   -- 50
        refine ow_val (val_load_all 1 rfl rfl Tryd.isAgg23 Tryd.sizeOf23 (by show (List.map vU8 aT).length = _; rw [List.length_map]; exact hal)) rfl ?_   -- 51
        refine ow_val (val_load_all 0 rfl rfl Tryd.isAgg23 Tryd.sizeOf23 (by show (List.map vU8 (proof.getD j default)).length = _; rw [List.length_map]; exact (hpl _ (getD_mem (by omega))))) rfl ?_   -- 52
        refine ow_call_pure (v := .tuple #[.agg ((nd k aT (proof.getD j default)).map vU8).toArray, vInt ((0 : Nat) : Int)]) (callsTo Tryd.func21 rfl (by kernel_rfl) rfl) rfl (fun w hm => (by have h := node_any w (hK.mem0 hm) (k : Int) aT (proof.getD j default) hal (hpl _ (getD_mem (by omega))); rw [digO_node h1 h2 haf hfp] at h; exact h)) ?_   -- 53
        refine ow_val (val_move rfl) rfl ?_   -- 48
        refine ow_val (val_extract rfl rfl) rfl ?_   -- 54
        refine ow_val (val_extract rfl rfl) rfl ?_   -- 55
        refine ow_do_eq (does_store_all 1 rfl rfl rfl (one_u8s _) Tryd.sizeOf23 (by show (List.map vU8 (nd k aT (proof.getD j default))).length = _; rw [List.length_map]; exact (nd_len _ _ _ h2)) (by show (List.map vU8 aT).length = _; rw [List.length_map]; exact hal)) ?_
        refine ow_val (val_assign rfl) rfl ?_   -- 8
        refine ow_nil (into ?_)
        refine sw_seq ?_
        refine sw_region ?_
        refine ow_val (val_move rfl) rfl ?_   -- 64
        refine ow_val ((val_neq_int rfl rfl).to (v' := .bool false) (congrArg Value.bool (decide_eq_false (fun h => h (by simp))))) rfl ?_   -- 65
        refine ow_nil (into ?_)
        refine sw_false rfl rfl ?_
        refine sw_skip (into ?_)
        refine sw_region ?_
        refine ow_val (val_add_int ((j + 1 : Nat) : Int) rfl rfl (by omega) (by omega)) rfl ?_   -- 68
        refine ow_val (val_move rfl) rfl ?_   -- 38
        exact ow_nil (fun w hm => ⟨(j + 1, ((nd k aT (proof.getD j default)))), ⟨by dsimp only; omega, by dsimp only; rw [take_rev_succ (by omega), pwR, if_pos (show bit0 I (proof.take j).reverse.length by rw [List.length_reverse, List.length_take, Nat.min_eq_left (by omega)]; exact hb), ← hat], fun d hd => by dsimp only at hd; rw [List.take_succ_eq_append_getElem (by omega), List.mem_append] at hd; rcases hd with hd | hd; exact hpf d hd; rw [List.mem_singleton] at hd; subst hd; simpa [List.getD_eq_getElem?_getD, show j < proof.length by omega] using hfp⟩, by dsimp only; omega, ⟨rfl, rfl, rfl, rfl, rfl, rfl, rfl, trivial⟩, hm.only (.cons _ (.cons_cons _ (.cons_cons _ (List.nil_sublist _))))⟩)
      · -- case
        have hfp : fm (k : Int) (proof.getD j default) = false := by simpa using hfp0
        refine sw_region ?_
        refine ow_val (val_fieldAddr (m := 0) (e := 0) rfl Tryd.underlying27 rfl rfl Tryd.sizeOf3 rfl) rfl ?_   -- 49
        refine ow_val (val_load_at 2 rfl rfl Tryd.isAgg3 rfl) rfl ?_   -- 50
        refine ow_val (val_load_all 1 rfl rfl Tryd.isAgg23 Tryd.sizeOf23 (by show (List.map vU8 aT).length = _; rw [List.length_map]; exact hal)) rfl ?_   -- 51
        refine ow_val (val_load_all 0 rfl rfl Tryd.isAgg23 Tryd.sizeOf23 (by show (List.map vU8 (proof.getD j default)).length = _; rw [List.length_map]; exact (hpl _ (getD_mem (by omega))))) rfl ?_   -- 52
        refine ow_call_pure (v := .tuple #[.agg ((zeros32).map vU8).toArray, vInt ((3 : Nat) : Int)]) (callsTo Tryd.func21 rfl (by kernel_rfl) rfl) rfl (fun w hm => (by have h := node_any w (hK.mem0 hm) (k : Int) aT (proof.getD j default) hal (hpl _ (getD_mem (by omega))); rw [show chk (k : Int) [aT, (proof.getD j default)] = 3 from chk_bad (wd_of h1 h2) (d := (proof.getD j default)) (by simp) hfp, digO_err (by decide)] at h; exact h)) ?_   -- 53
        refine ow_val (val_move rfl) rfl ?_   -- 48
        refine ow_val (val_extract rfl rfl) rfl ?_   -- 54
        refine ow_val (val_extract rfl rfl) rfl ?_   -- 55
        refine ow_do_eq (does_store_all 1 rfl rfl rfl (one_u8s _) Tryd.sizeOf23 (by show (List.map vU8 zeros32).length = _; rw [List.length_map]; exact zeros32_len) (by show (List.map vU8 aT).length = _; rw [List.length_map]; exact hal)) ?_
        refine ow_val (val_assign rfl) rfl ?_   -- 8
        refine ow_nil (into ?_)
        refine sw_seq ?_
        refine sw_region ?_
        refine ow_val (val_move rfl) rfl ?_   -- 64
        refine ow_val ((val_neq_int rfl rfl).to (v' := .bool true) (congrArg Value.bool (decide_eq_true (by simp)))) rfl ?_   -- 65
        refine ow_nil (into ?_)
        refine sw_true rfl rfl ?_
        refine sw_seq ?_
        refine sw_region ?_
        refine ow_val (val_move rfl) rfl ?_   -- 66
        refine ow_val ((val_eql_int rfl rfl).to (v' := .bool true) (congrArg Value.bool (decide_eq_true (by simp)))) rfl ?_   -- 67
        refine ow_val (val_assign rfl) rfl ?_   -- 2
        refine ow_nil (into ?_)
        refine sw_ret (fun w hm => ?_)
        try dsimp only [thenP, blockP, Nat.beq, cond]
        exact ret_one _ rfl rfl ⟨rfl, hm.forgetAll⟩
    · -- no
      refine ow_val ((val_eql_u64 rfl rfl).to (congrArg Value.bool (decide_eq_false (hb)))) rfl ?_   -- 47
      refine ow_nil (into ?_)
      refine sw_false rfl rfl ?_
      by_cases hfp0 : fm (k : Int) (proof.getD j default) = true
      · -- case
        have hfp := hfp0
        refine sw_region ?_
        refine ow_val (val_fieldAddr (m := 0) (e := 0) rfl Tryd.underlying27 rfl rfl Tryd.sizeOf3 rfl) rfl ?_   -- 57
        refine ow_val (val_load_at 2 rfl rfl Tryd.isAgg3 rfl) rfl ?_   -- 58
        refine ow_val (val_load_all 0 rfl rfl Tryd.isAgg23 Tryd.sizeOf23 (by show (List.map vU8 (proof.getD j default)).length = _; rw [List.length_map]; exact (hpl _ (getD_mem (by omega))))) rfl ?_   -- 59
        refine ow_val (val_load_all 1 rfl rfl Tryd.isAgg23 Tryd.sizeOf23 (by show (List.map vU8 aT).length = _; rw [List.length_map]; exact hal)) rfl ?_   -- 60
        refine ow_call_pure (v := .tuple #[.agg ((nd k (proof.getD j default) aT).map vU8).toArray, vInt ((0 : Nat) : Int)]) (callsTo Tryd.func21 rfl (by kernel_rfl) rfl) rfl (fun w hm => (by have h := node_any w (hK.mem0 hm) (k : Int) (proof.getD j default) aT (hpl _ (getD_mem (by omega))) hal; rw [digO_node h1 h2 hfp haf] at h; exact h)) ?_   -- 61
        refine ow_val (val_move rfl) rfl ?_   -- 56
        refine ow_val (val_extract rfl rfl) rfl ?_   -- 62
        refine ow_val (val_extract rfl rfl) rfl ?_   -- 63
        refine ow_do_eq (does_store_all 1 rfl rfl rfl (one_u8s _) Tryd.sizeOf23 (by show (List.map vU8 (nd k (proof.getD j default) aT)).length = _; rw [List.length_map]; exact (nd_len _ _ _ h2)) (by show (List.map vU8 aT).length = _; rw [List.length_map]; exact hal)) ?_
        refine ow_val (val_assign rfl) rfl ?_   -- 8
        refine ow_nil (into ?_)
        refine sw_seq ?_
        refine sw_region ?_
        refine ow_val (val_move rfl) rfl ?_   -- 64
        refine ow_val ((val_neq_int rfl rfl).to (v' := .bool false) (congrArg Value.bool (decide_eq_false (fun h => h (by simp))))) rfl ?_   -- 65
        refine ow_nil (into ?_)
        refine sw_false rfl rfl ?_
        refine sw_skip (into ?_)
        refine sw_region ?_
        refine ow_val (val_add_int ((j + 1 : Nat) : Int) rfl rfl (by omega) (by omega)) rfl ?_   -- 68
        refine ow_val (val_move rfl) rfl ?_   -- 38
        exact ow_nil (fun w hm => ⟨(j + 1, ((nd k (proof.getD j default) aT))), ⟨by dsimp only; omega, by dsimp only; rw [take_rev_succ (by omega), pwR, if_neg (show ¬ bit0 I (proof.take j).reverse.length by rw [List.length_reverse, List.length_take, Nat.min_eq_left (by omega)]; exact hb), ← hat], fun d hd => by dsimp only at hd; rw [List.take_succ_eq_append_getElem (by omega), List.mem_append] at hd; rcases hd with hd | hd; exact hpf d hd; rw [List.mem_singleton] at hd; subst hd; simpa [List.getD_eq_getElem?_getD, show j < proof.length by omega] using hfp⟩, by dsimp only; omega, ⟨rfl, rfl, rfl, rfl, rfl, rfl, rfl, trivial⟩, hm.only (.cons _ (.cons_cons _ (.cons_cons _ (List.nil_sublist _))))⟩)
      · -- case
        have hfp : fm (k : Int) (proof.getD j default) = false := by simpa using hfp0
        refine sw_region ?_
        refine ow_val (val_fieldAddr (m := 0) (e := 0) rfl Tryd.underlying27 rfl rfl Tryd.sizeOf3 rfl) rfl ?_   -- 57
        refine ow_val (val_load_at 2 rfl rfl Tryd.isAgg3 rfl) rfl ?_   -- 58
        refine ow_val (val_load_all 0 rfl rfl Tryd.isAgg23 Tryd.sizeOf23 (by show (List.map vU8 (proof.getD j default)).length = _; rw [List.length_map]; exact (hpl _ (getD_mem (by omega))))) rfl ?_   -- 59
        refine ow_val (val_load_all 1 rfl rfl Tryd.isAgg23 Tryd.sizeOf23 (by show (List.map vU8 aT).length = _; rw [List.length_map]; exact hal)) rfl ?_   -- 60
        refine ow_call_pure (v := .tuple #[.agg ((zeros32).map vU8).toArray, vInt ((3 : Nat) : Int)]) (callsTo Tryd.func21 rfl (by kernel_rfl) rfl) rfl (fun w hm => (by have h := node_any w (hK.mem0 hm) (k : Int) (proof.getD j default) aT (hpl _ (getD_mem (by omega))) hal; rw [show chk (k : Int) [(proof.getD j default), aT] = 3 from chk_bad (wd_of h1 h2) (d := (proof.getD j default)) (by simp) hfp, digO_err (by decide)] at h; exact h)) ?_   -- 61
        refine ow_val (val_move rfl) rfl ?_   -- 56
        refine ow_val (val_extract rfl rfl) rfl ?_   -- 62
        refine ow_val (val_extract rfl rfl) rfl ?_   -- 63
        refine ow_do_eq (does_store_all 1 rfl rfl rfl (one_u8s _) Tryd.sizeOf23 (by show (List.map vU8 zeros32).length = _; rw [List.length_map]; exact zeros32_len) (by show (List.map vU8 aT).length = _; rw [List.length_map]; exact hal)) ?_
        refine ow_val (val_assign rfl) rfl ?_   -- 8
        refine ow_nil (into ?_)
        refine sw_seq ?_
        refine sw_region ?_
        refine ow_val (val_move rfl) rfl ?_   -- 64
        refine ow_val ((val_neq_int rfl rfl).to (v' := .bool true) (congrArg Value.bool (decide_eq_true (by simp)))) rfl ?_   -- 65
        refine ow_nil (into ?_)
        refine sw_true rfl rfl ?_
        refine sw_seq ?_
        refine sw_region ?_
        refine ow_val (val_move rfl) rfl ?_   -- 66
        refine ow_val ((val_eql_int rfl rfl).to (v' := .bool true) (congrArg Value.bool (decide_eq_true (by simp)))) rfl ?_   -- 67
        refine ow_val (val_assign rfl) rfl ?_   -- 2
        refine ow_nil (into ?_)
        refine sw_ret (fun w hm => ?_)
        try dsimp only [thenP, blockP, Nat.beq, cond]
        exact ret_one _ rfl rfl ⟨rfl, hm.forgetAll⟩
  · -- else
    obtain rfl : j = proof.length := by omega
    rw [List.take_length] at hat hpf
    obtain ⟨hRO, hIO⟩ := pow_fin h1 h2 hll hfl hpf (by omega) hNn hIn hat
    refine sw_exit (into ?_)
    refine sw_seq ?_
    refine sw_region ?_
    refine ow_val (val_fieldAddr (m := 0) (e := 0) rfl Tryd.underlying27 rfl rfl Tryd.sizeOf3 rfl) rfl ?_   -- 70
    refine ow_val (val_load_at 1 rfl rfl Tryd.isAgg3 rfl) rfl ?_   -- 71
    refine ow_val (val_fieldAddr (m := 31) (e := 1) rfl Tryd.underlying27 rfl rfl Tryd.sizeOf23 rfl) rfl ?_   -- 72
    refine ow_val (val_load_part 1 rfl rfl Tryd.isAgg23 Tryd.sizeOf23 (by show (List.map vU8 leaf).length = _; rw [List.length_map]; exact hll) (ask_leaf hll)) rfl ?_   -- 73
    refine ow_val (val_move rfl) rfl ?_   -- 74
    refine ow_val (val_move rfl) rfl ?_   -- 75
    refine ow_val (val_fieldAddr (m := 0) (e := 35) rfl Tryd.underlying27 rfl rfl Tryd.sizeOf25 rfl) rfl ?_   -- 76
    refine ow_val (val_load_at 1 rfl rfl Tryd.isAgg25 (ask_35 hll)) rfl ?_   -- 77
    refine ow_call_pure (v := .tuple #[.agg ((aT).map vU8).toArray, vInt ((0 : Nat) : Int)]) (callsTo Tryd.func12 rfl (by kernel_rfl) rfl) rfl (fun w hm => (by have h := mroot_any (k : Int) leaf hll I N w (hK.mem0 hm) a proof.length c proof rfl hpl (hr.mem hm) (by omega) (by omega) (by omega); rw [hRO] at h; exact h)) ?_   -- 78
    refine ow_val (val_move rfl) rfl ?_   -- 69
    refine ow_val (val_extract rfl rfl) rfl ?_   -- 79
    refine ow_val (val_extract rfl rfl) rfl ?_   -- 80
    refine ow_new (acts_alloc zD) rfl (fun b9 hb9 => ?_)   -- 9
    refine ow_do_eq (does_store_all 0 rfl rfl rfl (one_u8s _) Tryd.sizeOf23 (by show (List.map vU8 aT).length = _; rw [List.length_map]; exact hal) (by show (List.map vU8 zeros32).length = _; rw [List.length_map]; exact zeros32_len)) ?_
    refine ow_val (val_assign rfl) rfl ?_   -- 10
    refine ow_nil (into ?_)
    refine sw_seq ?_
    refine sw_region ?_
    refine ow_val (val_move rfl) rfl ?_   -- 81
    refine ow_val ((val_eql_int rfl rfl).to (v' := .bool true) (congrArg Value.bool (decide_eq_true (by simp)))) rfl ?_   -- 82
    refine ow_val (val_move rfl) rfl ?_   -- 83
    refine ow_guard_yes rfl rfl rfl ?_
    refine ow_val (val_load_all 0 rfl rfl Tryd.isAgg23 Tryd.sizeOf23 (by show (List.map vU8 aT).length = _; rw [List.length_map]; exact hal)) rfl ?_   -- 84
    refine ow_guard_yes rfl rfl rfl ?_
    refine ow_val (val_load_all 1 rfl rfl Tryd.isAgg23 Tryd.sizeOf23 (by show (List.map vU8 aT).length = _; rw [List.length_map]; exact hal)) rfl ?_   -- 85
    refine ow_guard_yes rfl rfl rfl ?_
    refine ow_val ((val_eql_u8s rfl rfl Tryd.eqGuardType23 Tryd.underlying23 Tryd.underlying5 Tryd.sizeOf5 Tryd.isAgg5 hal hal).to (congrArg Value.bool (show _ = true by simp [txt]))) rfl ?_   -- 86
    refine ow_val (val_pick_true rfl rfl) rfl ?_   -- 87
    refine ow_val (val_move rfl) rfl ?_   -- 88
    refine ow_guard_yes rfl rfl rfl ?_
    refine ow_val (val_fieldAddr (m := 0) (e := 0) rfl Tryd.underlying27 rfl rfl Tryd.sizeOf3 rfl) rfl ?_   -- 89
    refine ow_guard_yes rfl rfl rfl ?_
    refine ow_val (val_load_at 2 rfl rfl Tryd.isAgg3 rfl) rfl ?_   -- 90
    refine ow_guard_yes rfl rfl rfl ?_
    refine ow_val (val_fieldAddr (m := 31) (e := 1) rfl Tryd.underlying27 rfl rfl Tryd.sizeOf23 rfl) rfl ?_   -- 91
    refine ow_guard_yes rfl rfl rfl ?_
    refine ow_val (val_load_part 2 rfl rfl Tryd.isAgg23 Tryd.sizeOf23 (by show (List.map vU8 leaf).length = _; rw [List.length_map]; exact hll) (ask_leaf hll)) rfl ?_   -- 92
    refine ow_guard_yes rfl rfl rfl ?_
    refine ow_val (val_move rfl) rfl ?_   -- 93
    refine ow_guard_yes rfl rfl rfl ?_
    refine ow_val (val_move rfl) rfl ?_   -- 94
    refine ow_guard_yes rfl rfl rfl ?_
    refine ow_val (val_fieldAddr (m := 0) (e := 35) rfl Tryd.underlying27 rfl rfl Tryd.sizeOf25 rfl) rfl ?_   -- 95
    refine ow_guard_yes rfl rfl rfl ?_
    refine ow_val (val_load_at 2 rfl rfl Tryd.isAgg25 (ask_35 hll)) rfl ?_   -- 96
    refine ow_guard_yes rfl rfl rfl ?_
    refine ow_val (val_load_all 1 rfl rfl Tryd.isAgg23 Tryd.sizeOf23 (by show (List.map vU8 aT).length = _; rw [List.length_map]; exact hal)) rfl ?_   -- 97
    refine ow_guard_yes rfl rfl rfl ?_
    refine ow_call_pure (v := vInt ((0 : Nat) : Int)) (callsTo Tryd.func16 rfl (by kernel_rfl) rfl) rfl (fun w hm => (by have h := mincl_any (k : Int) leaf hll I N aT hal w (hK.mem0 hm) a proof.length c proof rfl hpl (hr.mem hm) (by omega) (by omega) (by omega); rw [hIO] at h; exact h)) ?_   -- 98
    refine ow_guard_yes rfl rfl rfl ?_
    refine ow_val ((val_eql_int rfl rfl).to (v' := .bool true) (congrArg Value.bool (decide_eq_true (by simp)))) rfl ?_   -- 99
    refine ow_val (val_pick_true rfl rfl) rfl ?_   -- 100
    refine ow_val (val_assign rfl) rfl ?_   -- 2
    refine ow_nil (into ?_)
    refine sw_ret (fun w hm => ?_)
    try dsimp only [thenP, blockP, Nat.beq, cond]
    exact ret_one _ rfl rfl ⟨rfl, hm.forgetAll⟩

theorem mcheckPowers_any (v0 : Int) (leaf : List UInt8) (hll : leaf.length = 32) (i n : UInt64) (root : List UInt8) (hrl : root.length = 32) (w : World) (hK : KW w) (a : Option Addr) (c : Nat) (proof : List (List UInt8)) (hpl : ∀ d ∈ proof, d.length = 32) (hr : Rd w a (proof.flatMap fun d => d.map vU8)) (hc : proof.length ≤ c) (hl : proof.length < 9223372036854775808) (hb : (proof.length + 2) * 32 ≤ 140737488355328) : Calls Tryd.prog 6 #[.agg (askC v0 leaf i n (.slice a proof.length c) root).toArray] w fun e w' => ∃ v, e = .returned v ∧ v = .bool true ∧ Mem w [] [] w' := by
  by_cases hlong : 62 < proof.length
  · exact powers_long v0 leaf hll i n root hrl w hK a c proof hpl hr hc hl hb hlong
  · cases hfl : fm v0 leaf with
    | false => exact powers_leaf v0 leaf hll i n root hrl w hK a c proof hpl hr hc hl hb hlong hfl
    | true =>
      have hw : wd v0 = true := by cases hw : wd v0 with
        | true => rfl
        | false => simp [fm, hw] at hfl
      obtain ⟨k, rfl, h1, h2⟩ := wd_nat hw
      have hNn := shl_nat (L := proof.length) (by omega)
      have hp : 1 ≤ 2 ^ proof.length := Nat.one_le_two_pow
      have hN0 : (1 : UInt64) <<< UInt64.ofNat proof.length ≠ 0 := fun h => by
        rw [h] at hNn; have h9 : (0 : UInt64).toNat = 0 := rfl; omega
      exact powers_way k h1 h2 leaf hll i n root hrl w hK a c proof hpl hr hc hl hb hlong hfl _ _ rfl rfl hN0 hNn (by rw [UInt64.toNat_mod, hNn]; exact Nat.mod_lt _ (by omega))
end Go.Proofs.YtbhbhdojmacpmaaDoor
