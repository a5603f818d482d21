import Derived.Test.YtcdponddgnkecaaDoorDig3
import Derived.Test.YtcdponddgnkecaaDoorMtV
import Derived.Test.YtcdponddgnkecaaDoorProg
set_option linter.unusedVariables false
set_option linter.unusedSimpArgs false
namespace Go.Proofs.YtcdponddgnkecaaDoor
open Go.Sx Go.Ps
section
variable {d : List UInt8} {l r : Value} {n : UInt64}
theorem node_len (h : d.length = 32) : (nodeC d l r n).length = 35 := by simp [nodeC, h]
theorem node_d (h : d.length = 32) : ((nodeC d l r n).drop 0).take 32 = d.map vU8 := by rw [List.drop_zero, nodeC, List.take_left' (by rw [List.length_map]; exact h)]
theorem node_get (h : d.length = 32) (j : Nat) : (nodeC d l r n)[32 + j]? = [l, r, vU64 n][j]? := by
  rw [nodeC, List.getElem?_append_right (by rw [List.length_map]; omega), List.length_map, h, Nat.add_sub_cancel_left]
theorem node_32 (h : d.length = 32) : (nodeC d l r n)[32]? = some l := node_get h 0
theorem node_33 (h : d.length = 32) : (nodeC d l r n)[33]? = some r := node_get h 1
theorem node_34 (h : d.length = 32) : (nodeC d l r n)[34]? = some (vU64 n) := node_get h 2
end

theorem new_no (v0 : Int) (hw : wd v0 = false) (w : World) : Calls Tryd.prog 36 #[vInt v0] w fun e w' => ∃ v, e = .returned v ∧ v = .tuple #[.pointer none, vInt ((1 : Nat) : Int)] ∧ Mem w [] [] w' := by
  refine calls_of_sw (vs := [vInt v0]) Tryd.func36 rfl Tryd.ntmps36 rfl (SW.begin ?_)
  refine sw_seq ?_
  refine sw_region ?_
  refine ow_val (val_assign rfl) rfl ?_
  refine ow_val (val_assign rfl) rfl ?_
  refine ow_nil (into ?_)
  refine sw_seq ?_
  refine sw_seq ?_
  refine sw_region ?_
  refine ow_val (val_move rfl) rfl ?_
  by_cases hw1 : v0 < 1
  · -- yes
    refine ow_val ((val_lss_int rfl rfl).to (congrArg Value.bool (decide_eq_true (by omega)))) rfl ?_
    refine ow_val (val_move rfl) rfl ?_
    first | refine ow_guard_no rfl rfl rfl rfl rfl ?_ | refine ow_guard_none rfl rfl rfl rfl rfl ?_
    first | refine ow_guard_no rfl rfl rfl rfl rfl ?_ | refine ow_guard_none rfl rfl rfl rfl rfl ?_
    refine ow_val (val_pick_true rfl rfl) rfl ?_
    refine ow_nil (into ?_)
    refine sw_true rfl rfl ?_
    refine sw_seq ?_
    refine sw_region ?_
    refine ow_val (val_assign rfl) rfl ?_
    refine ow_val (val_assign rfl) rfl ?_
    refine ow_nil (into ?_)
    refine sw_ret (fun w hm => ?_)
    try dsimp only [thenP, blockP, Nat.beq, cond]
    exact ret_two _ _ rfl rfl rfl ⟨rfl, hm.forgetAll⟩
  · -- no
    refine ow_val ((val_lss_int rfl rfl).to (congrArg Value.bool (decide_eq_false (by omega)))) rfl ?_
    refine ow_val (val_move rfl) rfl ?_
    refine ow_guard_yes rfl rfl rfl ?_
    refine ow_val (val_move rfl) rfl ?_
    by_cases hw2 : 32 < v0
    · -- yes
      refine ow_guard_yes rfl rfl rfl ?_
      refine ow_val ((val_gtr_int rfl rfl).to (congrArg Value.bool (decide_eq_true (by omega)))) rfl ?_
      refine ow_val (val_pick_false rfl rfl) rfl ?_
      refine ow_nil (into ?_)
      refine sw_true rfl rfl ?_
      refine sw_seq ?_
      refine sw_region ?_
      refine ow_val (val_assign rfl) rfl ?_
      refine ow_val (val_assign rfl) rfl ?_
      refine ow_nil (into ?_)
      refine sw_ret (fun w hm => ?_)
      try dsimp only [thenP, blockP, Nat.beq, cond]
      exact ret_two _ _ rfl rfl rfl ⟨rfl, hm.forgetAll⟩
    · exfalso; have h9 := mt wd_iff.2 (by rw [hw]; simp); omega

theorem new_yes (k : Nat) (h1 : 1 ≤ k) (h2 : k ≤ 32) (w : World) : Calls Tryd.prog 36 #[vInt (k : Int)] w fun en w' => ∃ v, en = .returned v ∧ ∃ b, v = .tuple #[vPtr b, vInt ((0 : Nat) : Int)] ∧ Mem w [] [some (b, blk (treeC k 0 (.slice none 0 0)) 79)] w' := by
  refine calls_of_sw (vs := [vInt (k : Int)]) Tryd.func36 rfl Tryd.ntmps36 rfl (SW.begin ?_)
  refine sw_seq ?_
  refine sw_region ?_
  refine ow_val (val_assign rfl) rfl ?_
  refine ow_val (val_assign rfl) rfl ?_
  refine ow_nil (into ?_)
  refine sw_seq ?_
  refine sw_seq ?_
  refine sw_region ?_
  refine ow_val (val_move rfl) rfl ?_
  refine ow_val ((val_lss_int rfl rfl).to (congrArg Value.bool (decide_eq_false (by omega)))) rfl ?_
  refine ow_val (val_move rfl) rfl ?_
  refine ow_guard_yes rfl rfl rfl ?_
  refine ow_val (val_move rfl) rfl ?_
  refine ow_guard_yes rfl rfl rfl ?_
  refine ow_val ((val_gtr_int rfl rfl).to (congrArg Value.bool (decide_eq_false (by omega)))) rfl ?_
  refine ow_val (val_pick_false rfl rfl) rfl ?_
  refine ow_nil (into ?_)
  refine sw_false rfl rfl ?_
  refine sw_skip (into ?_)
  refine sw_seq ?_
  refine sw_region ?_
  refine ow_val (val_move rfl) rfl ?_
  refine ow_val (val_build' (cs := treeC k 0 (.slice none 0 0)) rfl (by kernel_rfl)) rfl ?_
  refine ow_new (acts_box rfl) rfl (fun b12 hb12 => ?_)
  refine ow_val (val_assign rfl) rfl ?_
  refine ow_val (val_assign rfl) rfl ?_
  refine ow_nil (into ?_)
  exact sw_ret (fun w hm => ret_two _ _ rfl rfl rfl ⟨b12, rfl, hm⟩)

theorem tsize_any (k : Nat) (w : World) (b : Nat) (sz : UInt64) (s : Value) (hb : w.heap[b]? = some (blk (treeC k sz s) 79)) : Calls Tryd.prog 75 #[vPtr b] w fun e w' => ∃ v, e = .returned v ∧ v = vU64 sz ∧ Mem w [] [] w' := by
  refine calls_of_sw (vs := [vPtr b]) Tryd.func75 rfl Tryd.ntmps75 rfl (SW.begin ?_)
  refine sw_seq ?_
  refine sw_region ?_
  refine ow_val (val_assign rfl) rfl ?_
  refine ow_nil (into ?_)
  refine sw_seq ?_
  refine sw_seq ?_
  refine sw_region ?_
  refine ow_val (val_move rfl) rfl ?_
  refine ow_val (val_eql_nilptr Tryd.underlying25 rfl rfl) rfl ?_
  refine ow_nil (into ?_)
  refine sw_false rfl rfl ?_
  refine sw_skip (into ?_)
  refine sw_seq ?_
  refine sw_region ?_
  refine ow_val (val_move rfl) rfl ?_
  refine ow_val (val_nilCheck rfl) rfl ?_
  refine ow_val (val_fieldAddr (m := 0) (e := 1) rfl Tryd.underlying79 rfl rfl Tryd.sizeOf23 rfl) rfl ?_
  refine ow_val (val_load_old hb (List.not_mem_nil) rfl Tryd.isAgg23 rfl) rfl ?_
  refine ow_val (val_assign rfl) rfl ?_
  refine ow_nil (into ?_)
  exact sw_ret (fun w hm => ret_one _ rfl rfl ⟨rfl, hm.forgetAll⟩)

theorem tsize_nil (w : World) : Calls Tryd.prog 75 #[.pointer none] w fun e w' => ∃ v, e = .returned v ∧ v = vU64 0 ∧ Mem w [] [] w' := by
  refine calls_of_sw (vs := [.pointer none]) Tryd.func75 rfl Tryd.ntmps75 rfl (SW.begin ?_)
  refine sw_seq ?_
  refine sw_region ?_
  refine ow_val (val_assign rfl) rfl ?_
  refine ow_nil (into ?_)
  refine sw_seq ?_
  refine sw_seq ?_
  refine sw_region ?_
  refine ow_val (val_move rfl) rfl ?_
  refine ow_val (val_eql_nilptr Tryd.underlying25 rfl rfl) rfl ?_
  refine ow_nil (into ?_)
  refine sw_true rfl rfl ?_
  refine sw_seq ?_
  refine sw_region ?_
  refine ow_val (val_assign rfl) rfl ?_
  refine ow_nil (into ?_)
  refine sw_ret (fun w hm => ?_)
  try dsimp only [thenP, blockP, Nat.beq, cond]
  exact ret_one _ rfl rfl ⟨rfl, hm.forgetAll⟩

theorem tjoin_any (k : Nat) (h1 : 1 ≤ k) (h2 : k ≤ 32) (l r : List UInt8) (hll : l.length = 32) (hrl : r.length = 32) (hlf : fm (k : Int) l = true) (hrf : fm (k : Int) r = true) (w : World) (hK : KW w) (b : Nat) (sz : UInt64) (s : Value) (hb : w.heap[b]? = some (blk (treeC k sz s) 79)) : Calls Tryd.prog 71 #[vPtr b, .agg ((l).map vU8).toArray, .agg ((r).map vU8).toArray] w fun e w' => ∃ v, e = .returned v ∧ v = .agg ((nd k l r).map vU8).toArray ∧ Mem w [] [] w' := by
  refine calls_of_sw (vs := [vPtr b, .agg ((l).map vU8).toArray, .agg ((r).map vU8).toArray]) Tryd.func71 rfl Tryd.ntmps71 rfl (SW.begin ?_)
  refine sw_seq ?_
  refine sw_region ?_
  refine ow_new (acts_box rfl) rfl (fun b4 hb4 => ?_)
  refine ow_new (acts_box rfl) rfl (fun b5 hb5 => ?_)
  refine ow_new (acts_alloc zD) rfl (fun b6 hb6 => ?_)
  refine ow_nil (into ?_)
  refine sw_seq ?_
  refine sw_region_tree (Mem w [] [some (b6, blk (zeros32.map vU8) 41), some (b5, blk (r.map vU8) 41), some (b4, blk (l.map vU8) 41)]) [] (.one 0 0 (.one 1 0 (.one 2 0 (.one 3 1 (.one 4 1 (.one 5 1 (.alt 6 (.one 7 0 (.one 8 0 (.one 9 0 (.one 10 2 (.one 11 2 (.one 12 0 .done)))))) (.alt 10 (.one 6 2 (.one 7 0 (.one 8 0 (.one 9 0 (.one 11 2 (.one 12 0 .done)))))) .stop)))))))) (by kernel_rfl) (by kernel_rfl) (fun _ _ _ h => h) (fun _ h => h.only (.cons_cons _ (.cons_cons _ (.cons_cons _ (List.nil_sublist _))))) (fun _ h => h.drawn _) ?_
  refine lt_pure rfl trivial (val_move rfl) rfl ?_
  refine lt_pure rfl trivial (val_nilCheck rfl) rfl ?_
  refine lt_pure rfl trivial (val_fieldAddr (m := 0) (e := 0) rfl Tryd.underlying79 rfl rfl Tryd.sizeOf3 rfl) rfl ?_
  refine lt_held rfl trivial (val_load_old hb (List.not_mem_nil) rfl Tryd.isAgg3 rfl) rfl ?_
  refine lt_held rfl trivial (val_load_all 2 rfl rfl Tryd.isAgg41 Tryd.sizeOf41 (by show (List.map vU8 l).length = _; rw [List.length_map]; exact hll)) rfl ?_
  refine lt_held rfl trivial (val_load_all 1 rfl rfl Tryd.isAgg41 Tryd.sizeOf41 (by show (List.map vU8 r).length = _; rw [List.length_map]; exact hrl)) rfl ?_
  refine lt_alt ?_ ?_
  · -- first 6
    refine lt_call_pure (v := .tuple #[.agg ((nd k l r).map vU8).toArray, vInt ((0 : Nat) : Int)]) rfl trivial (callsTo Tryd.func29 rfl (by kernel_rfl) rfl) rfl (fun w hm => (by have h := node_any w (hK.mem0 hm) (k : Int) l r hll hrl; rw [digO_node h1 h2 hlf hrf] at h; exact h)) (fun _ _ h => h.only (.cons_cons _ (.cons_cons _ (.cons_cons _ (List.nil_sublist _))))) ?_
    refine lt_pure rfl trivial (val_move rfl) rfl ?_
    refine lt_pure rfl trivial (val_extract rfl rfl) rfl ?_
    refine lt_pure rfl trivial (val_extract rfl rfl) rfl ?_
    refine lt_make (fun b => .pointer (some ⟨b, 0, none⟩)) rfl trivial (acts_alloc zD) rfl (fun _ _ _ h => h.only (.cons _ (.cons_cons _ (.cons_cons _ (.cons_cons _ (List.nil_sublist _)))))) (fun b7 hb7 => ?_)
    refine lt_do rfl trivial (does_store_all 0 rfl rfl rfl (one_u8s _) Tryd.sizeOf41 (by show (List.map vU8 (nd k l r)).length = _; rw [List.length_map]; exact (nd_len _ _ _ h2)) (by show (List.map vU8 zeros32).length = _; rw [List.length_map]; exact zeros32_len)) (fun _ _ _ _ h => h.only (.cons _ (.cons_cons _ (.cons_cons _ (.cons_cons _ (List.nil_sublist _)))))) (fun _ _ => ?_)
    refine lt_pure rfl trivial (val_assign rfl) rfl ?_
    refine lt_done (into ?_)
    refine sw_seq ?_
    refine sw_region ?_
    refine ow_val (val_load_all 0 rfl rfl Tryd.isAgg41 Tryd.sizeOf41 (by show (List.map vU8 (nd k l r)).length = _; rw [List.length_map]; exact (nd_len _ _ _ h2))) rfl ?_
    refine ow_do_eq (does_store_all 1 rfl rfl rfl (one_u8s _) Tryd.sizeOf41 (by show (List.map vU8 (nd k l r)).length = _; rw [List.length_map]; exact (nd_len _ _ _ h2)) (by show (List.map vU8 zeros32).length = _; rw [List.length_map]; exact zeros32_len)) ?_
    refine ow_nil (into ?_)
    refine sw_ret (fun w hm => ?_)
    try dsimp only [thenP, blockP, Nat.beq, cond]
    exact ret_cell 1 rfl rfl hm rfl Tryd.isAgg41 Tryd.sizeOf41 (by rw [List.length_map]; exact nd_len _ _ _ h2) ⟨rfl, hm.forgetAll⟩
  refine lt_alt ?_ ?_
  · -- first 10
    refine lt_make (fun b => .pointer (some ⟨b, 0, none⟩)) rfl trivial (acts_alloc zD) rfl (fun _ _ _ h => h.only (.cons _ (.cons_cons _ (.cons_cons _ (.cons_cons _ (List.nil_sublist _)))))) (fun b7 hb7 => ?_)
    refine lt_call_pure (v := .tuple #[.agg ((nd k l r).map vU8).toArray, vInt ((0 : Nat) : Int)]) rfl trivial (callsTo Tryd.func29 rfl (by kernel_rfl) rfl) rfl (fun w hm => (by have h := node_any w (hK.mem0 hm) (k : Int) l r hll hrl; rw [digO_node h1 h2 hlf hrf] at h; exact h)) (fun _ _ h => h.only (.cons _ (.cons_cons _ (.cons_cons _ (.cons_cons _ (List.nil_sublist _)))))) ?_
    refine lt_pure rfl trivial (val_move rfl) rfl ?_
    refine lt_pure rfl trivial (val_extract rfl rfl) rfl ?_
    refine lt_pure rfl trivial (val_extract rfl rfl) rfl ?_
    refine lt_do rfl trivial (does_store_all 0 rfl rfl rfl (one_u8s _) Tryd.sizeOf41 (by show (List.map vU8 (nd k l r)).length = _; rw [List.length_map]; exact (nd_len _ _ _ h2)) (by show (List.map vU8 zeros32).length = _; rw [List.length_map]; exact zeros32_len)) (fun _ _ _ _ h => h.only (.cons _ (.cons_cons _ (.cons_cons _ (.cons_cons _ (List.nil_sublist _)))))) (fun _ _ => ?_)
    refine lt_pure rfl trivial (val_assign rfl) rfl ?_
    refine lt_done (into ?_)
    refine sw_seq ?_
    refine sw_region ?_
    refine ow_val (val_load_all 0 rfl rfl Tryd.isAgg41 Tryd.sizeOf41 (by show (List.map vU8 (nd k l r)).length = _; rw [List.length_map]; exact (nd_len _ _ _ h2))) rfl ?_
    refine ow_do_eq (does_store_all 1 rfl rfl rfl (one_u8s _) Tryd.sizeOf41 (by show (List.map vU8 (nd k l r)).length = _; rw [List.length_map]; exact (nd_len _ _ _ h2)) (by show (List.map vU8 zeros32).length = _; rw [List.length_map]; exact zeros32_len)) ?_
    refine ow_nil (into ?_)
    refine sw_ret (fun w hm => ?_)
    try dsimp only [thenP, blockP, Nat.beq, cond]
    exact ret_cell 1 rfl rfl hm rfl Tryd.isAgg41 Tryd.sizeOf41 (by rw [List.length_map]; exact nd_len _ _ _ h2) ⟨rfl, hm.forgetAll⟩
  exact lt_stop

theorem tbelow_any (n : UInt64) (hn2 : 2 ≤ n.toNat) (w : World) : Calls Tryd.prog 70 #[vU64 n] w fun e w' => ∃ v, e = .returned v ∧ v = vU64 (splitU n) ∧ Mem w [] [] w' := by
  refine calls_of_sw (vs := [vU64 n]) Tryd.func70 rfl Tryd.ntmps70 rfl (SW.begin ?_)
  refine sw_seq ?_
  refine sw_region ?_
  refine ow_val (val_assign rfl) rfl ?_
  refine ow_nil (into ?_)
  refine sw_seq ?_
  refine sw_region ?_
  refine ow_val (val_assign rfl) rfl ?_
  refine ow_nil (into ?_)
  refine sw_seq ?_
  refine sw_block ?_
  refine sw_loop (σ := UInt64) (fun v => (∃ j, v.toNat = 2 ^ j) ∧ v.toNat < n.toNat) (fun v => [(3, vU64 v), (0, vU64 n)]) (fun _ => Mem w [] []) (fun v => n.toNat - v.toNat) (UInt64.ofNat (Int.toNat 1)) ⟨⟨0, rfl⟩, (show 1 < n.toNat by omega)⟩ ⟨rfl, rfl, trivial⟩ (fun w hm => hm) ?_
  rintro v ⟨⟨j, hj⟩, hv⟩
  have hnl := n.toNat_lt
  have hvp : 1 ≤ v.toNat := by rw [hj]; exact Nat.one_le_two_pow
  refine sw_seq ?_
  refine sw_seq ?_
  refine sw_region ?_
  refine ow_val (val_move rfl) rfl ?_
  refine ow_val (val_move rfl) rfl ?_
  refine ow_val (val_move rfl) rfl ?_
  refine ow_val (val_sub_u64 rfl rfl) rfl ?_
  refine ow_val (val_lss_u64 rfl rfl) rfl ?_
  refine ow_nil (into ?_)
  refine sw_if rfl (fun h0 => ?_) (fun h0 => ?_)
  · -- then
    have hlt : 2 * v.toNat < n.toNat := by
      have h3 := UInt64.lt_iff_toNat_lt.1 h0
      rw [UInt64.toNat_sub_of_le _ _ (UInt64.le_iff_toNat_le.2 (by omega))] at h3
      omega
    have hm2 : (v * UInt64.ofNat (Int.toNat 2)).toNat = v.toNat * 2 := by
      rw [UInt64.toNat_mul]; show v.toNat * 2 % 2 ^ 64 = _; omega
    refine sw_skip (into ?_)
    refine sw_block ?_
    refine sw_region ?_
    refine ow_val (val_move rfl) rfl ?_
    refine ow_val (val_mul_u64 rfl rfl) rfl ?_
    refine ow_val (val_assign rfl) rfl ?_
    exact ow_nil (fun w hm => ⟨v * UInt64.ofNat (Int.toNat 2), ⟨⟨j + 1, by rw [hm2, hj, Nat.pow_succ]⟩, by rw [hm2]; omega⟩, by rw [hm2]; omega, ⟨rfl, rfl, trivial⟩, hm⟩)
  · -- else
    have hge : n.toNat ≤ 2 * v.toNat := Nat.le_of_not_lt fun h3 => h0 (UInt64.lt_iff_toNat_lt.2 (by rw [UInt64.toNat_sub_of_le _ _ (UInt64.le_iff_toNat_le.2 (by omega))]; omega))
    refine sw_exit (into ?_)
    refine sw_seq ?_
    refine sw_region ?_
    refine ow_val (val_move rfl) rfl ?_
    refine ow_val (val_assign rfl) rfl ?_
    refine ow_nil (into ?_)
    exact sw_ret (fun w hm => ret_one _ rfl rfl ⟨by rw [splitU_eq hj hv hge], hm⟩)
end Go.Proofs.YtcdponddgnkecaaDoor
