import Derived.Test.YtbhbhdojmacpmaaDoorMck4
import Derived.Test.YtbhbhdojmacpmaaDoorPShow
import Derived.Test.YtbhbhdojmacpmaaDoorProg
set_option linter.unusedVariables false
set_option linter.unusedSimpArgs false
namespace Go.Proofs.YtbhbhdojmacpmaaDoor
open Go.Sx Go.Ps
theorem iBo : (Tryd.prog.info? 4).map (fun i => (i.zero, i.size, i.bytes)) = some (some (.bool false), 1, 1) := by kernel_rfl

theorem splits_any (i n : UInt64) (w : World) : Calls Tryd.prog 22 #[vU64 i, vU64 n] w fun e w' => ∃ v, e = .returned v ∧ ∃ e', RowE v 4 1 (splitsL i n).length ((splitsL i n).map Value.bool) e' ∧ Mem w [] [e'] w' := by
  obtain ⟨tiB, hBi, hBz, hBsz, hBby⟩ := info_parts iBo
  refine calls_of_sw (vs := [vU64 i, vU64 n]) Tryd.func22 rfl Tryd.ntmps22 rfl (SW.begin ?_)
  refine sw_seq ?_
  refine sw_region ?_
  refine ow_val (val_assign rfl) rfl ?_   -- 4
  refine ow_nil (into ?_)
  refine sw_seq ?_
  refine sw_region ?_
  refine ow_val (val_assign rfl) rfl ?_   -- 5
  refine ow_nil (into ?_)
  refine sw_seq ?_
  refine sw_block ?_
  refine sw_loop (σ := UInt64 × UInt64 × Option Addr × Nat × Ent × List Bool) (fun t => t.2.2.2.2.2 ++ splitsL t.1 t.2.1 = splitsL i n ∧ RowE (.slice t.2.2.1 t.2.2.2.2.2.length t.2.2.2.1) 4 1 t.2.2.2.2.2.length (t.2.2.2.2.2.map Value.bool) t.2.2.2.2.1) (fun t => [(5, .slice t.2.2.1 t.2.2.2.2.2.length t.2.2.2.1), (1, vU64 t.2.1), (0, vU64 t.1)]) (fun t => Mem w [] [t.2.2.2.2.1]) (fun t => t.2.1.toNat) (i, n, none, 0, none, []) ⟨rfl, RowE.nil _ _⟩ ⟨rfl, rfl, rfl, trivial⟩ (fun w hm => hm.place) ?_
  rintro ⟨x, y, a1, c1, e1, ls⟩ ⟨hsum, hrow⟩
  simp only at hsum hrow ⊢
  have hyl := y.toNat_lt
  have hll : ls.length ≤ 64 := by have h1 := splitsL_len 64 i n (Nat.le_of_lt n.toNat_lt); rw [← hsum, List.length_append] at h1; omega
  refine sw_seq ?_
  refine sw_seq ?_
  refine sw_region ?_
  refine ow_val (val_move rfl) rfl ?_   -- 7
  refine ow_val (val_gtr_u64 rfl rfl) rfl ?_   -- 8
  refine ow_nil (into ?_)
  refine sw_if rfl (fun h0 => ?_) (fun h0 => ?_)
  · -- then
    have hy2 : 2 ≤ y.toNat := UInt64.lt_iff_toNat_lt.1 h0
    refine sw_skip (into ?_)
    refine sw_block ?_
    refine sw_seq ?_
    refine sw_region ?_
    refine ow_val (val_assign rfl) rfl ?_   -- 6
    refine ow_nil (into ?_)
    refine sw_seq ?_
    refine sw_block ?_
    refine sw_loop (σ := UInt64) (fun v => (∃ j, v.toNat = 2 ^ j) ∧ v.toNat < y.toNat) (fun v => [(6, vU64 v), (5, .slice a1 ls.length c1), (1, vU64 y), (0, vU64 x)]) (fun _ => Mem w [] [e1]) (fun v => y.toNat - v.toNat) (UInt64.ofNat (Int.toNat 1)) ⟨⟨0, rfl⟩, (show 1 < y.toNat by omega)⟩ ⟨rfl, rfl, rfl, rfl, trivial⟩ (fun w hm => hm) ?_
    rintro v ⟨⟨j, hj⟩, hv⟩
    have hvp : 1 ≤ v.toNat := by rw [hj]; exact Nat.one_le_two_pow
    refine sw_seq ?_
    refine sw_seq ?_
    refine sw_region ?_
    refine ow_val (val_move rfl) rfl ?_   -- 9
    refine ow_val (val_move rfl) rfl ?_   -- 10
    refine ow_val (val_sub_u64 rfl rfl) rfl ?_   -- 11
    refine ow_val (val_quo_u64 rfl rfl (by decide)) rfl ?_   -- 12
    refine ow_val (val_leq_u64 rfl rfl) rfl ?_   -- 13
    refine ow_nil (into ?_)
    refine sw_if rfl (fun h1 => ?_) (fun h1 => ?_)
    · -- then
      have hdv : ((y - UInt64.ofNat (Int.toNat 1)) / UInt64.ofNat (Int.toNat 2)).toNat = (y.toNat - 1) / 2 := by
        rw [UInt64.toNat_div, UInt64.toNat_sub_of_le _ _ (UInt64.le_iff_toNat_le.2 (show (UInt64.ofNat (Int.toNat 1)).toNat ≤ y.toNat from (show 1 ≤ y.toNat by omega)))]; rfl
      have hlt : 2 * v.toNat < y.toNat := by
        have h3 := UInt64.le_iff_toNat_le.1 h1
        rw [hdv] at h3
        omega
      have hm2 : (v * UInt64.ofNat (Int.toNat 2)).toNat = v.toNat * 2 := by
        rw [UInt64.toNat_mul]; show v.toNat * 2 % 2 ^ 64 = _; omega
      refine sw_skip (into ?_)
      refine sw_block ?_
      refine sw_region ?_
      refine ow_val (val_move rfl) rfl ?_   -- 14
      refine ow_val (val_mul_u64 rfl rfl) rfl ?_   -- 15
      refine ow_val (val_assign rfl) rfl ?_   -- 6
      exact ow_nil (fun w hm => ⟨v * UInt64.ofNat (Int.toNat 2), ⟨⟨j + 1, by rw [hm2, hj, Nat.pow_succ]⟩, by rw [hm2]; omega⟩, by rw [hm2]; omega, ⟨rfl, rfl, rfl, rfl, trivial⟩, hm⟩)
    · -- else
      have hdv : ((y - UInt64.ofNat (Int.toNat 1)) / UInt64.ofNat (Int.toNat 2)).toNat = (y.toNat - 1) / 2 := by
        rw [UInt64.toNat_div, UInt64.toNat_sub_of_le _ _ (UInt64.le_iff_toNat_le.2 (show (UInt64.ofNat (Int.toNat 1)).toNat ≤ y.toNat from (show 1 ≤ y.toNat by omega)))]; rfl
      have hge : y.toNat ≤ 2 * v.toNat := Nat.le_of_not_lt fun h3 => h1 (UInt64.le_iff_toNat_le.2 (by rw [hdv]; omega))
      have hsv : splitU y = v := splitU_eq hj hv hge
      refine sw_exit (into ?_)
      refine sw_seq ?_
      refine sw_region ?_
      refine ow_val (val_move rfl) rfl ?_   -- 16
      refine ow_val (val_move rfl) rfl ?_   -- 17
      refine ow_val (val_move rfl) rfl ?_   -- 18
      refine ow_val (val_lss_u64 rfl rfl) rfl ?_   -- 19
      refine ow_make (acts_buildSlice (cs := [Value.bool (decide (x < v))]) Tryd.underlying44 Tryd.sizeOf4 Tryd.zeroValue4 rfl rfl (by kernel_rfl)) rfl (fun b20 hb20 => ?_)   -- 20
      refine ow_append' (k := ls.length + 1) (acts_append (size := 1) (bytes := 1) 1 rfl rfl rfl hrow rfl Tryd.underlying44 hBi hBz hBsz hBby rfl (by decide) (fun w hm => Rd.blk (hm.at (i := 0) rfl)) rfl (fun u hu => by rw [List.mem_singleton.1 hu]; rfl) (by omega) (by omega)) rfl (fun a21 c21 e21 hr21 => ?_)   -- 21
      refine ow_val (val_assign rfl) rfl ?_   -- 5
      refine ow_nil (into ?_)
      refine sw_seq ?_
      refine sw_region ?_
      refine ow_val (val_move rfl) rfl ?_   -- 22
      refine ow_val (val_move rfl) rfl ?_   -- 23
      refine ow_val (val_lss_u64 rfl rfl) rfl ?_   -- 24
      refine ow_nil (into ?_)
      refine sw_if rfl (fun hlt => ?_) (fun hlt => ?_)
      · -- then
        refine sw_region ?_
        refine ow_val (val_move rfl) rfl ?_   -- 25
        refine ow_val (val_assign rfl) rfl ?_   -- 1
        exact ow_nil (fun w hm => ⟨(x, v, a21, c21, e21, ls ++ [true]), ⟨by dsimp only; rw [List.append_assoc, List.singleton_append, ← hsum, splitsL_left hy2 (by rw [hsv]; exact hlt), hsv], by dsimp only; rw [List.length_append]; exact hr21.cong rfl rfl (by rw [List.map_append, decide_eq_true hlt]; rfl)⟩, by dsimp only; omega, ⟨(by rw [List.length_append]; rfl), rfl, rfl, trivial⟩, hm.only (.cons _ (.cons_cons _ (List.nil_sublist _)))⟩)
      · -- else
        have hns : (y - v).toNat = y.toNat - v.toNat := UInt64.toNat_sub_of_le _ _ (UInt64.le_iff_toNat_le.2 (by omega))
        refine sw_region ?_
        refine ow_val (val_move rfl) rfl ?_   -- 26
        refine ow_val (val_move rfl) rfl ?_   -- 27
        refine ow_val (val_sub_u64 rfl rfl) rfl ?_   -- 28
        refine ow_val (val_move rfl) rfl ?_   -- 29
        refine ow_val (val_move rfl) rfl ?_   -- 30
        refine ow_val (val_sub_u64 rfl rfl) rfl ?_   -- 31
        refine ow_val (val_assign rfl) rfl ?_   -- 0
        refine ow_val (val_assign rfl) rfl ?_   -- 1
        exact ow_nil (fun w hm => ⟨((x - v), (y - v), a21, c21, e21, ls ++ [false]), ⟨by dsimp only; rw [List.append_assoc, List.singleton_append, ← hsum, splitsL_right hy2 (by rw [hsv]; exact hlt), hsv], by dsimp only; rw [List.length_append]; exact hr21.cong rfl rfl (by rw [List.map_append, decide_eq_false hlt]; rfl)⟩, by dsimp only; omega, ⟨(by rw [List.length_append]; rfl), rfl, rfl, trivial⟩, hm.only (.cons _ (.cons_cons _ (List.nil_sublist _)))⟩)
  · -- else
    have hy3 : ¬ 2 ≤ y.toNat := fun h => h0 (UInt64.lt_iff_toNat_lt.2 h)
    rw [splitsL_end hy3, List.append_nil] at hsum
    refine sw_exit (into ?_)
    refine sw_seq ?_
    refine sw_region ?_
    refine ow_val (val_move rfl) rfl ?_   -- 32
    refine ow_val (val_assign rfl) rfl ?_   -- 4
    refine ow_nil (into ?_)
    exact sw_ret (fun w hm => ret_one _ rfl rfl ⟨e1, by rw [← hsum]; exact hrow, hm⟩)

theorem shows_1 (v0 : Int) (leaf : List UInt8) (hll : leaf.length = 32) (i n : UInt64) (root : List UInt8) (hrl : root.length = 32) (w : World) (hK : KW w) (a : Option Addr) (c : Nat) (proof : List (List UInt8)) (hpl : ∀ d ∈ proof, d.length = 32) (hr : Rd w a (proof.flatMap fun d => d.map vU8)) (hc : proof.length ≤ c) (hl : proof.length < 9223372036854775808) (hb : (proof.length + 2) * 32 ≤ 140737488355328) (lef2 : List UInt8) (hl2l : lef2.length = 32) (a2 : Option Addr) (c2 : Nat) (qs : List (List UInt8)) (hql : ∀ d ∈ qs, d.length = 32) (hq : Rd w a2 (qs.flatMap fun d => d.map vU8)) (hc2 : qs.length ≤ c2) (hl2 : qs.length < 9223372036854775808) (hb2 : (qs.length + 2) * 32 ≤ 140737488355328) (h : (rootO v0 leaf i n proof).2 ≠ 0) : Calls Tryd.prog 7 #[.agg (askC v0 leaf i n (.slice a proof.length c) root).toArray, .agg ((lef2).map vU8).toArray, .slice a2 qs.length c2] w fun e w' => ∃ v, e = .returned v ∧ v = .bool true ∧ Mem w [] [] w' := by
  refine calls_of_sw (vs := [.agg (askC v0 leaf i n (.slice a proof.length c) root).toArray, .agg ((lef2).map vU8).toArray, .slice a2 qs.length c2]) Tryd.func7 rfl Tryd.ntmps7 rfl (SW.begin ?_)
  refine sw_seq ?_
  refine sw_region ?_
  refine ow_new (acts_box rfl) rfl (fun b3 hb3 => ?_)   -- 3
  refine ow_new (acts_box rfl) rfl (fun b4 hb4 => ?_)   -- 4
  refine ow_val (val_assign rfl) rfl ?_   -- 6
  refine ow_nil (into ?_)
  refine sw_seq ?_
  refine sw_seq ?_
  refine sw_region ?_
  refine ow_call_pure (v := .bool true) (callsTo Tryd.func15 rfl (by kernel_rfl) rfl) rfl (fun w hm => awake_any w (hK.mem0 hm)) ?_   -- 23
  refine ow_val (val_not rfl) rfl ?_   -- 24
  refine ow_nil (into ?_)
  refine sw_false rfl rfl ?_
  refine sw_skip (into ?_)
  refine sw_seq ?_
  refine sw_region ?_
  refine ow_val (val_fieldAddr (m := 0) (e := 0) rfl Tryd.underlying27 rfl rfl Tryd.sizeOf3 rfl) rfl ?_   -- 26
  refine ow_val (val_load_at 1 rfl rfl Tryd.isAgg3 rfl) rfl ?_   -- 27
  refine ow_val (val_fieldAddr (m := 31) (e := 1) rfl Tryd.underlying27 rfl rfl Tryd.sizeOf23 rfl) rfl ?_   -- 28
  refine ow_val (val_load_part 1 rfl rfl Tryd.isAgg23 Tryd.sizeOf23 (by show (List.map vU8 leaf).length = _; rw [List.length_map]; exact hll) (ask_leaf hll)) rfl ?_   -- 29
  refine ow_val (val_fieldAddr (m := 0) (e := 33) rfl Tryd.underlying27 rfl rfl Tryd.sizeOf24 rfl) rfl ?_   -- 30
  refine ow_val (val_load_at 1 rfl rfl Tryd.isAgg24 (ask_33 hll)) rfl ?_   -- 31
  refine ow_val (val_fieldAddr (m := 0) (e := 34) rfl Tryd.underlying27 rfl rfl Tryd.sizeOf24 rfl) rfl ?_   -- 32
  refine ow_val (val_load_at 1 rfl rfl Tryd.isAgg24 (ask_34 hll)) rfl ?_   -- 33
  refine ow_val (val_fieldAddr (m := 0) (e := 35) rfl Tryd.underlying27 rfl rfl Tryd.sizeOf25 rfl) rfl ?_   -- 34
  refine ow_val (val_load_at 1 rfl rfl Tryd.isAgg25 (ask_35 hll)) rfl ?_   -- 35
  refine ow_call_pure (callsTo Tryd.func12 rfl (by kernel_rfl) rfl) rfl (fun w hm => mroot_any v0 leaf hll i n w (hK.mem0 hm) a proof.length c proof rfl hpl (hr.mem hm) (by omega) (by omega) hb) ?_   -- 36
  refine ow_val (val_move rfl) rfl ?_   -- 25
  refine ow_val (val_extract rfl rfl) rfl ?_   -- 37
  refine ow_val (val_extract rfl rfl) rfl ?_   -- 38
  refine ow_new (acts_alloc zD) rfl (fun b7 hb7 => ?_)   -- 7
  refine ow_do_eq (does_store_all 0 rfl rfl rfl (one_u8s _) Tryd.sizeOf23 (by show (List.map vU8 ((rootO v0 leaf i n proof).1)).length = _; rw [List.length_map]; exact (rootO_len hll)) (by show (List.map vU8 zeros32).length = _; rw [List.length_map]; exact zeros32_len)) ?_
  refine ow_val (val_assign rfl) rfl ?_   -- 8
  refine ow_nil (into ?_)
  refine sw_seq ?_
  refine sw_region ?_
  refine ow_val (val_fieldAddr (m := 0) (e := 0) rfl Tryd.underlying27 rfl rfl Tryd.sizeOf3 rfl) rfl ?_   -- 40
  refine ow_val (val_load_at 2 rfl rfl Tryd.isAgg3 rfl) rfl ?_   -- 41
  refine ow_val (val_load_all 1 rfl rfl Tryd.isAgg23 Tryd.sizeOf23 (by show (List.map vU8 lef2).length = _; rw [List.length_map]; exact hl2l)) rfl ?_   -- 42
  refine ow_val (val_fieldAddr (m := 0) (e := 33) rfl Tryd.underlying27 rfl rfl Tryd.sizeOf24 rfl) rfl ?_   -- 43
  refine ow_val (val_load_at 2 rfl rfl Tryd.isAgg24 (ask_33 hll)) rfl ?_   -- 44
  refine ow_val (val_fieldAddr (m := 0) (e := 34) rfl Tryd.underlying27 rfl rfl Tryd.sizeOf24 rfl) rfl ?_   -- 45
  refine ow_val (val_load_at 2 rfl rfl Tryd.isAgg24 (ask_34 hll)) rfl ?_   -- 46
  refine ow_val (val_move rfl) rfl ?_   -- 47
  refine ow_call_pure (callsTo Tryd.func12 rfl (by kernel_rfl) rfl) rfl (fun w hm => mroot_any v0 lef2 hl2l i n w (hK.mem0 hm) a2 qs.length c2 qs rfl hql (hq.mem hm) (by omega) (by omega) hb2) ?_   -- 48
  refine ow_val (val_move rfl) rfl ?_   -- 39
  refine ow_val (val_extract rfl rfl) rfl ?_   -- 49
  refine ow_val (val_extract rfl rfl) rfl ?_   -- 50
  refine ow_new (acts_alloc zD) rfl (fun b9 hb9 => ?_)   -- 9
  refine ow_do_eq (does_store_all 0 rfl rfl rfl (one_u8s _) Tryd.sizeOf23 (by show (List.map vU8 ((rootO v0 lef2 i n qs).1)).length = _; rw [List.length_map]; exact (rootO_len hl2l)) (by show (List.map vU8 zeros32).length = _; rw [List.length_map]; exact zeros32_len)) ?_
  refine ow_val (val_assign rfl) rfl ?_   -- 10
  refine ow_nil (into ?_)
  refine sw_seq ?_
  refine sw_seq ?_
  refine sw_region ?_
  refine ow_val (val_move rfl) rfl ?_   -- 51
  refine ow_val ((val_neq_int rfl rfl).to (v' := .bool true) (congrArg Value.bool (decide_eq_true (by omega)))) rfl ?_   -- 52
  refine ow_val (val_move rfl) rfl ?_   -- 53
  first | refine ow_guard_no rfl rfl rfl rfl rfl ?_ | refine ow_guard_none rfl rfl rfl rfl rfl ?_
  first | refine ow_guard_no rfl rfl rfl rfl rfl ?_ | refine ow_guard_none rfl rfl rfl rfl rfl ?_
  refine ow_val (val_pick_true rfl rfl) rfl ?_   -- 56
  refine ow_val (val_move rfl) rfl ?_   -- 57
  first | refine ow_guard_no rfl rfl rfl rfl rfl ?_ | refine ow_guard_none rfl rfl rfl rfl rfl ?_
  first | refine ow_guard_no rfl rfl rfl rfl rfl ?_ | refine ow_guard_none rfl rfl rfl rfl rfl ?_
  first | refine ow_guard_no rfl rfl rfl rfl rfl ?_ | refine ow_guard_none rfl rfl rfl rfl rfl ?_
  refine ow_val (val_pick_true rfl rfl) rfl ?_   -- 61
  refine ow_val (val_move rfl) rfl ?_   -- 62
  first | refine ow_guard_no rfl rfl rfl rfl rfl ?_ | refine ow_guard_none rfl rfl rfl rfl rfl ?_
  first | refine ow_guard_no rfl rfl rfl rfl rfl ?_ | refine ow_guard_none rfl rfl rfl rfl rfl ?_
  first | refine ow_guard_no rfl rfl rfl rfl rfl ?_ | refine ow_guard_none rfl rfl rfl rfl rfl ?_
  first | refine ow_guard_no rfl rfl rfl rfl rfl ?_ | refine ow_guard_none rfl rfl rfl rfl rfl ?_
  refine ow_val (val_pick_true rfl rfl) rfl ?_   -- 67
  refine ow_nil (into ?_)
  refine sw_true rfl rfl ?_
  refine sw_seq ?_
  refine sw_region ?_
  refine ow_val (val_assign rfl) rfl ?_   -- 6
  refine ow_nil (into ?_)
  refine sw_ret (fun w hm => ?_)
  try dsimp only [thenP, blockP, Nat.beq, cond]
  exact ret_one _ rfl rfl ⟨rfl, hm.forgetAll⟩

theorem shows_2 (v0 : Int) (leaf : List UInt8) (hll : leaf.length = 32) (i n : UInt64) (root : List UInt8) (hrl : root.length = 32) (w : World) (hK : KW w) (a : Option Addr) (c : Nat) (proof : List (List UInt8)) (hpl : ∀ d ∈ proof, d.length = 32) (hr : Rd w a (proof.flatMap fun d => d.map vU8)) (hc : proof.length ≤ c) (hl : proof.length < 9223372036854775808) (hb : (proof.length + 2) * 32 ≤ 140737488355328) (lef2 : List UInt8) (hl2l : lef2.length = 32) (a2 : Option Addr) (c2 : Nat) (qs : List (List UInt8)) (hql : ∀ d ∈ qs, d.length = 32) (hq : Rd w a2 (qs.flatMap fun d => d.map vU8)) (hc2 : qs.length ≤ c2) (hl2 : qs.length < 9223372036854775808) (hb2 : (qs.length + 2) * 32 ≤ 140737488355328) (h : (rootO v0 leaf i n proof).2 = 0) (h2 : (rootO v0 lef2 i n qs).2 ≠ 0) : Calls Tryd.prog 7 #[.agg (askC v0 leaf i n (.slice a proof.length c) root).toArray, .agg ((lef2).map vU8).toArray, .slice a2 qs.length c2] w fun e w' => ∃ v, e = .returned v ∧ v = .bool true ∧ Mem w [] [] w' := by
  refine calls_of_sw (vs := [.agg (askC v0 leaf i n (.slice a proof.length c) root).toArray, .agg ((lef2).map vU8).toArray, .slice a2 qs.length c2]) Tryd.func7 rfl Tryd.ntmps7 rfl (SW.begin ?_)
  refine sw_seq ?_
  refine sw_region ?_
  refine ow_new (acts_box rfl) rfl (fun b3 hb3 => ?_)   -- 3
  refine ow_new (acts_box rfl) rfl (fun b4 hb4 => ?_)   -- 4
  refine ow_val (val_assign rfl) rfl ?_   -- 6
  refine ow_nil (into ?_)
  refine sw_seq ?_
  refine sw_seq ?_
  refine sw_region ?_
  refine ow_call_pure (v := .bool true) (callsTo Tryd.func15 rfl (by kernel_rfl) rfl) rfl (fun w hm => awake_any w (hK.mem0 hm)) ?_   -- 23
  refine ow_val (val_not rfl) rfl ?_   -- 24
  refine ow_nil (into ?_)
  refine sw_false rfl rfl ?_
  refine sw_skip (into ?_)
  refine sw_seq ?_
  refine sw_region ?_
  refine ow_val (val_fieldAddr (m := 0) (e := 0) rfl Tryd.underlying27 rfl rfl Tryd.sizeOf3 rfl) rfl ?_   -- 26
  refine ow_val (val_load_at 1 rfl rfl Tryd.isAgg3 rfl) rfl ?_   -- 27
  refine ow_val (val_fieldAddr (m := 31) (e := 1) rfl Tryd.underlying27 rfl rfl Tryd.sizeOf23 rfl) rfl ?_   -- 28
  refine ow_val (val_load_part 1 rfl rfl Tryd.isAgg23 Tryd.sizeOf23 (by show (List.map vU8 leaf).length = _; rw [List.length_map]; exact hll) (ask_leaf hll)) rfl ?_   -- 29
  refine ow_val (val_fieldAddr (m := 0) (e := 33) rfl Tryd.underlying27 rfl rfl Tryd.sizeOf24 rfl) rfl ?_   -- 30
  refine ow_val (val_load_at 1 rfl rfl Tryd.isAgg24 (ask_33 hll)) rfl ?_   -- 31
  refine ow_val (val_fieldAddr (m := 0) (e := 34) rfl Tryd.underlying27 rfl rfl Tryd.sizeOf24 rfl) rfl ?_   -- 32
  refine ow_val (val_load_at 1 rfl rfl Tryd.isAgg24 (ask_34 hll)) rfl ?_   -- 33
  refine ow_val (val_fieldAddr (m := 0) (e := 35) rfl Tryd.underlying27 rfl rfl Tryd.sizeOf25 rfl) rfl ?_   -- 34
  refine ow_val (val_load_at 1 rfl rfl Tryd.isAgg25 (ask_35 hll)) rfl ?_   -- 35
  refine ow_call_pure (callsTo Tryd.func12 rfl (by kernel_rfl) rfl) rfl (fun w hm => mroot_any v0 leaf hll i n w (hK.mem0 hm) a proof.length c proof rfl hpl (hr.mem hm) (by omega) (by omega) hb) ?_   -- 36
  refine ow_val (val_move rfl) rfl ?_   -- 25
  refine ow_val (val_extract rfl rfl) rfl ?_   -- 37
  refine ow_val (val_extract rfl rfl) rfl ?_   -- 38
  refine ow_new (acts_alloc zD) rfl (fun b7 hb7 => ?_)   -- 7
  refine ow_do_eq (does_store_all 0 rfl rfl rfl (one_u8s _) Tryd.sizeOf23 (by show (List.map vU8 ((rootO v0 leaf i n proof).1)).length = _; rw [List.length_map]; exact (rootO_len hll)) (by show (List.map vU8 zeros32).length = _; rw [List.length_map]; exact zeros32_len)) ?_
  refine ow_val (val_assign rfl) rfl ?_   -- 8
  refine ow_nil (into ?_)
  refine sw_seq ?_
  refine sw_region ?_
  refine ow_val (val_fieldAddr (m := 0) (e := 0) rfl Tryd.underlying27 rfl rfl Tryd.sizeOf3 rfl) rfl ?_   -- 40
  refine ow_val (val_load_at 2 rfl rfl Tryd.isAgg3 rfl) rfl ?_   -- 41
  refine ow_val (val_load_all 1 rfl rfl Tryd.isAgg23 Tryd.sizeOf23 (by show (List.map vU8 lef2).length = _; rw [List.length_map]; exact hl2l)) rfl ?_   -- 42
  refine ow_val (val_fieldAddr (m := 0) (e := 33) rfl Tryd.underlying27 rfl rfl Tryd.sizeOf24 rfl) rfl ?_   -- 43
  refine ow_val (val_load_at 2 rfl rfl Tryd.isAgg24 (ask_33 hll)) rfl ?_   -- 44
  refine ow_val (val_fieldAddr (m := 0) (e := 34) rfl Tryd.underlying27 rfl rfl Tryd.sizeOf24 rfl) rfl ?_   -- 45
  refine ow_val (val_load_at 2 rfl rfl Tryd.isAgg24 (ask_34 hll)) rfl ?_   -- 46
  refine ow_val (val_move rfl) rfl ?_   -- 47
  refine ow_call_pure (callsTo Tryd.func12 rfl (by kernel_rfl) rfl) rfl (fun w hm => mroot_any v0 lef2 hl2l i n w (hK.mem0 hm) a2 qs.length c2 qs rfl hql (hq.mem hm) (by omega) (by omega) hb2) ?_   -- 48
  refine ow_val (val_move rfl) rfl ?_   -- 39
  refine ow_val (val_extract rfl rfl) rfl ?_   -- 49
  refine ow_val (val_extract rfl rfl) rfl ?_   -- 50
  refine ow_new (acts_alloc zD) rfl (fun b9 hb9 => ?_)   -- 9
  refine ow_do_eq (does_store_all 0 rfl rfl rfl (one_u8s _) Tryd.sizeOf23 (by show (List.map vU8 ((rootO v0 lef2 i n qs).1)).length = _; rw [List.length_map]; exact (rootO_len hl2l)) (by show (List.map vU8 zeros32).length = _; rw [List.length_map]; exact zeros32_len)) ?_
  refine ow_val (val_assign rfl) rfl ?_   -- 10
  refine ow_nil (into ?_)
  refine sw_seq ?_
  refine sw_seq ?_
  refine sw_region ?_
  refine ow_val (val_move rfl) rfl ?_   -- 51
  refine ow_val ((val_neq_int rfl rfl).to (v' := .bool false) (congrArg Value.bool (decide_eq_false (fun h => h (by omega))))) rfl ?_   -- 52
  refine ow_val (val_move rfl) rfl ?_   -- 53
  refine ow_guard_yes rfl rfl rfl ?_
  refine ow_val (val_move rfl) rfl ?_   -- 54
  refine ow_guard_yes rfl rfl rfl ?_
  refine ow_val ((val_neq_int rfl rfl).to (v' := .bool true) (congrArg Value.bool (decide_eq_true (by omega)))) rfl ?_   -- 55
  refine ow_val (val_pick_false rfl rfl) rfl ?_   -- 56
  refine ow_val (val_move rfl) rfl ?_   -- 57
  first | refine ow_guard_no rfl rfl rfl rfl rfl ?_ | refine ow_guard_none rfl rfl rfl rfl rfl ?_
  first | refine ow_guard_no rfl rfl rfl rfl rfl ?_ | refine ow_guard_none rfl rfl rfl rfl rfl ?_
  first | refine ow_guard_no rfl rfl rfl rfl rfl ?_ | refine ow_guard_none rfl rfl rfl rfl rfl ?_
  refine ow_val (val_pick_true rfl rfl) rfl ?_   -- 61
  refine ow_val (val_move rfl) rfl ?_   -- 62
  first | refine ow_guard_no rfl rfl rfl rfl rfl ?_ | refine ow_guard_none rfl rfl rfl rfl rfl ?_
  first | refine ow_guard_no rfl rfl rfl rfl rfl ?_ | refine ow_guard_none rfl rfl rfl rfl rfl ?_
  first | refine ow_guard_no rfl rfl rfl rfl rfl ?_ | refine ow_guard_none rfl rfl rfl rfl rfl ?_
  first | refine ow_guard_no rfl rfl rfl rfl rfl ?_ | refine ow_guard_none rfl rfl rfl rfl rfl ?_
  refine ow_val (val_pick_true rfl rfl) rfl ?_   -- 67
  refine ow_nil (into ?_)
  refine sw_true rfl rfl ?_
  refine sw_seq ?_
  refine sw_region ?_
  refine ow_val (val_assign rfl) rfl ?_   -- 6
  refine ow_nil (into ?_)
  refine sw_ret (fun w hm => ?_)
  try dsimp only [thenP, blockP, Nat.beq, cond]
  exact ret_one _ rfl rfl ⟨rfl, hm.forgetAll⟩

theorem shows_3 (v0 : Int) (leaf : List UInt8) (hll : leaf.length = 32) (i n : UInt64) (root : List UInt8) (hrl : root.length = 32) (w : World) (hK : KW w) (a : Option Addr) (c : Nat) (proof : List (List UInt8)) (hpl : ∀ d ∈ proof, d.length = 32) (hr : Rd w a (proof.flatMap fun d => d.map vU8)) (hc : proof.length ≤ c) (hl : proof.length < 9223372036854775808) (hb : (proof.length + 2) * 32 ≤ 140737488355328) (lef2 : List UInt8) (hl2l : lef2.length = 32) (a2 : Option Addr) (c2 : Nat) (qs : List (List UInt8)) (hql : ∀ d ∈ qs, d.length = 32) (hq : Rd w a2 (qs.flatMap fun d => d.map vU8)) (hc2 : qs.length ≤ c2) (hl2 : qs.length < 9223372036854775808) (hb2 : (qs.length + 2) * 32 ≤ 140737488355328) (h : (rootO v0 leaf i n proof).2 = 0) (h2 : (rootO v0 lef2 i n qs).2 = 0) (h3 : (rootO v0 leaf i n proof).1 ≠ (rootO v0 lef2 i n qs).1) : Calls Tryd.prog 7 #[.agg (askC v0 leaf i n (.slice a proof.length c) root).toArray, .agg ((lef2).map vU8).toArray, .slice a2 qs.length c2] w fun e w' => ∃ v, e = .returned v ∧ v = .bool true ∧ Mem w [] [] w' := by
  refine calls_of_sw (vs := [.agg (askC v0 leaf i n (.slice a proof.length c) root).toArray, .agg ((lef2).map vU8).toArray, .slice a2 qs.length c2]) Tryd.func7 rfl Tryd.ntmps7 rfl (SW.begin ?_)
  refine sw_seq ?_
  refine sw_region ?_
  refine ow_new (acts_box rfl) rfl (fun b3 hb3 => ?_)   -- 3
  refine ow_new (acts_box rfl) rfl (fun b4 hb4 => ?_)   -- 4
  refine ow_val (val_assign rfl) rfl ?_   -- 6
  refine ow_nil (into ?_)
  refine sw_seq ?_
  refine sw_seq ?_
  refine sw_region ?_
  refine ow_call_pure (v := .bool true) (callsTo Tryd.func15 rfl (by kernel_rfl) rfl) rfl (fun w hm => awake_any w (hK.mem0 hm)) ?_   -- 23
  refine ow_val (val_not rfl) rfl ?_   -- 24
  refine ow_nil (into ?_)
  refine sw_false rfl rfl ?_
  refine sw_skip (into ?_)
  refine sw_seq ?_
  refine sw_region ?_
  refine ow_val (val_fieldAddr (m := 0) (e := 0) rfl Tryd.underlying27 rfl rfl Tryd.sizeOf3 rfl) rfl ?_   -- 26
  refine ow_val (val_load_at 1 rfl rfl Tryd.isAgg3 rfl) rfl ?_   -- 27
  refine ow_val (val_fieldAddr (m := 31) (e := 1) rfl Tryd.underlying27 rfl rfl Tryd.sizeOf23 rfl) rfl ?_   -- 28
  refine ow_val (val_load_part 1 rfl rfl Tryd.isAgg23 Tryd.sizeOf23 (by show (List.map vU8 leaf).length = _; rw [List.length_map]; exact hll) (ask_leaf hll)) rfl ?_   -- 29
  refine ow_val (val_fieldAddr (m := 0) (e := 33) rfl Tryd.underlying27 rfl rfl Tryd.sizeOf24 rfl) rfl ?_   -- 30
  refine ow_val (val_load_at 1 rfl rfl Tryd.isAgg24 (ask_33 hll)) rfl ?_   -- 31
  refine ow_val (val_fieldAddr (m := 0) (e := 34) rfl Tryd.underlying27 rfl rfl Tryd.sizeOf24 rfl) rfl ?_   -- 32
  refine ow_val (val_load_at 1 rfl rfl Tryd.isAgg24 (ask_34 hll)) rfl ?_   -- 33
  refine ow_val (val_fieldAddr (m := 0) (e := 35) rfl Tryd.underlying27 rfl rfl Tryd.sizeOf25 rfl) rfl ?_   -- 34
  refine ow_val (val_load_at 1 rfl rfl Tryd.isAgg25 (ask_35 hll)) rfl ?_   -- 35
  refine ow_call_pure (callsTo Tryd.func12 rfl (by kernel_rfl) rfl) rfl (fun w hm => mroot_any v0 leaf hll i n w (hK.mem0 hm) a proof.length c proof rfl hpl (hr.mem hm) (by omega) (by omega) hb) ?_   -- 36
  refine ow_val (val_move rfl) rfl ?_   -- 25
  refine ow_val (val_extract rfl rfl) rfl ?_   -- 37
  refine ow_val (val_extract rfl rfl) rfl ?_   -- 38
  refine ow_new (acts_alloc zD) rfl (fun b7 hb7 => ?_)   -- 7
  refine ow_do_eq (does_store_all 0 rfl rfl rfl (one_u8s _) Tryd.sizeOf23 (by show (List.map vU8 ((rootO v0 leaf i n proof).1)).length = _; rw [List.length_map]; exact (rootO_len hll)) (by show (List.map vU8 zeros32).length = _; rw [List.length_map]; exact zeros32_len)) ?_
  refine ow_val (val_assign rfl) rfl ?_   -- 8
  refine ow_nil (into ?_)
  refine sw_seq ?_
  refine sw_region ?_
  refine ow_val (val_fieldAddr (m := 0) (e := 0) rfl Tryd.underlying27 rfl rfl Tryd.sizeOf3 rfl) rfl ?_   -- 40
  refine ow_val (val_load_at 2 rfl rfl Tryd.isAgg3 rfl) rfl ?_   -- 41
  refine ow_val (val_load_all 1 rfl rfl Tryd.isAgg23 Tryd.sizeOf23 (by show (List.map vU8 lef2).length = _; rw [List.length_map]; exact hl2l)) rfl ?_   -- 42
  refine ow_val (val_fieldAddr (m := 0) (e := 33) rfl Tryd.underlying27 rfl rfl Tryd.sizeOf24 rfl) rfl ?_   -- 43
  refine ow_val (val_load_at 2 rfl rfl Tryd.isAgg24 (ask_33 hll)) rfl ?_   -- 44
  refine ow_val (val_fieldAddr (m := 0) (e := 34) rfl Tryd.underlying27 rfl rfl Tryd.sizeOf24 rfl) rfl ?_   -- 45
  refine ow_val (val_load_at 2 rfl rfl Tryd.isAgg24 (ask_34 hll)) rfl ?_   -- 46
  refine ow_val (val_move rfl) rfl ?_   -- 47
  refine ow_call_pure (callsTo Tryd.func12 rfl (by kernel_rfl) rfl) rfl (fun w hm => mroot_any v0 lef2 hl2l i n w (hK.mem0 hm) a2 qs.length c2 qs rfl hql (hq.mem hm) (by omega) (by omega) hb2) ?_   -- 48
  refine ow_val (val_move rfl) rfl ?_   -- 39
  refine ow_val (val_extract rfl rfl) rfl ?_   -- 49
  refine ow_val (val_extract rfl rfl) rfl ?_   -- 50
  refine ow_new (acts_alloc zD) rfl (fun b9 hb9 => ?_)   -- 9
  refine ow_do_eq (does_store_all 0 rfl rfl rfl (one_u8s _) Tryd.sizeOf23 (by show (List.map vU8 ((rootO v0 lef2 i n qs).1)).length = _; rw [List.length_map]; exact (rootO_len hl2l)) (by show (List.map vU8 zeros32).length = _; rw [List.length_map]; exact zeros32_len)) ?_
  refine ow_val (val_assign rfl) rfl ?_   -- 10
  refine ow_nil (into ?_)
  refine sw_seq ?_
  refine sw_seq ?_
  refine sw_region ?_
  refine ow_val (val_move rfl) rfl ?_   -- 51
  refine ow_val ((val_neq_int rfl rfl).to (v' := .bool false) (congrArg Value.bool (decide_eq_false (fun h => h (by omega))))) rfl ?_   -- 52
  refine ow_val (val_move rfl) rfl ?_   -- 53
  refine ow_guard_yes rfl rfl rfl ?_
  refine ow_val (val_move rfl) rfl ?_   -- 54
  refine ow_guard_yes rfl rfl rfl ?_
  refine ow_val ((val_neq_int rfl rfl).to (v' := .bool false) (congrArg Value.bool (decide_eq_false (fun h => h (by omega))))) rfl ?_   -- 55
  refine ow_val (val_pick_false rfl rfl) rfl ?_   -- 56
  refine ow_val (val_move rfl) rfl ?_   -- 57
  refine ow_guard_yes rfl rfl rfl ?_
  refine ow_val (val_load_all 1 rfl rfl Tryd.isAgg23 Tryd.sizeOf23 (by show (List.map vU8 ((rootO v0 leaf i n proof).1)).length = _; rw [List.length_map]; exact (rootO_len hll))) rfl ?_   -- 58
  refine ow_guard_yes rfl rfl rfl ?_
  refine ow_val (val_load_all 0 rfl rfl Tryd.isAgg23 Tryd.sizeOf23 (by show (List.map vU8 ((rootO v0 lef2 i n qs).1)).length = _; rw [List.length_map]; exact (rootO_len hl2l))) rfl ?_   -- 59
  refine ow_guard_yes rfl rfl rfl ?_
  refine ow_val ((val_neq_u8s rfl rfl Tryd.eqGuardType23 Tryd.underlying23 Tryd.underlying5 Tryd.sizeOf5 Tryd.isAgg5 (rootO_len hll) (rootO_len hl2l)).to (congrArg Value.bool (show (!decide _) = true by rw [decide_eq_false h3]; rfl))) rfl ?_   -- 60
  refine ow_val (val_pick_false rfl rfl) rfl ?_   -- 61
  refine ow_val (val_move rfl) rfl ?_   -- 62
  first | refine ow_guard_no rfl rfl rfl rfl rfl ?_ | refine ow_guard_none rfl rfl rfl rfl rfl ?_
  first | refine ow_guard_no rfl rfl rfl rfl rfl ?_ | refine ow_guard_none rfl rfl rfl rfl rfl ?_
  first | refine ow_guard_no rfl rfl rfl rfl rfl ?_ | refine ow_guard_none rfl rfl rfl rfl rfl ?_
  first | refine ow_guard_no rfl rfl rfl rfl rfl ?_ | refine ow_guard_none rfl rfl rfl rfl rfl ?_
  refine ow_val (val_pick_true rfl rfl) rfl ?_   -- 67
  refine ow_nil (into ?_)
  refine sw_true rfl rfl ?_
  refine sw_seq ?_
  refine sw_region ?_
  refine ow_val (val_assign rfl) rfl ?_   -- 6
  refine ow_nil (into ?_)
  refine sw_ret (fun w hm => ?_)
  try dsimp only [thenP, blockP, Nat.beq, cond]
  exact ret_one _ rfl rfl ⟨rfl, hm.forgetAll⟩

theorem shows_4 (v0 : Int) (leaf : List UInt8) (hll : leaf.length = 32) (i n : UInt64) (root : List UInt8) (hrl : root.length = 32) (w : World) (hK : KW w) (a : Option Addr) (c : Nat) (proof : List (List UInt8)) (hpl : ∀ d ∈ proof, d.length = 32) (hr : Rd w a (proof.flatMap fun d => d.map vU8)) (hc : proof.length ≤ c) (hl : proof.length < 9223372036854775808) (hb : (proof.length + 2) * 32 ≤ 140737488355328) (lef2 : List UInt8) (hl2l : lef2.length = 32) (a2 : Option Addr) (c2 : Nat) (qs : List (List UInt8)) (hql : ∀ d ∈ qs, d.length = 32) (hq : Rd w a2 (qs.flatMap fun d => d.map vU8)) (hc2 : qs.length ≤ c2) (hl2 : qs.length < 9223372036854775808) (hb2 : (qs.length + 2) * 32 ≤ 140737488355328) (h : (rootO v0 leaf i n proof).2 = 0) (h2 : (rootO v0 lef2 i n qs).2 = 0) (h3 : (rootO v0 leaf i n proof).1 = (rootO v0 lef2 i n qs).1) (h4 : lef2 = leaf) : Calls Tryd.prog 7 #[.agg (askC v0 leaf i n (.slice a proof.length c) root).toArray, .agg ((lef2).map vU8).toArray, .slice a2 qs.length c2] w fun e w' => ∃ v, e = .returned v ∧ v = .bool true ∧ Mem w [] [] w' := by
  refine calls_of_sw (vs := [.agg (askC v0 leaf i n (.slice a proof.length c) root).toArray, .agg ((lef2).map vU8).toArray, .slice a2 qs.length c2]) Tryd.func7 rfl Tryd.ntmps7 rfl (SW.begin ?_)
  refine sw_seq ?_
  refine sw_region ?_
  refine ow_new (acts_box rfl) rfl (fun b3 hb3 => ?_)   -- 3
  refine ow_new (acts_box rfl) rfl (fun b4 hb4 => ?_)   -- 4
  refine ow_val (val_assign rfl) rfl ?_   -- 6
  refine ow_nil (into ?_)
  refine sw_seq ?_
  refine sw_seq ?_
  refine sw_region ?_
  refine ow_call_pure (v := .bool true) (callsTo Tryd.func15 rfl (by kernel_rfl) rfl) rfl (fun w hm => awake_any w (hK.mem0 hm)) ?_   -- 23
  refine ow_val (val_not rfl) rfl ?_   -- 24
  refine ow_nil (into ?_)
  refine sw_false rfl rfl ?_
  refine sw_skip (into ?_)
  refine sw_seq ?_
  refine sw_region ?_
  refine ow_val (val_fieldAddr (m := 0) (e := 0) rfl Tryd.underlying27 rfl rfl Tryd.sizeOf3 rfl) rfl ?_   -- 26
  refine ow_val (val_load_at 1 rfl rfl Tryd.isAgg3 rfl) rfl ?_   -- 27
  refine ow_val (val_fieldAddr (m := 31) (e := 1) rfl Tryd.underlying27 rfl rfl Tryd.sizeOf23 rfl) rfl ?_   -- 28
  refine ow_val (val_load_part 1 rfl rfl Tryd.isAgg23 Tryd.sizeOf23 (by show (List.map vU8 leaf).length = _; rw [List.length_map]; exact hll) (ask_leaf hll)) rfl ?_   -- 29
  refine ow_val (val_fieldAddr (m := 0) (e := 33) rfl Tryd.underlying27 rfl rfl Tryd.sizeOf24 rfl) rfl ?_   -- 30
  refine ow_val (val_load_at 1 rfl rfl Tryd.isAgg24 (ask_33 hll)) rfl ?_   -- 31
  refine ow_val (val_fieldAddr (m := 0) (e := 34) rfl Tryd.underlying27 rfl rfl Tryd.sizeOf24 rfl) rfl ?_   -- 32
  refine ow_val (val_load_at 1 rfl rfl Tryd.isAgg24 (ask_34 hll)) rfl ?_   -- 33
  refine ow_val (val_fieldAddr (m := 0) (e := 35) rfl Tryd.underlying27 rfl rfl Tryd.sizeOf25 rfl) rfl ?_   -- 34
  refine ow_val (val_load_at 1 rfl rfl Tryd.isAgg25 (ask_35 hll)) rfl ?_   -- 35
  refine ow_call_pure (callsTo Tryd.func12 rfl (by kernel_rfl) rfl) rfl (fun w hm => mroot_any v0 leaf hll i n w (hK.mem0 hm) a proof.length c proof rfl hpl (hr.mem hm) (by omega) (by omega) hb) ?_   -- 36
  refine ow_val (val_move rfl) rfl ?_   -- 25
  refine ow_val (val_extract rfl rfl) rfl ?_   -- 37
  refine ow_val (val_extract rfl rfl) rfl ?_   -- 38
  refine ow_new (acts_alloc zD) rfl (fun b7 hb7 => ?_)   -- 7
  refine ow_do_eq (does_store_all 0 rfl rfl rfl (one_u8s _) Tryd.sizeOf23 (by show (List.map vU8 ((rootO v0 leaf i n proof).1)).length = _; rw [List.length_map]; exact (rootO_len hll)) (by show (List.map vU8 zeros32).length = _; rw [List.length_map]; exact zeros32_len)) ?_
  refine ow_val (val_assign rfl) rfl ?_   -- 8
  refine ow_nil (into ?_)
  refine sw_seq ?_
  refine sw_region ?_
  refine ow_val (val_fieldAddr (m := 0) (e := 0) rfl Tryd.underlying27 rfl rfl Tryd.sizeOf3 rfl) rfl ?_   -- 40
  refine ow_val (val_load_at 2 rfl rfl Tryd.isAgg3 rfl) rfl ?_   -- 41
  refine ow_val (val_load_all 1 rfl rfl Tryd.isAgg23 Tryd.sizeOf23 (by show (List.map vU8 lef2).length = _; rw [List.length_map]; exact hl2l)) rfl ?_   -- 42
  refine ow_val (val_fieldAddr (m := 0) (e := 33) rfl Tryd.underlying27 rfl rfl Tryd.sizeOf24 rfl) rfl ?_   -- 43
  refine ow_val (val_load_at 2 rfl rfl Tryd.isAgg24 (ask_33 hll)) rfl ?_   -- 44
  refine ow_val (val_fieldAddr (m := 0) (e := 34) rfl Tryd.underlying27 rfl rfl Tryd.sizeOf24 rfl) rfl ?_   -- 45
  refine ow_val (val_load_at 2 rfl rfl Tryd.isAgg24 (ask_34 hll)) rfl ?_   -- 46
  refine ow_val (val_move rfl) rfl ?_   -- 47
  refine ow_call_pure (callsTo Tryd.func12 rfl (by kernel_rfl) rfl) rfl (fun w hm => mroot_any v0 lef2 hl2l i n w (hK.mem0 hm) a2 qs.length c2 qs rfl hql (hq.mem hm) (by omega) (by omega) hb2) ?_   -- 48
  refine ow_val (val_move rfl) rfl ?_   -- 39
  refine ow_val (val_extract rfl rfl) rfl ?_   -- 49
  refine ow_val (val_extract rfl rfl) rfl ?_   -- 50
  refine ow_new (acts_alloc zD) rfl (fun b9 hb9 => ?_)   -- 9
  refine ow_do_eq (does_store_all 0 rfl rfl rfl (one_u8s _) Tryd.sizeOf23 (by show (List.map vU8 ((rootO v0 lef2 i n qs).1)).length = _; rw [List.length_map]; exact (rootO_len hl2l)) (by show (List.map vU8 zeros32).length = _; rw [List.length_map]; exact zeros32_len)) ?_
  refine ow_val (val_assign rfl) rfl ?_   -- 10
  refine ow_nil (into ?_)
  refine sw_seq ?_
  refine sw_seq ?_
  refine sw_region ?_
  refine ow_val (val_move rfl) rfl ?_   -- 51
  refine ow_val ((val_neq_int rfl rfl).to (v' := .bool false) (congrArg Value.bool (decide_eq_false (fun h => h (by omega))))) rfl ?_   -- 52
  refine ow_val (val_move rfl) rfl ?_   -- 53
  refine ow_guard_yes rfl rfl rfl ?_
  refine ow_val (val_move rfl) rfl ?_   -- 54
  refine ow_guard_yes rfl rfl rfl ?_
  refine ow_val ((val_neq_int rfl rfl).to (v' := .bool false) (congrArg Value.bool (decide_eq_false (fun h => h (by omega))))) rfl ?_   -- 55
  refine ow_val (val_pick_false rfl rfl) rfl ?_   -- 56
  refine ow_val (val_move rfl) rfl ?_   -- 57
  refine ow_guard_yes rfl rfl rfl ?_
  refine ow_val (val_load_all 1 rfl rfl Tryd.isAgg23 Tryd.sizeOf23 (by show (List.map vU8 ((rootO v0 leaf i n proof).1)).length = _; rw [List.length_map]; exact (rootO_len hll))) rfl ?_   -- 58
  refine ow_guard_yes rfl rfl rfl ?_
  refine ow_val (val_load_all 0 rfl rfl Tryd.isAgg23 Tryd.sizeOf23 (by show (List.map vU8 ((rootO v0 lef2 i n qs).1)).length = _; rw [List.length_map]; exact (rootO_len hl2l))) rfl ?_   -- 59
  refine ow_guard_yes rfl rfl rfl ?_
  refine ow_val ((val_neq_u8s rfl rfl Tryd.eqGuardType23 Tryd.underlying23 Tryd.underlying5 Tryd.sizeOf5 Tryd.isAgg5 (rootO_len hll) (rootO_len hl2l)).to (congrArg Value.bool (show (!decide _) = false by rw [decide_eq_true h3]; rfl))) rfl ?_   -- 60
  refine ow_val (val_pick_false rfl rfl) rfl ?_   -- 61
  refine ow_val (val_move rfl) rfl ?_   -- 62
  refine ow_guard_yes rfl rfl rfl ?_
  refine ow_val (val_load_all 2 rfl rfl Tryd.isAgg23 Tryd.sizeOf23 (by show (List.map vU8 lef2).length = _; rw [List.length_map]; exact hl2l)) rfl ?_   -- 63
  refine ow_guard_yes rfl rfl rfl ?_
  refine ow_val (val_fieldAddr (m := 31) (e := 1) rfl Tryd.underlying27 rfl rfl Tryd.sizeOf23 rfl) rfl ?_   -- 64
  refine ow_guard_yes rfl rfl rfl ?_
  refine ow_val (val_load_part 3 rfl rfl Tryd.isAgg23 Tryd.sizeOf23 (by show (List.map vU8 leaf).length = _; rw [List.length_map]; exact hll) (ask_leaf hll)) rfl ?_   -- 65
  refine ow_guard_yes rfl rfl rfl ?_
  refine ow_val ((val_eql_u8s rfl rfl Tryd.eqGuardType23 Tryd.underlying23 Tryd.underlying5 Tryd.sizeOf5 Tryd.isAgg5 hl2l hll).to (congrArg Value.bool (decide_eq_true (h4)))) rfl ?_   -- 66
  refine ow_val (val_pick_false rfl rfl) rfl ?_   -- 67
  refine ow_nil (into ?_)
  refine sw_true rfl rfl ?_
  refine sw_seq ?_
  refine sw_region ?_
  refine ow_val (val_assign rfl) rfl ?_   -- 6
  refine ow_nil (into ?_)
  refine sw_ret (fun w hm => ?_)
  try dsimp only [thenP, blockP, Nat.beq, cond]
  exact ret_one _ rfl rfl ⟨rfl, hm.forgetAll⟩

theorem shows_way (k : Nat) (leaf : List UInt8) (hll : leaf.length = 32) (i n : UInt64) (root : List UInt8) (hrl : root.length = 32) (w : World) (hK : KW w) (a : Option Addr) (c : Nat) (proof : List (List UInt8)) (hpl : ∀ d ∈ proof, d.length = 32) (hr : Rd w a (proof.flatMap fun d => d.map vU8)) (hc : proof.length ≤ c) (hl : proof.length < 9223372036854775808) (hb : (proof.length + 2) * 32 ≤ 140737488355328) (lef2 : List UInt8) (hl2l : lef2.length = 32) (a2 : Option Addr) (c2 : Nat) (qs : List (List UInt8)) (hql : ∀ d ∈ qs, d.length = 32) (hq : Rd w a2 (qs.flatMap fun d => d.map vU8)) (hc2 : qs.length ≤ c2) (hl2 : qs.length < 9223372036854775808) (hb2 : (qs.length + 2) * 32 ≤ 140737488355328) (h1 : 1 ≤ k) (h2 : k ≤ 32) (ws : List Bool) (hws : splitsL i n = ws) (hwl : ws.length = proof.length) (hwq : ws.length = qs.length) (hqp : qs.length = proof.length) (hlf : fm (k : Int) leaf = true) (hl2f : fm (k : Int) lef2 = true) (hpf : ∀ d ∈ proof, fm (k : Int) d = true) (hqf : ∀ d ∈ qs, fm (k : Int) d = true) (hne : leaf ≠ lef2) (hA : (rootO (k : Int) leaf i n proof).1 = upJ k leaf ws proof proof.length) (hB : (rootO (k : Int) lef2 i n qs).1 = upJ k lef2 ws qs qs.length) (he : (rootO (k : Int) leaf i n proof).2 = 0) (hf : (rootO (k : Int) lef2 i n qs).2 = 0) (h3 : (rootO (k : Int) leaf i n proof).1 = (rootO (k : Int) lef2 i n qs).1) : Calls Tryd.prog 7 #[.agg (askC (k : Int) leaf i n (.slice a proof.length c) root).toArray, .agg ((lef2).map vU8).toArray, .slice a2 qs.length c2] w fun e w' => ∃ v, e = .returned v ∧ v = .bool true ∧ Mem w [] [] w' := by
  refine calls_of_sw (vs := [.agg (askC (k : Int) leaf i n (.slice a proof.length c) root).toArray, .agg ((lef2).map vU8).toArray, .slice a2 qs.length c2]) Tryd.func7 rfl Tryd.ntmps7 rfl (SW.begin ?_)
  refine sw_seq ?_
  refine sw_region ?_
  refine ow_new (acts_box rfl) rfl (fun b3 hb3 => ?_)   -- 3
  refine ow_new (acts_box rfl) rfl (fun b4 hb4 => ?_)   -- 4
  refine ow_val (val_assign rfl) rfl ?_   -- 6
  refine ow_nil (into ?_)
  refine sw_seq ?_
  refine sw_seq ?_
  refine sw_region ?_
  refine ow_call_pure (v := .bool true) (callsTo Tryd.func15 rfl (by kernel_rfl) rfl) rfl (fun w hm => awake_any w (hK.mem0 hm)) ?_   -- 23
  refine ow_val (val_not rfl) rfl ?_   -- 24
  refine ow_nil (into ?_)
  refine sw_false rfl rfl ?_
  refine sw_skip (into ?_)
  refine sw_seq ?_
  refine sw_region ?_
  refine ow_val (val_fieldAddr (m := 0) (e := 0) rfl Tryd.underlying27 rfl rfl Tryd.sizeOf3 rfl) rfl ?_   -- 26
  refine ow_val (val_load_at 1 rfl rfl Tryd.isAgg3 rfl) rfl ?_   -- 27
  refine ow_val (val_fieldAddr (m := 31) (e := 1) rfl Tryd.underlying27 rfl rfl Tryd.sizeOf23 rfl) rfl ?_   -- 28
  refine ow_val (val_load_part 1 rfl rfl Tryd.isAgg23 Tryd.sizeOf23 (by show (List.map vU8 leaf).length = _; rw [List.length_map]; exact hll) (ask_leaf hll)) rfl ?_   -- 29
  refine ow_val (val_fieldAddr (m := 0) (e := 33) rfl Tryd.underlying27 rfl rfl Tryd.sizeOf24 rfl) rfl ?_   -- 30
  refine ow_val (val_load_at 1 rfl rfl Tryd.isAgg24 (ask_33 hll)) rfl ?_   -- 31
  refine ow_val (val_fieldAddr (m := 0) (e := 34) rfl Tryd.underlying27 rfl rfl Tryd.sizeOf24 rfl) rfl ?_   -- 32
  refine ow_val (val_load_at 1 rfl rfl Tryd.isAgg24 (ask_34 hll)) rfl ?_   -- 33
  refine ow_val (val_fieldAddr (m := 0) (e := 35) rfl Tryd.underlying27 rfl rfl Tryd.sizeOf25 rfl) rfl ?_   -- 34
  refine ow_val (val_load_at 1 rfl rfl Tryd.isAgg25 (ask_35 hll)) rfl ?_   -- 35
  refine ow_call_pure (callsTo Tryd.func12 rfl (by kernel_rfl) rfl) rfl (fun w hm => mroot_any (k : Int) leaf hll i n w (hK.mem0 hm) a proof.length c proof rfl hpl (hr.mem hm) (by omega) (by omega) hb) ?_   -- 36
  refine ow_val (val_move rfl) rfl ?_   -- 25
  refine ow_val (val_extract rfl rfl) rfl ?_   -- 37
  refine ow_val (val_extract rfl rfl) rfl ?_   -- 38
  refine ow_new (acts_alloc zD) rfl (fun b7 hb7 => ?_)   -- 7
  refine ow_do_eq (does_store_all 0 rfl rfl rfl (one_u8s _) Tryd.sizeOf23 (by show (List.map vU8 ((rootO (k : Int) leaf i n proof).1)).length = _; rw [List.length_map]; exact (rootO_len hll)) (by show (List.map vU8 zeros32).length = _; rw [List.length_map]; exact zeros32_len)) ?_
  refine ow_val (val_assign rfl) rfl ?_   -- 8
  refine ow_nil (into ?_)
  refine sw_seq ?_
  refine sw_region ?_
  refine ow_val (val_fieldAddr (m := 0) (e := 0) rfl Tryd.underlying27 rfl rfl Tryd.sizeOf3 rfl) rfl ?_   -- 40
  refine ow_val (val_load_at 2 rfl rfl Tryd.isAgg3 rfl) rfl ?_   -- 41
  refine ow_val (val_load_all 1 rfl rfl Tryd.isAgg23 Tryd.sizeOf23 (by show (List.map vU8 lef2).length = _; rw [List.length_map]; exact hl2l)) rfl ?_   -- 42
  refine ow_val (val_fieldAddr (m := 0) (e := 33) rfl Tryd.underlying27 rfl rfl Tryd.sizeOf24 rfl) rfl ?_   -- 43
  refine ow_val (val_load_at 2 rfl rfl Tryd.isAgg24 (ask_33 hll)) rfl ?_   -- 44
  refine ow_val (val_fieldAddr (m := 0) (e := 34) rfl Tryd.underlying27 rfl rfl Tryd.sizeOf24 rfl) rfl ?_   -- 45
  refine ow_val (val_load_at 2 rfl rfl Tryd.isAgg24 (ask_34 hll)) rfl ?_   -- 46
  refine ow_val (val_move rfl) rfl ?_   -- 47
  refine ow_call_pure (callsTo Tryd.func12 rfl (by kernel_rfl) rfl) rfl (fun w hm => mroot_any (k : Int) lef2 hl2l i n w (hK.mem0 hm) a2 qs.length c2 qs rfl hql (hq.mem hm) (by omega) (by omega) hb2) ?_   -- 48
  refine ow_val (val_move rfl) rfl ?_   -- 39
  refine ow_val (val_extract rfl rfl) rfl ?_   -- 49
  refine ow_val (val_extract rfl rfl) rfl ?_   -- 50
  refine ow_new (acts_alloc zD) rfl (fun b9 hb9 => ?_)   -- 9
  refine ow_do_eq (does_store_all 0 rfl rfl rfl (one_u8s _) Tryd.sizeOf23 (by show (List.map vU8 ((rootO (k : Int) lef2 i n qs).1)).length = _; rw [List.length_map]; exact (rootO_len hl2l)) (by show (List.map vU8 zeros32).length = _; rw [List.length_map]; exact zeros32_len)) ?_
  refine ow_val (val_assign rfl) rfl ?_   -- 10
  refine ow_nil (into ?_)
  refine sw_seq ?_
  refine sw_seq ?_
  refine sw_region ?_
  refine ow_val (val_move rfl) rfl ?_   -- 51
  refine ow_val ((val_neq_int rfl rfl).to (v' := .bool false) (congrArg Value.bool (decide_eq_false (fun h => h (by omega))))) rfl ?_   -- 52
  refine ow_val (val_move rfl) rfl ?_   -- 53
  refine ow_guard_yes rfl rfl rfl ?_
  refine ow_val (val_move rfl) rfl ?_   -- 54
  refine ow_guard_yes rfl rfl rfl ?_
  refine ow_val ((val_neq_int rfl rfl).to (v' := .bool false) (congrArg Value.bool (decide_eq_false (fun h => h (by omega))))) rfl ?_   -- 55
  refine ow_val (val_pick_false rfl rfl) rfl ?_   -- 56
  refine ow_val (val_move rfl) rfl ?_   -- 57
  refine ow_guard_yes rfl rfl rfl ?_
  refine ow_val (val_load_all 1 rfl rfl Tryd.isAgg23 Tryd.sizeOf23 (by show (List.map vU8 ((rootO (k : Int) leaf i n proof).1)).length = _; rw [List.length_map]; exact (rootO_len hll))) rfl ?_   -- 58
  refine ow_guard_yes rfl rfl rfl ?_
  refine ow_val (val_load_all 0 rfl rfl Tryd.isAgg23 Tryd.sizeOf23 (by show (List.map vU8 ((rootO (k : Int) lef2 i n qs).1)).length = _; rw [List.length_map]; exact (rootO_len hl2l))) rfl ?_   -- 59
  refine ow_guard_yes rfl rfl rfl ?_
  refine ow_val ((val_neq_u8s rfl rfl Tryd.eqGuardType23 Tryd.underlying23 Tryd.underlying5 Tryd.sizeOf5 Tryd.isAgg5 (rootO_len hll) (rootO_len hl2l)).to (congrArg Value.bool (show (!decide _) = false by rw [decide_eq_true h3]; rfl))) rfl ?_   -- 60
  refine ow_val (val_pick_false rfl rfl) rfl ?_   -- 61
  refine ow_val (val_move rfl) rfl ?_   -- 62
  refine ow_guard_yes rfl rfl rfl ?_
  refine ow_val (val_load_all 2 rfl rfl Tryd.isAgg23 Tryd.sizeOf23 (by show (List.map vU8 lef2).length = _; rw [List.length_map]; exact hl2l)) rfl ?_   -- 63
  refine ow_guard_yes rfl rfl rfl ?_
  refine ow_val (val_fieldAddr (m := 31) (e := 1) rfl Tryd.underlying27 rfl rfl Tryd.sizeOf23 rfl) rfl ?_   -- 64
  refine ow_guard_yes rfl rfl rfl ?_
  refine ow_val (val_load_part 3 rfl rfl Tryd.isAgg23 Tryd.sizeOf23 (by show (List.map vU8 leaf).length = _; rw [List.length_map]; exact hll) (ask_leaf hll)) rfl ?_   -- 65
  refine ow_guard_yes rfl rfl rfl ?_
  refine ow_val ((val_eql_u8s rfl rfl Tryd.eqGuardType23 Tryd.underlying23 Tryd.underlying5 Tryd.sizeOf5 Tryd.isAgg5 hl2l hll).to (congrArg Value.bool (decide_eq_false ((fun h => hne h.symm))))) rfl ?_   -- 66
  refine ow_val (val_pick_false rfl rfl) rfl ?_   -- 67
  refine ow_nil (into ?_)
  refine sw_false rfl rfl ?_
  refine sw_skip (into ?_)
  refine sw_seq ?_
  refine sw_region ?_
  refine ow_val (val_fieldAddr (m := 0) (e := 33) rfl Tryd.underlying27 rfl rfl Tryd.sizeOf24 rfl) rfl ?_   -- 68
  refine ow_val (val_load_at 3 rfl rfl Tryd.isAgg24 (ask_33 hll)) rfl ?_   -- 69
  refine ow_val (val_fieldAddr (m := 0) (e := 34) rfl Tryd.underlying27 rfl rfl Tryd.sizeOf24 rfl) rfl ?_   -- 70
  refine ow_val (val_load_at 3 rfl rfl Tryd.isAgg24 (ask_34 hll)) rfl ?_   -- 71
  refine ow_call_row (E := 4) (size := 1) (k := proof.length) (xs := ws.map Value.bool) (callsTo Tryd.func22 rfl (by kernel_rfl) rfl) rfl (fun w hm => (by have h := splits_any i n w; rw [hws, hwl] at h; exact h)) (fun a72 c72 e72 hrw => ?_)   -- 72
  refine ow_val (val_assign rfl) rfl ?_   -- 11
  refine ow_nil (into ?_)
  refine sw_join (σ := Nat × Nat) (fun _ => True) (fun s => [(13, .pointer (some ⟨s.2, 0, none⟩)), (12, .pointer (some ⟨s.1, 0, none⟩)), (11, .slice a72 proof.length c72), (3, .pointer (some ⟨b3, 0, none⟩)), (2, .slice a2 qs.length c2)]) (fun s => Mem w [] [some (s.2, blk (lef2.map vU8) 23), some (s.1, blk (leaf.map vU8) 23), e72, some (b3, blk (askC (k : Int) leaf i n (.slice a proof.length c) root) 27)]) ?_ ?_
  · -- part
    refine sw_region_tree (Mem w [] [some (b9, blk (((rootO (k : Int) lef2 i n qs).1).map vU8) 23), some (b7, blk (((rootO (k : Int) leaf i n proof).1).map vU8) 23), some (b4, blk (lef2.map vU8) 23), some (b3, blk (askC (k : Int) leaf i n (.slice a proof.length c) root) 27)]) [] (.one 0 0 (.one 1 1 (.one 2 1 (.alt 3 (.one 4 2 (.one 5 2 (.one 6 2 .done))) (.alt 4 (.one 3 2 (.one 5 2 (.one 6 2 .done))) .stop))))) (by kernel_rfl) (by kernel_rfl) (fun _ _ _ h => h) (fun _ h => h.only (.cons _ (.cons_cons _ (.cons_cons _ (.cons_cons _ (.cons_cons _ (List.nil_sublist _))))))) (fun _ h => h.drawn _) ?_
    refine lt_pure rfl trivial (val_fieldAddr (m := 31) (e := 1) rfl Tryd.underlying27 rfl rfl Tryd.sizeOf23 rfl) rfl ?_   -- 73
    refine lt_held rfl trivial (val_load_part 3 rfl rfl Tryd.isAgg23 Tryd.sizeOf23 (by show (List.map vU8 leaf).length = _; rw [List.length_map]; exact hll) (ask_leaf hll)) rfl ?_   -- 74
    refine lt_held rfl trivial (val_load_all 2 rfl rfl Tryd.isAgg23 Tryd.sizeOf23 (by show (List.map vU8 lef2).length = _; rw [List.length_map]; exact hl2l)) rfl ?_   -- 75
    refine lt_alt ?_ ?_
    · -- first 3
      refine lt_make (fun b => .pointer (some ⟨b, 0, none⟩)) rfl trivial (acts_alloc zD) rfl (fun _ _ _ h => h.only (.cons _ (.cons _ (.cons_cons _ (.cons_cons _ (.cons_cons _ (.cons_cons _ (List.nil_sublist _)))))))) (fun b12 hb12 => ?_)   -- 12
      refine lt_make (fun b => .pointer (some ⟨b, 0, none⟩)) rfl trivial (acts_alloc zD) rfl (fun _ _ _ h => h.only (.cons _ (.cons _ (.cons _ (.cons_cons _ (.cons_cons _ (.cons_cons _ (.cons_cons _ (List.nil_sublist _))))))))) (fun b13 hb13 => ?_)   -- 13
      refine lt_do rfl trivial (does_store_all 1 rfl rfl rfl (one_u8s _) Tryd.sizeOf23 (by show (List.map vU8 leaf).length = _; rw [List.length_map]; exact hll) (by show (List.map vU8 zeros32).length = _; rw [List.length_map]; exact zeros32_len)) (fun _ _ _ _ h => h.only (.cons _ (.cons _ (.cons _ (.cons_cons _ (.cons_cons _ (.cons_cons _ (.cons_cons _ (List.nil_sublist _))))))))) (fun _ _ => ?_)
      refine lt_do rfl trivial (does_store_all 0 rfl rfl rfl (one_u8s _) Tryd.sizeOf23 (by show (List.map vU8 lef2).length = _; rw [List.length_map]; exact hl2l) (by show (List.map vU8 zeros32).length = _; rw [List.length_map]; exact zeros32_len)) (fun _ _ _ _ h => h.only (.cons _ (.cons _ (.cons _ (.cons_cons _ (.cons_cons _ (.cons_cons _ (.cons_cons _ (List.nil_sublist _))))))))) (fun _ _ => ?_)
      exact lt_done (fun w hm => ⟨(b12, b13), trivial, ⟨rfl, rfl, rfl, rfl, rfl, trivial⟩, (hm.only (.cons_cons _ (.cons_cons _ (.cons_cons _ (.cons _ (.cons _ (.cons _ (.cons_cons _ (List.nil_sublist _)))))))))⟩)
    refine lt_alt ?_ ?_
    · -- first 4
      refine lt_make (fun b => .pointer (some ⟨b, 0, none⟩)) rfl trivial (acts_alloc zD) rfl (fun _ _ _ h => h.only (.cons _ (.cons _ (.cons_cons _ (.cons_cons _ (.cons_cons _ (.cons_cons _ (List.nil_sublist _)))))))) (fun b13 hb13 => ?_)   -- 13
      refine lt_make (fun b => .pointer (some ⟨b, 0, none⟩)) rfl trivial (acts_alloc zD) rfl (fun _ _ _ h => h.only (.cons _ (.cons _ (.cons _ (.cons_cons _ (.cons_cons _ (.cons_cons _ (.cons_cons _ (List.nil_sublist _))))))))) (fun b12 hb12 => ?_)   -- 12
      refine lt_do rfl trivial (does_store_all 0 rfl rfl rfl (one_u8s _) Tryd.sizeOf23 (by show (List.map vU8 leaf).length = _; rw [List.length_map]; exact hll) (by show (List.map vU8 zeros32).length = _; rw [List.length_map]; exact zeros32_len)) (fun _ _ _ _ h => h.only (.cons _ (.cons _ (.cons _ (.cons_cons _ (.cons_cons _ (.cons_cons _ (.cons_cons _ (List.nil_sublist _))))))))) (fun _ _ => ?_)
      refine lt_do rfl trivial (does_store_all 1 rfl rfl rfl (one_u8s _) Tryd.sizeOf23 (by show (List.map vU8 lef2).length = _; rw [List.length_map]; exact hl2l) (by show (List.map vU8 zeros32).length = _; rw [List.length_map]; exact zeros32_len)) (fun _ _ _ _ h => h.only (.cons _ (.cons _ (.cons _ (.cons_cons _ (.cons_cons _ (.cons_cons _ (.cons_cons _ (List.nil_sublist _))))))))) (fun _ _ => ?_)
      exact lt_done (fun w hm => ⟨(b12, b13), trivial, ⟨rfl, rfl, rfl, rfl, rfl, trivial⟩, ((hm.only (.cons_cons _ (.cons_cons _ (.cons_cons _ (.cons _ (.cons _ (.cons _ (.cons_cons _ (List.nil_sublist _))))))))).perm (.swap _ _ _))⟩)
    exact lt_stop
  · -- rest
    rintro ⟨b12, b13⟩ -
    refine sw_seq ?_
    refine sw_seq ?_
    refine sw_region ?_
    refine ow_val (val_fieldAddr (m := 0) (e := 35) rfl Tryd.underlying27 rfl rfl Tryd.sizeOf25 rfl) rfl ?_   -- 76
    refine ow_val (val_load_at 3 rfl rfl Tryd.isAgg25 (ask_35 hll)) rfl ?_   -- 77
    refine ow_val (val_len rfl Tryd.underlying25) rfl ?_   -- 78
    refine ow_val (val_move rfl) rfl ?_   -- 79
    refine ow_nil (into ?_)
    refine sw_block ?_
    refine sw_loop (σ := Nat) (fun j => j ≤ proof.length ∧ upJ k leaf ws proof j ≠ upJ k lef2 ws qs j) (fun j => [(79, vInt (j : Int)), (78, vInt (proof.length : Int)), (13, .pointer (some ⟨b13, 0, none⟩)), (12, .pointer (some ⟨b12, 0, none⟩)), (11, .slice a72 proof.length c72), (3, .pointer (some ⟨b3, 0, none⟩)), (2, .slice a2 qs.length c2)]) (fun j => Mem w [] [some (b13, blk ((upJ k lef2 ws qs j).map vU8) 23), some (b12, blk ((upJ k leaf ws proof j).map vU8) 23), e72, some (b3, blk (askC (k : Int) leaf i n (.slice a proof.length c) root) 27)]) (fun j => proof.length - j) 0 ⟨Nat.zero_le _, by rw [upJ_zero, upJ_zero]; exact hne⟩ ⟨rfl, rfl, rfl, rfl, rfl, rfl, rfl, trivial⟩ (fun w hm => by rw [upJ_zero, upJ_zero]; exact hm.only (.cons_cons _ (.cons_cons _ (.cons_cons _ (.cons_cons _ (List.nil_sublist _)))))) ?_
    rintro j ⟨hj, hxy⟩
    obtain ⟨xx, hxx⟩ : ∃ z, upJ k leaf ws proof j = z := ⟨_, rfl⟩
    obtain ⟨yy, hyy⟩ : ∃ z, upJ k lef2 ws qs j = z := ⟨_, rfl⟩
    have hxxl : xx.length = 32 := by rw [← hxx]; exact upJ_len h2 hll hwl hj
    have hyyl : yy.length = 32 := by rw [← hyy]; exact upJ_len h2 hl2l hwq (by omega)
    have hxxf : fm (k : Int) xx = true := by rw [← hxx]; exact upJ_fm h1 h2 hlf hwl hj
    have hyyf : fm (k : Int) yy = true := by rw [← hyy]; exact upJ_fm h1 h2 hl2f hwq (by omega)
    rw [hxx, hyy] at hxy ⊢
    refine sw_seq ?_
    refine sw_region ?_
    refine ow_val (val_lss_int rfl rfl) rfl ?_   -- 80
    refine ow_nil (into ?_)
    refine sw_seq ?_
    refine sw_if rfl (fun h0 => ?_) (fun h0 => ?_)
    · -- then
      obtain ⟨hrl, h9 | ⟨bf, capf, restf, hvf, hcf, hcf2, hlf9, hef⟩⟩ := hrw
      · exact absurd h9.2.1 (by omega)
      simp only [Value.slice.injEq, true_and] at hvf
      obtain ⟨rfl, rfl⟩ := hvf
      subst hef
      have hjq : j < qs.length := by omega
      obtain ⟨ba, oa, rfl⟩ := hr.addr (by rw [flatMap_size proof (fun x hx => by rw [List.length_map]; exact hpl x hx)]; omega)
      obtain ⟨bq, oq, rfl⟩ := hq.addr (by rw [flatMap_size qs (fun x hx => by rw [List.length_map]; exact hql x hx)]; omega)
      obtain ⟨P, hP⟩ : ∃ z, proof.getD j default = z := ⟨_, rfl⟩
      obtain ⟨Q, hQ⟩ : ∃ z, qs.getD j default = z := ⟨_, rfl⟩
      have hPl : P.length = 32 := by rw [← hP]; exact hpl _ (getD_mem (by omega))
      have hQl : Q.length = 32 := by rw [← hQ]; exact hql _ (getD_mem hjq)
      have hPf : fm (k : Int) P = true := by rw [← hP]; exact hpf _ (getD_mem (by omega))
      have hQf : fm (k : Int) Q = true := by rw [← hQ]; exact hqf _ (getD_mem hjq)
      have hxs := upJ_succ (k := k) (leaf := leaf) hwl (j := j) (by omega)
      have hys := upJ_succ (k := k) (leaf := lef2) hwq hjq
      rw [hqp] at hys
      rw [hP, hxx] at hxs
      rw [hQ, hyy] at hys
      refine sw_skip (into ?_)
      refine sw_seq ?_
      refine sw_block ?_
      refine sw_seq ?_
      refine sw_region ?_
      refine ow_val (val_move rfl) rfl ?_   -- 81
      refine ow_val (val_assign rfl) rfl ?_   -- 14
      refine ow_nil (into ?_)
      refine sw_join (σ := Nat × Nat × Nat × Nat) (fun _ => True) (fun s => [(18, .pointer (some ⟨s.2.2.2, 0, none⟩)), (17, .pointer (some ⟨s.2.2.1, 0, none⟩)), (16, .pointer (some ⟨s.2.1, 0, none⟩)), (15, .pointer (some ⟨s.1, 0, none⟩)), (14, vInt (j : Int)), (79, vInt (j : Int)), (78, vInt (proof.length : Int)), (13, .pointer (some ⟨b13, 0, none⟩)), (12, .pointer (some ⟨b12, 0, none⟩)), (11, .slice (some ⟨bf, 0, none⟩) proof.length c72), (3, .pointer (some ⟨b3, 0, none⟩)), (2, .slice (some ⟨bq, oq, none⟩) qs.length c2)]) (fun s => Mem w [] [some (s.2.2.2, blk (Q.map vU8) 23), some (s.2.2.1, blk (yy.map vU8) 23), some (s.2.1, blk (P.map vU8) 23), some (s.1, blk (xx.map vU8) 23), some (b13, blk (yy.map vU8) 23), some (b12, blk (xx.map vU8) 23), some (bf, blk (ws.map Value.bool ++ restf) 4), some (b3, blk (askC (k : Int) leaf i n (.slice (some ⟨ba, oa, none⟩) proof.length c) root) 27)]) ?_ ?_
      · -- part
        refine sw_region_tree (Mem w [] [some (b13, blk (yy.map vU8) 23), some (b12, blk (xx.map vU8) 23), some (b3, blk (askC (k : Int) leaf i n (.slice (some ⟨ba, oa, none⟩) proof.length c) root) 27)]) [] (.one 1 0 (.one 3 0 (.one 7 0 (.one 8 0 (.one 9 0 (.one 0 1 (.one 2 1 (.one 4 0 (.one 5 1 (.one 6 1 (.one 10 1 (.alt 11 (.alt 12 (.alt 13 (.one 14 2 (.one 15 2 (.one 16 2 (.one 17 2 (.one 18 2 .done))))) (.alt 14 (.one 13 2 (.one 15 2 (.one 16 2 (.one 17 2 (.one 18 2 .done))))) .stop)) (.alt 13 (.alt 12 (.one 14 2 (.one 15 2 (.one 16 2 (.one 17 2 (.one 18 2 .done))))) (.alt 14 (.one 12 2 (.one 15 2 (.one 16 2 (.one 17 2 (.one 18 2 .done))))) .stop)) (.alt 14 (.alt 12 (.one 13 2 (.one 15 2 (.one 16 2 (.one 17 2 (.one 18 2 .done))))) (.alt 13 (.one 12 2 (.one 15 2 (.one 16 2 (.one 17 2 (.one 18 2 .done))))) .stop)) .stop))) (.alt 12 (.alt 11 (.alt 13 (.one 14 2 (.one 15 2 (.one 16 2 (.one 17 2 (.one 18 2 .done))))) (.alt 14 (.one 13 2 (.one 15 2 (.one 16 2 (.one 17 2 (.one 18 2 .done))))) .stop)) (.alt 13 (.alt 11 (.one 14 2 (.one 15 2 (.one 16 2 (.one 17 2 (.one 18 2 .done))))) (.alt 14 (.one 11 2 (.one 15 2 (.one 16 2 (.one 17 2 (.one 18 2 .done))))) .stop)) (.alt 14 (.alt 11 (.one 13 2 (.one 15 2 (.one 16 2 (.one 17 2 (.one 18 2 .done))))) (.alt 13 (.one 11 2 (.one 15 2 (.one 16 2 (.one 17 2 (.one 18 2 .done))))) .stop)) .stop))) (.alt 13 (.alt 11 (.alt 12 (.one 14 2 (.one 15 2 (.one 16 2 (.one 17 2 (.one 18 2 .done))))) (.alt 14 (.one 12 2 (.one 15 2 (.one 16 2 (.one 17 2 (.one 18 2 .done))))) .stop)) (.alt 12 (.alt 11 (.one 14 2 (.one 15 2 (.one 16 2 (.one 17 2 (.one 18 2 .done))))) (.alt 14 (.one 11 2 (.one 15 2 (.one 16 2 (.one 17 2 (.one 18 2 .done))))) .stop)) (.alt 14 (.alt 11 (.one 12 2 (.one 15 2 (.one 16 2 (.one 17 2 (.one 18 2 .done))))) (.alt 12 (.one 11 2 (.one 15 2 (.one 16 2 (.one 17 2 (.one 18 2 .done))))) .stop)) .stop))) (.alt 14 (.alt 11 (.alt 12 (.one 13 2 (.one 15 2 (.one 16 2 (.one 17 2 (.one 18 2 .done))))) (.alt 13 (.one 12 2 (.one 15 2 (.one 16 2 (.one 17 2 (.one 18 2 .done))))) .stop)) (.alt 12 (.alt 11 (.one 13 2 (.one 15 2 (.one 16 2 (.one 17 2 (.one 18 2 .done))))) (.alt 13 (.one 11 2 (.one 15 2 (.one 16 2 (.one 17 2 (.one 18 2 .done))))) .stop)) (.alt 13 (.alt 11 (.one 12 2 (.one 15 2 (.one 16 2 (.one 17 2 (.one 18 2 .done))))) (.alt 12 (.one 11 2 (.one 15 2 (.one 16 2 (.one 17 2 (.one 18 2 .done))))) .stop)) .stop))) .stop))))))))))))))) (by kernel_rfl) (by kernel_rfl) (fun _ _ _ h => h) (fun _ h => h.only (.cons_cons _ (.cons_cons _ (.cons _ (.cons_cons _ (List.nil_sublist _)))))) (fun _ h => h.drawn _) ?_
        refine lt_pure rfl trivial (val_fieldAddr (m := 0) (e := 35) rfl Tryd.underlying27 rfl rfl Tryd.sizeOf25 rfl) rfl ?_   -- 83
        refine lt_pure rfl trivial (val_move rfl) rfl ?_   -- 85
        refine lt_pure rfl trivial (val_move rfl) rfl ?_   -- 89
        refine lt_pure rfl trivial (val_move rfl) rfl ?_   -- 90
        refine lt_pure rfl trivial (val_indexAddr_slice (j) (oq + j * 32) rfl rfl Tryd.underlying25 Tryd.sizeOf23 (by omega) (by omega) (by omega)) rfl ?_   -- 91
        refine lt_held rfl trivial (val_load_all 1 rfl rfl Tryd.isAgg23 Tryd.sizeOf23 (by show (List.map vU8 xx).length = _; rw [List.length_map]; exact hxxl)) rfl ?_   -- 82
        refine lt_held rfl trivial (val_load_at 2 rfl rfl Tryd.isAgg25 (ask_35 hll)) rfl ?_   -- 84
        refine lt_pure rfl trivial (val_indexAddr_slice (j) (oa + j * 32) rfl rfl Tryd.underlying25 Tryd.sizeOf23 (by omega) (by omega) (by omega)) rfl ?_   -- 86
        refine lt_held rfl trivial ((val_load_elem (cells := fun d => d.map vU8) (l := proof) (o := oa) (i := j) rfl Tryd.isAgg23 Tryd.sizeOf23 (fun x hx => by rw [List.length_map]; exact hpl x hx) (by omega) (by omega) (fun w' hm => hr.mem hm)).to (by rw [hP])) rfl ?_   -- 87
        refine lt_held rfl trivial (val_load_all 0 rfl rfl Tryd.isAgg23 Tryd.sizeOf23 (by show (List.map vU8 yy).length = _; rw [List.length_map]; exact hyyl)) rfl ?_   -- 88
        refine lt_held rfl trivial ((val_load_elem (cells := fun d => d.map vU8) (l := qs) (o := oq) (i := j) rfl Tryd.isAgg23 Tryd.sizeOf23 (fun x hx => by rw [List.length_map]; exact hql x hx) (by omega) (by omega) (fun w' hm => hq.mem hm)).to (by rw [hQ])) rfl ?_   -- 92
        refine lt_alt ?_ ?_
        · -- first 11
          refine lt_make (fun b => .pointer (some ⟨b, 0, none⟩)) rfl trivial (acts_alloc zD) rfl (fun _ _ _ h => h.only (.cons _ (.cons_cons _ (.cons_cons _ (.cons _ (.cons_cons _ (List.nil_sublist _))))))) (fun b15 hb15 => ?_)   -- 15
          refine lt_alt ?_ ?_
          · -- first 12
            refine lt_make (fun b => .pointer (some ⟨b, 0, none⟩)) rfl trivial (acts_alloc zD) rfl (fun _ _ _ h => h.only (.cons _ (.cons _ (.cons_cons _ (.cons_cons _ (.cons _ (.cons_cons _ (List.nil_sublist _)))))))) (fun b16 hb16 => ?_)   -- 16
            refine lt_alt ?_ ?_
            · -- first 13
              refine lt_make (fun b => .pointer (some ⟨b, 0, none⟩)) rfl trivial (acts_alloc zD) rfl (fun _ _ _ h => h.only (.cons _ (.cons _ (.cons _ (.cons_cons _ (.cons_cons _ (.cons _ (.cons_cons _ (List.nil_sublist _))))))))) (fun b17 hb17 => ?_)   -- 17
              refine lt_make (fun b => .pointer (some ⟨b, 0, none⟩)) rfl trivial (acts_alloc zD) rfl (fun _ _ _ h => h.only (.cons _ (.cons _ (.cons _ (.cons _ (.cons_cons _ (.cons_cons _ (.cons _ (.cons_cons _ (List.nil_sublist _)))))))))) (fun b18 hb18 => ?_)   -- 18
              refine lt_do rfl trivial (does_store_all 3 rfl rfl rfl (one_u8s _) Tryd.sizeOf23 (by show (List.map vU8 xx).length = _; rw [List.length_map]; exact hxxl) (by show (List.map vU8 zeros32).length = _; rw [List.length_map]; exact zeros32_len)) (fun _ _ _ _ h => h.only (.cons _ (.cons _ (.cons _ (.cons _ (.cons_cons _ (.cons_cons _ (.cons _ (.cons_cons _ (List.nil_sublist _)))))))))) (fun _ _ => ?_)
              refine lt_do rfl trivial (does_store_all 2 rfl rfl rfl (one_u8s _) Tryd.sizeOf23 (by show (List.map vU8 P).length = _; rw [List.length_map]; exact hPl) (by show (List.map vU8 zeros32).length = _; rw [List.length_map]; exact zeros32_len)) (fun _ _ _ _ h => h.only (.cons _ (.cons _ (.cons _ (.cons _ (.cons_cons _ (.cons_cons _ (.cons _ (.cons_cons _ (List.nil_sublist _)))))))))) (fun _ _ => ?_)
              refine lt_do rfl trivial (does_store_all 1 rfl rfl rfl (one_u8s _) Tryd.sizeOf23 (by show (List.map vU8 yy).length = _; rw [List.length_map]; exact hyyl) (by show (List.map vU8 zeros32).length = _; rw [List.length_map]; exact zeros32_len)) (fun _ _ _ _ h => h.only (.cons _ (.cons _ (.cons _ (.cons _ (.cons_cons _ (.cons_cons _ (.cons _ (.cons_cons _ (List.nil_sublist _)))))))))) (fun _ _ => ?_)
              refine lt_do rfl trivial (does_store_all 0 rfl rfl rfl (one_u8s _) Tryd.sizeOf23 (by show (List.map vU8 Q).length = _; rw [List.length_map]; exact hQl) (by show (List.map vU8 zeros32).length = _; rw [List.length_map]; exact zeros32_len)) (fun _ _ _ _ h => h.only (.cons _ (.cons _ (.cons _ (.cons _ (.cons_cons _ (.cons_cons _ (.cons _ (.cons_cons _ (List.nil_sublist _)))))))))) (fun _ _ => ?_)
              exact lt_done (fun w hm => ⟨(b15, b16, b17, b18), trivial, ⟨rfl, rfl, rfl, rfl, rfl, rfl, rfl, rfl, rfl, rfl, rfl, rfl, trivial⟩, hm⟩)
            refine lt_alt ?_ ?_
            · -- first 14
              refine lt_make (fun b => .pointer (some ⟨b, 0, none⟩)) rfl trivial (acts_alloc zD) rfl (fun _ _ _ h => h.only (.cons _ (.cons _ (.cons _ (.cons_cons _ (.cons_cons _ (.cons _ (.cons_cons _ (List.nil_sublist _))))))))) (fun b18 hb18 => ?_)   -- 18
              refine lt_make (fun b => .pointer (some ⟨b, 0, none⟩)) rfl trivial (acts_alloc zD) rfl (fun _ _ _ h => h.only (.cons _ (.cons _ (.cons _ (.cons _ (.cons_cons _ (.cons_cons _ (.cons _ (.cons_cons _ (List.nil_sublist _)))))))))) (fun b17 hb17 => ?_)   -- 17
              refine lt_do rfl trivial (does_store_all 3 rfl rfl rfl (one_u8s _) Tryd.sizeOf23 (by show (List.map vU8 xx).length = _; rw [List.length_map]; exact hxxl) (by show (List.map vU8 zeros32).length = _; rw [List.length_map]; exact zeros32_len)) (fun _ _ _ _ h => h.only (.cons _ (.cons _ (.cons _ (.cons _ (.cons_cons _ (.cons_cons _ (.cons _ (.cons_cons _ (List.nil_sublist _)))))))))) (fun _ _ => ?_)
              refine lt_do rfl trivial (does_store_all 2 rfl rfl rfl (one_u8s _) Tryd.sizeOf23 (by show (List.map vU8 P).length = _; rw [List.length_map]; exact hPl) (by show (List.map vU8 zeros32).length = _; rw [List.length_map]; exact zeros32_len)) (fun _ _ _ _ h => h.only (.cons _ (.cons _ (.cons _ (.cons _ (.cons_cons _ (.cons_cons _ (.cons _ (.cons_cons _ (List.nil_sublist _)))))))))) (fun _ _ => ?_)
              refine lt_do rfl trivial (does_store_all 0 rfl rfl rfl (one_u8s _) Tryd.sizeOf23 (by show (List.map vU8 yy).length = _; rw [List.length_map]; exact hyyl) (by show (List.map vU8 zeros32).length = _; rw [List.length_map]; exact zeros32_len)) (fun _ _ _ _ h => h.only (.cons _ (.cons _ (.cons _ (.cons _ (.cons_cons _ (.cons_cons _ (.cons _ (.cons_cons _ (List.nil_sublist _)))))))))) (fun _ _ => ?_)
              refine lt_do rfl trivial (does_store_all 1 rfl rfl rfl (one_u8s _) Tryd.sizeOf23 (by show (List.map vU8 Q).length = _; rw [List.length_map]; exact hQl) (by show (List.map vU8 zeros32).length = _; rw [List.length_map]; exact zeros32_len)) (fun _ _ _ _ h => h.only (.cons _ (.cons _ (.cons _ (.cons _ (.cons_cons _ (.cons_cons _ (.cons _ (.cons_cons _ (List.nil_sublist _)))))))))) (fun _ _ => ?_)
              exact lt_done (fun w hm => ⟨(b15, b16, b17, b18), trivial, ⟨rfl, rfl, rfl, rfl, rfl, rfl, rfl, rfl, rfl, rfl, rfl, rfl, trivial⟩, (hm.perm (.swap _ _ _))⟩)
            exact lt_stop
          refine lt_alt ?_ ?_
          · -- first 13
            refine lt_make (fun b => .pointer (some ⟨b, 0, none⟩)) rfl trivial (acts_alloc zD) rfl (fun _ _ _ h => h.only (.cons _ (.cons _ (.cons_cons _ (.cons_cons _ (.cons _ (.cons_cons _ (List.nil_sublist _)))))))) (fun b17 hb17 => ?_)   -- 17
            refine lt_alt ?_ ?_
            · -- first 12
              refine lt_make (fun b => .pointer (some ⟨b, 0, none⟩)) rfl trivial (acts_alloc zD) rfl (fun _ _ _ h => h.only (.cons _ (.cons _ (.cons _ (.cons_cons _ (.cons_cons _ (.cons _ (.cons_cons _ (List.nil_sublist _))))))))) (fun b16 hb16 => ?_)   -- 16
              refine lt_make (fun b => .pointer (some ⟨b, 0, none⟩)) rfl trivial (acts_alloc zD) rfl (fun _ _ _ h => h.only (.cons _ (.cons _ (.cons _ (.cons _ (.cons_cons _ (.cons_cons _ (.cons _ (.cons_cons _ (List.nil_sublist _)))))))))) (fun b18 hb18 => ?_)   -- 18
              refine lt_do rfl trivial (does_store_all 3 rfl rfl rfl (one_u8s _) Tryd.sizeOf23 (by show (List.map vU8 xx).length = _; rw [List.length_map]; exact hxxl) (by show (List.map vU8 zeros32).length = _; rw [List.length_map]; exact zeros32_len)) (fun _ _ _ _ h => h.only (.cons _ (.cons _ (.cons _ (.cons _ (.cons_cons _ (.cons_cons _ (.cons _ (.cons_cons _ (List.nil_sublist _)))))))))) (fun _ _ => ?_)
              refine lt_do rfl trivial (does_store_all 1 rfl rfl rfl (one_u8s _) Tryd.sizeOf23 (by show (List.map vU8 P).length = _; rw [List.length_map]; exact hPl) (by show (List.map vU8 zeros32).length = _; rw [List.length_map]; exact zeros32_len)) (fun _ _ _ _ h => h.only (.cons _ (.cons _ (.cons _ (.cons _ (.cons_cons _ (.cons_cons _ (.cons _ (.cons_cons _ (List.nil_sublist _)))))))))) (fun _ _ => ?_)
              refine lt_do rfl trivial (does_store_all 2 rfl rfl rfl (one_u8s _) Tryd.sizeOf23 (by show (List.map vU8 yy).length = _; rw [List.length_map]; exact hyyl) (by show (List.map vU8 zeros32).length = _; rw [List.length_map]; exact zeros32_len)) (fun _ _ _ _ h => h.only (.cons _ (.cons _ (.cons _ (.cons _ (.cons_cons _ (.cons_cons _ (.cons _ (.cons_cons _ (List.nil_sublist _)))))))))) (fun _ _ => ?_)
              refine lt_do rfl trivial (does_store_all 0 rfl rfl rfl (one_u8s _) Tryd.sizeOf23 (by show (List.map vU8 Q).length = _; rw [List.length_map]; exact hQl) (by show (List.map vU8 zeros32).length = _; rw [List.length_map]; exact zeros32_len)) (fun _ _ _ _ h => h.only (.cons _ (.cons _ (.cons _ (.cons _ (.cons_cons _ (.cons_cons _ (.cons _ (.cons_cons _ (List.nil_sublist _)))))))))) (fun _ _ => ?_)
              exact lt_done (fun w hm => ⟨(b15, b16, b17, b18), trivial, ⟨rfl, rfl, rfl, rfl, rfl, rfl, rfl, rfl, rfl, rfl, rfl, rfl, trivial⟩, (hm.perm (.cons _ (.swap _ _ _)))⟩)
            refine lt_alt ?_ ?_
            · -- first 14
              refine lt_make (fun b => .pointer (some ⟨b, 0, none⟩)) rfl trivial (acts_alloc zD) rfl (fun _ _ _ h => h.only (.cons _ (.cons _ (.cons _ (.cons_cons _ (.cons_cons _ (.cons _ (.cons_cons _ (List.nil_sublist _))))))))) (fun b18 hb18 => ?_)   -- 18
              refine lt_make (fun b => .pointer (some ⟨b, 0, none⟩)) rfl trivial (acts_alloc zD) rfl (fun _ _ _ h => h.only (.cons _ (.cons _ (.cons _ (.cons _ (.cons_cons _ (.cons_cons _ (.cons _ (.cons_cons _ (List.nil_sublist _)))))))))) (fun b16 hb16 => ?_)   -- 16
              refine lt_do rfl trivial (does_store_all 3 rfl rfl rfl (one_u8s _) Tryd.sizeOf23 (by show (List.map vU8 xx).length = _; rw [List.length_map]; exact hxxl) (by show (List.map vU8 zeros32).length = _; rw [List.length_map]; exact zeros32_len)) (fun _ _ _ _ h => h.only (.cons _ (.cons _ (.cons _ (.cons _ (.cons_cons _ (.cons_cons _ (.cons _ (.cons_cons _ (List.nil_sublist _)))))))))) (fun _ _ => ?_)
              refine lt_do rfl trivial (does_store_all 0 rfl rfl rfl (one_u8s _) Tryd.sizeOf23 (by show (List.map vU8 P).length = _; rw [List.length_map]; exact hPl) (by show (List.map vU8 zeros32).length = _; rw [List.length_map]; exact zeros32_len)) (fun _ _ _ _ h => h.only (.cons _ (.cons _ (.cons _ (.cons _ (.cons_cons _ (.cons_cons _ (.cons _ (.cons_cons _ (List.nil_sublist _)))))))))) (fun _ _ => ?_)
              refine lt_do rfl trivial (does_store_all 2 rfl rfl rfl (one_u8s _) Tryd.sizeOf23 (by show (List.map vU8 yy).length = _; rw [List.length_map]; exact hyyl) (by show (List.map vU8 zeros32).length = _; rw [List.length_map]; exact zeros32_len)) (fun _ _ _ _ h => h.only (.cons _ (.cons _ (.cons _ (.cons _ (.cons_cons _ (.cons_cons _ (.cons _ (.cons_cons _ (List.nil_sublist _)))))))))) (fun _ _ => ?_)
              refine lt_do rfl trivial (does_store_all 1 rfl rfl rfl (one_u8s _) Tryd.sizeOf23 (by show (List.map vU8 Q).length = _; rw [List.length_map]; exact hQl) (by show (List.map vU8 zeros32).length = _; rw [List.length_map]; exact zeros32_len)) (fun _ _ _ _ h => h.only (.cons _ (.cons _ (.cons _ (.cons _ (.cons_cons _ (.cons_cons _ (.cons _ (.cons_cons _ (List.nil_sublist _)))))))))) (fun _ _ => ?_)
              exact lt_done (fun w hm => ⟨(b15, b16, b17, b18), trivial, ⟨rfl, rfl, rfl, rfl, rfl, rfl, rfl, rfl, rfl, rfl, rfl, rfl, trivial⟩, ((hm.perm (.swap _ _ _)).perm (.cons _ (.swap _ _ _)))⟩)
            exact lt_stop
          refine lt_alt ?_ ?_
          · -- first 14
            refine lt_make (fun b => .pointer (some ⟨b, 0, none⟩)) rfl trivial (acts_alloc zD) rfl (fun _ _ _ h => h.only (.cons _ (.cons _ (.cons_cons _ (.cons_cons _ (.cons _ (.cons_cons _ (List.nil_sublist _)))))))) (fun b18 hb18 => ?_)   -- 18
            refine lt_alt ?_ ?_
            · -- first 12
              refine lt_make (fun b => .pointer (some ⟨b, 0, none⟩)) rfl trivial (acts_alloc zD) rfl (fun _ _ _ h => h.only (.cons _ (.cons _ (.cons _ (.cons_cons _ (.cons_cons _ (.cons _ (.cons_cons _ (List.nil_sublist _))))))))) (fun b16 hb16 => ?_)   -- 16
              refine lt_make (fun b => .pointer (some ⟨b, 0, none⟩)) rfl trivial (acts_alloc zD) rfl (fun _ _ _ h => h.only (.cons _ (.cons _ (.cons _ (.cons _ (.cons_cons _ (.cons_cons _ (.cons _ (.cons_cons _ (List.nil_sublist _)))))))))) (fun b17 hb17 => ?_)   -- 17
              refine lt_do rfl trivial (does_store_all 3 rfl rfl rfl (one_u8s _) Tryd.sizeOf23 (by show (List.map vU8 xx).length = _; rw [List.length_map]; exact hxxl) (by show (List.map vU8 zeros32).length = _; rw [List.length_map]; exact zeros32_len)) (fun _ _ _ _ h => h.only (.cons _ (.cons _ (.cons _ (.cons _ (.cons_cons _ (.cons_cons _ (.cons _ (.cons_cons _ (List.nil_sublist _)))))))))) (fun _ _ => ?_)
              refine lt_do rfl trivial (does_store_all 1 rfl rfl rfl (one_u8s _) Tryd.sizeOf23 (by show (List.map vU8 P).length = _; rw [List.length_map]; exact hPl) (by show (List.map vU8 zeros32).length = _; rw [List.length_map]; exact zeros32_len)) (fun _ _ _ _ h => h.only (.cons _ (.cons _ (.cons _ (.cons _ (.cons_cons _ (.cons_cons _ (.cons _ (.cons_cons _ (List.nil_sublist _)))))))))) (fun _ _ => ?_)
              refine lt_do rfl trivial (does_store_all 0 rfl rfl rfl (one_u8s _) Tryd.sizeOf23 (by show (List.map vU8 yy).length = _; rw [List.length_map]; exact hyyl) (by show (List.map vU8 zeros32).length = _; rw [List.length_map]; exact zeros32_len)) (fun _ _ _ _ h => h.only (.cons _ (.cons _ (.cons _ (.cons _ (.cons_cons _ (.cons_cons _ (.cons _ (.cons_cons _ (List.nil_sublist _)))))))))) (fun _ _ => ?_)
              refine lt_do rfl trivial (does_store_all 2 rfl rfl rfl (one_u8s _) Tryd.sizeOf23 (by show (List.map vU8 Q).length = _; rw [List.length_map]; exact hQl) (by show (List.map vU8 zeros32).length = _; rw [List.length_map]; exact zeros32_len)) (fun _ _ _ _ h => h.only (.cons _ (.cons _ (.cons _ (.cons _ (.cons_cons _ (.cons_cons _ (.cons _ (.cons_cons _ (List.nil_sublist _)))))))))) (fun _ _ => ?_)
              exact lt_done (fun w hm => ⟨(b15, b16, b17, b18), trivial, ⟨rfl, rfl, rfl, rfl, rfl, rfl, rfl, rfl, rfl, rfl, rfl, rfl, trivial⟩, ((hm.perm (.cons _ (.swap _ _ _))).perm (.swap _ _ _))⟩)
            refine lt_alt ?_ ?_
            · -- first 13
              refine lt_make (fun b => .pointer (some ⟨b, 0, none⟩)) rfl trivial (acts_alloc zD) rfl (fun _ _ _ h => h.only (.cons _ (.cons _ (.cons _ (.cons_cons _ (.cons_cons _ (.cons _ (.cons_cons _ (List.nil_sublist _))))))))) (fun b17 hb17 => ?_)   -- 17
              refine lt_make (fun b => .pointer (some ⟨b, 0, none⟩)) rfl trivial (acts_alloc zD) rfl (fun _ _ _ h => h.only (.cons _ (.cons _ (.cons _ (.cons _ (.cons_cons _ (.cons_cons _ (.cons _ (.cons_cons _ (List.nil_sublist _)))))))))) (fun b16 hb16 => ?_)   -- 16
              refine lt_do rfl trivial (does_store_all 3 rfl rfl rfl (one_u8s _) Tryd.sizeOf23 (by show (List.map vU8 xx).length = _; rw [List.length_map]; exact hxxl) (by show (List.map vU8 zeros32).length = _; rw [List.length_map]; exact zeros32_len)) (fun _ _ _ _ h => h.only (.cons _ (.cons _ (.cons _ (.cons _ (.cons_cons _ (.cons_cons _ (.cons _ (.cons_cons _ (List.nil_sublist _)))))))))) (fun _ _ => ?_)
              refine lt_do rfl trivial (does_store_all 0 rfl rfl rfl (one_u8s _) Tryd.sizeOf23 (by show (List.map vU8 P).length = _; rw [List.length_map]; exact hPl) (by show (List.map vU8 zeros32).length = _; rw [List.length_map]; exact zeros32_len)) (fun _ _ _ _ h => h.only (.cons _ (.cons _ (.cons _ (.cons _ (.cons_cons _ (.cons_cons _ (.cons _ (.cons_cons _ (List.nil_sublist _)))))))))) (fun _ _ => ?_)
              refine lt_do rfl trivial (does_store_all 1 rfl rfl rfl (one_u8s _) Tryd.sizeOf23 (by show (List.map vU8 yy).length = _; rw [List.length_map]; exact hyyl) (by show (List.map vU8 zeros32).length = _; rw [List.length_map]; exact zeros32_len)) (fun _ _ _ _ h => h.only (.cons _ (.cons _ (.cons _ (.cons _ (.cons_cons _ (.cons_cons _ (.cons _ (.cons_cons _ (List.nil_sublist _)))))))))) (fun _ _ => ?_)
              refine lt_do rfl trivial (does_store_all 2 rfl rfl rfl (one_u8s _) Tryd.sizeOf23 (by show (List.map vU8 Q).length = _; rw [List.length_map]; exact hQl) (by show (List.map vU8 zeros32).length = _; rw [List.length_map]; exact zeros32_len)) (fun _ _ _ _ h => h.only (.cons _ (.cons _ (.cons _ (.cons _ (.cons_cons _ (.cons_cons _ (.cons _ (.cons_cons _ (List.nil_sublist _)))))))))) (fun _ _ => ?_)
              exact lt_done (fun w hm => ⟨(b15, b16, b17, b18), trivial, ⟨rfl, rfl, rfl, rfl, rfl, rfl, rfl, rfl, rfl, rfl, rfl, rfl, trivial⟩, (((hm.perm (.cons _ (.swap _ _ _))).perm (.swap _ _ _)).perm (.cons _ (.swap _ _ _)))⟩)
            exact lt_stop
          exact lt_stop
        refine lt_alt ?_ ?_
        · -- first 12
          refine lt_make (fun b => .pointer (some ⟨b, 0, none⟩)) rfl trivial (acts_alloc zD) rfl (fun _ _ _ h => h.only (.cons _ (.cons_cons _ (.cons_cons _ (.cons _ (.cons_cons _ (List.nil_sublist _))))))) (fun b16 hb16 => ?_)   -- 16
          refine lt_alt ?_ ?_
          · -- first 11
            refine lt_make (fun b => .pointer (some ⟨b, 0, none⟩)) rfl trivial (acts_alloc zD) rfl (fun _ _ _ h => h.only (.cons _ (.cons _ (.cons_cons _ (.cons_cons _ (.cons _ (.cons_cons _ (List.nil_sublist _)))))))) (fun b15 hb15 => ?_)   -- 15
            refine lt_alt ?_ ?_
            · -- first 13
              refine lt_make (fun b => .pointer (some ⟨b, 0, none⟩)) rfl trivial (acts_alloc zD) rfl (fun _ _ _ h => h.only (.cons _ (.cons _ (.cons _ (.cons_cons _ (.cons_cons _ (.cons _ (.cons_cons _ (List.nil_sublist _))))))))) (fun b17 hb17 => ?_)   -- 17
              refine lt_make (fun b => .pointer (some ⟨b, 0, none⟩)) rfl trivial (acts_alloc zD) rfl (fun _ _ _ h => h.only (.cons _ (.cons _ (.cons _ (.cons _ (.cons_cons _ (.cons_cons _ (.cons _ (.cons_cons _ (List.nil_sublist _)))))))))) (fun b18 hb18 => ?_)   -- 18
              refine lt_do rfl trivial (does_store_all 2 rfl rfl rfl (one_u8s _) Tryd.sizeOf23 (by show (List.map vU8 xx).length = _; rw [List.length_map]; exact hxxl) (by show (List.map vU8 zeros32).length = _; rw [List.length_map]; exact zeros32_len)) (fun _ _ _ _ h => h.only (.cons _ (.cons _ (.cons _ (.cons _ (.cons_cons _ (.cons_cons _ (.cons _ (.cons_cons _ (List.nil_sublist _)))))))))) (fun _ _ => ?_)
              refine lt_do rfl trivial (does_store_all 3 rfl rfl rfl (one_u8s _) Tryd.sizeOf23 (by show (List.map vU8 P).length = _; rw [List.length_map]; exact hPl) (by show (List.map vU8 zeros32).length = _; rw [List.length_map]; exact zeros32_len)) (fun _ _ _ _ h => h.only (.cons _ (.cons _ (.cons _ (.cons _ (.cons_cons _ (.cons_cons _ (.cons _ (.cons_cons _ (List.nil_sublist _)))))))))) (fun _ _ => ?_)
              refine lt_do rfl trivial (does_store_all 1 rfl rfl rfl (one_u8s _) Tryd.sizeOf23 (by show (List.map vU8 yy).length = _; rw [List.length_map]; exact hyyl) (by show (List.map vU8 zeros32).length = _; rw [List.length_map]; exact zeros32_len)) (fun _ _ _ _ h => h.only (.cons _ (.cons _ (.cons _ (.cons _ (.cons_cons _ (.cons_cons _ (.cons _ (.cons_cons _ (List.nil_sublist _)))))))))) (fun _ _ => ?_)
              refine lt_do rfl trivial (does_store_all 0 rfl rfl rfl (one_u8s _) Tryd.sizeOf23 (by show (List.map vU8 Q).length = _; rw [List.length_map]; exact hQl) (by show (List.map vU8 zeros32).length = _; rw [List.length_map]; exact zeros32_len)) (fun _ _ _ _ h => h.only (.cons _ (.cons _ (.cons _ (.cons _ (.cons_cons _ (.cons_cons _ (.cons _ (.cons_cons _ (List.nil_sublist _)))))))))) (fun _ _ => ?_)
              exact lt_done (fun w hm => ⟨(b15, b16, b17, b18), trivial, ⟨rfl, rfl, rfl, rfl, rfl, rfl, rfl, rfl, rfl, rfl, rfl, rfl, trivial⟩, (hm.perm (.cons _ (.cons _ (.swap _ _ _))))⟩)
            refine lt_alt ?_ ?_
            · -- first 14
              refine lt_make (fun b => .pointer (some ⟨b, 0, none⟩)) rfl trivial (acts_alloc zD) rfl (fun _ _ _ h => h.only (.cons _ (.cons _ (.cons _ (.cons_cons _ (.cons_cons _ (.cons _ (.cons_cons _ (List.nil_sublist _))))))))) (fun b18 hb18 => ?_)   -- 18
              refine lt_make (fun b => .pointer (some ⟨b, 0, none⟩)) rfl trivial (acts_alloc zD) rfl (fun _ _ _ h => h.only (.cons _ (.cons _ (.cons _ (.cons _ (.cons_cons _ (.cons_cons _ (.cons _ (.cons_cons _ (List.nil_sublist _)))))))))) (fun b17 hb17 => ?_)   -- 17
              refine lt_do rfl trivial (does_store_all 2 rfl rfl rfl (one_u8s _) Tryd.sizeOf23 (by show (List.map vU8 xx).length = _; rw [List.length_map]; exact hxxl) (by show (List.map vU8 zeros32).length = _; rw [List.length_map]; exact zeros32_len)) (fun _ _ _ _ h => h.only (.cons _ (.cons _ (.cons _ (.cons _ (.cons_cons _ (.cons_cons _ (.cons _ (.cons_cons _ (List.nil_sublist _)))))))))) (fun _ _ => ?_)
              refine lt_do rfl trivial (does_store_all 3 rfl rfl rfl (one_u8s _) Tryd.sizeOf23 (by show (List.map vU8 P).length = _; rw [List.length_map]; exact hPl) (by show (List.map vU8 zeros32).length = _; rw [List.length_map]; exact zeros32_len)) (fun _ _ _ _ h => h.only (.cons _ (.cons _ (.cons _ (.cons _ (.cons_cons _ (.cons_cons _ (.cons _ (.cons_cons _ (List.nil_sublist _)))))))))) (fun _ _ => ?_)
              refine lt_do rfl trivial (does_store_all 0 rfl rfl rfl (one_u8s _) Tryd.sizeOf23 (by show (List.map vU8 yy).length = _; rw [List.length_map]; exact hyyl) (by show (List.map vU8 zeros32).length = _; rw [List.length_map]; exact zeros32_len)) (fun _ _ _ _ h => h.only (.cons _ (.cons _ (.cons _ (.cons _ (.cons_cons _ (.cons_cons _ (.cons _ (.cons_cons _ (List.nil_sublist _)))))))))) (fun _ _ => ?_)
              refine lt_do rfl trivial (does_store_all 1 rfl rfl rfl (one_u8s _) Tryd.sizeOf23 (by show (List.map vU8 Q).length = _; rw [List.length_map]; exact hQl) (by show (List.map vU8 zeros32).length = _; rw [List.length_map]; exact zeros32_len)) (fun _ _ _ _ h => h.only (.cons _ (.cons _ (.cons _ (.cons _ (.cons_cons _ (.cons_cons _ (.cons _ (.cons_cons _ (List.nil_sublist _)))))))))) (fun _ _ => ?_)
              exact lt_done (fun w hm => ⟨(b15, b16, b17, b18), trivial, ⟨rfl, rfl, rfl, rfl, rfl, rfl, rfl, rfl, rfl, rfl, rfl, rfl, trivial⟩, ((hm.perm (.swap _ _ _)).perm (.cons _ (.cons _ (.swap _ _ _))))⟩)
            exact lt_stop
          refine lt_alt ?_ ?_
          · -- first 13
            refine lt_make (fun b => .pointer (some ⟨b, 0, none⟩)) rfl trivial (acts_alloc zD) rfl (fun _ _ _ h => h.only (.cons _ (.cons _ (.cons_cons _ (.cons_cons _ (.cons _ (.cons_cons _ (List.nil_sublist _)))))))) (fun b17 hb17 => ?_)   -- 17
            refine lt_alt ?_ ?_
            · -- first 11
              refine lt_make (fun b => .pointer (some ⟨b, 0, none⟩)) rfl trivial (acts_alloc zD) rfl (fun _ _ _ h => h.only (.cons _ (.cons _ (.cons _ (.cons_cons _ (.cons_cons _ (.cons _ (.cons_cons _ (List.nil_sublist _))))))))) (fun b15 hb15 => ?_)   -- 15
              refine lt_make (fun b => .pointer (some ⟨b, 0, none⟩)) rfl trivial (acts_alloc zD) rfl (fun _ _ _ h => h.only (.cons _ (.cons _ (.cons _ (.cons _ (.cons_cons _ (.cons_cons _ (.cons _ (.cons_cons _ (List.nil_sublist _)))))))))) (fun b18 hb18 => ?_)   -- 18
              refine lt_do rfl trivial (does_store_all 1 rfl rfl rfl (one_u8s _) Tryd.sizeOf23 (by show (List.map vU8 xx).length = _; rw [List.length_map]; exact hxxl) (by show (List.map vU8 zeros32).length = _; rw [List.length_map]; exact zeros32_len)) (fun _ _ _ _ h => h.only (.cons _ (.cons _ (.cons _ (.cons _ (.cons_cons _ (.cons_cons _ (.cons _ (.cons_cons _ (List.nil_sublist _)))))))))) (fun _ _ => ?_)
              refine lt_do rfl trivial (does_store_all 3 rfl rfl rfl (one_u8s _) Tryd.sizeOf23 (by show (List.map vU8 P).length = _; rw [List.length_map]; exact hPl) (by show (List.map vU8 zeros32).length = _; rw [List.length_map]; exact zeros32_len)) (fun _ _ _ _ h => h.only (.cons _ (.cons _ (.cons _ (.cons _ (.cons_cons _ (.cons_cons _ (.cons _ (.cons_cons _ (List.nil_sublist _)))))))))) (fun _ _ => ?_)
              refine lt_do rfl trivial (does_store_all 2 rfl rfl rfl (one_u8s _) Tryd.sizeOf23 (by show (List.map vU8 yy).length = _; rw [List.length_map]; exact hyyl) (by show (List.map vU8 zeros32).length = _; rw [List.length_map]; exact zeros32_len)) (fun _ _ _ _ h => h.only (.cons _ (.cons _ (.cons _ (.cons _ (.cons_cons _ (.cons_cons _ (.cons _ (.cons_cons _ (List.nil_sublist _)))))))))) (fun _ _ => ?_)
              refine lt_do rfl trivial (does_store_all 0 rfl rfl rfl (one_u8s _) Tryd.sizeOf23 (by show (List.map vU8 Q).length = _; rw [List.length_map]; exact hQl) (by show (List.map vU8 zeros32).length = _; rw [List.length_map]; exact zeros32_len)) (fun _ _ _ _ h => h.only (.cons _ (.cons _ (.cons _ (.cons _ (.cons_cons _ (.cons_cons _ (.cons _ (.cons_cons _ (List.nil_sublist _)))))))))) (fun _ _ => ?_)
              exact lt_done (fun w hm => ⟨(b15, b16, b17, b18), trivial, ⟨rfl, rfl, rfl, rfl, rfl, rfl, rfl, rfl, rfl, rfl, rfl, rfl, trivial⟩, ((hm.perm (.cons _ (.swap _ _ _))).perm (.cons _ (.cons _ (.swap _ _ _))))⟩)
            refine lt_alt ?_ ?_
            · -- first 14
              refine lt_make (fun b => .pointer (some ⟨b, 0, none⟩)) rfl trivial (acts_alloc zD) rfl (fun _ _ _ h => h.only (.cons _ (.cons _ (.cons _ (.cons_cons _ (.cons_cons _ (.cons _ (.cons_cons _ (List.nil_sublist _))))))))) (fun b18 hb18 => ?_)   -- 18
              refine lt_make (fun b => .pointer (some ⟨b, 0, none⟩)) rfl trivial (acts_alloc zD) rfl (fun _ _ _ h => h.only (.cons _ (.cons _ (.cons _ (.cons _ (.cons_cons _ (.cons_cons _ (.cons _ (.cons_cons _ (List.nil_sublist _)))))))))) (fun b15 hb15 => ?_)   -- 15
              refine lt_do rfl trivial (does_store_all 0 rfl rfl rfl (one_u8s _) Tryd.sizeOf23 (by show (List.map vU8 xx).length = _; rw [List.length_map]; exact hxxl) (by show (List.map vU8 zeros32).length = _; rw [List.length_map]; exact zeros32_len)) (fun _ _ _ _ h => h.only (.cons _ (.cons _ (.cons _ (.cons _ (.cons_cons _ (.cons_cons _ (.cons _ (.cons_cons _ (List.nil_sublist _)))))))))) (fun _ _ => ?_)
              refine lt_do rfl trivial (does_store_all 3 rfl rfl rfl (one_u8s _) Tryd.sizeOf23 (by show (List.map vU8 P).length = _; rw [List.length_map]; exact hPl) (by show (List.map vU8 zeros32).length = _; rw [List.length_map]; exact zeros32_len)) (fun _ _ _ _ h => h.only (.cons _ (.cons _ (.cons _ (.cons _ (.cons_cons _ (.cons_cons _ (.cons _ (.cons_cons _ (List.nil_sublist _)))))))))) (fun _ _ => ?_)
              refine lt_do rfl trivial (does_store_all 2 rfl rfl rfl (one_u8s _) Tryd.sizeOf23 (by show (List.map vU8 yy).length = _; rw [List.length_map]; exact hyyl) (by show (List.map vU8 zeros32).length = _; rw [List.length_map]; exact zeros32_len)) (fun _ _ _ _ h => h.only (.cons _ (.cons _ (.cons _ (.cons _ (.cons_cons _ (.cons_cons _ (.cons _ (.cons_cons _ (List.nil_sublist _)))))))))) (fun _ _ => ?_)
              refine lt_do rfl trivial (does_store_all 1 rfl rfl rfl (one_u8s _) Tryd.sizeOf23 (by show (List.map vU8 Q).length = _; rw [List.length_map]; exact hQl) (by show (List.map vU8 zeros32).length = _; rw [List.length_map]; exact zeros32_len)) (fun _ _ _ _ h => h.only (.cons _ (.cons _ (.cons _ (.cons _ (.cons_cons _ (.cons_cons _ (.cons _ (.cons_cons _ (List.nil_sublist _)))))))))) (fun _ _ => ?_)
              exact lt_done (fun w hm => ⟨(b15, b16, b17, b18), trivial, ⟨rfl, rfl, rfl, rfl, rfl, rfl, rfl, rfl, rfl, rfl, rfl, rfl, trivial⟩, (((hm.perm (.swap _ _ _)).perm (.cons _ (.swap _ _ _))).perm (.cons _ (.cons _ (.swap _ _ _))))⟩)
            exact lt_stop
          refine lt_alt ?_ ?_
          · -- first 14
            refine lt_make (fun b => .pointer (some ⟨b, 0, none⟩)) rfl trivial (acts_alloc zD) rfl (fun _ _ _ h => h.only (.cons _ (.cons _ (.cons_cons _ (.cons_cons _ (.cons _ (.cons_cons _ (List.nil_sublist _)))))))) (fun b18 hb18 => ?_)   -- 18
            refine lt_alt ?_ ?_
            · -- first 11
              refine lt_make (fun b => .pointer (some ⟨b, 0, none⟩)) rfl trivial (acts_alloc zD) rfl (fun _ _ _ h => h.only (.cons _ (.cons _ (.cons _ (.cons_cons _ (.cons_cons _ (.cons _ (.cons_cons _ (List.nil_sublist _))))))))) (fun b15 hb15 => ?_)   -- 15
              refine lt_make (fun b => .pointer (some ⟨b, 0, none⟩)) rfl trivial (acts_alloc zD) rfl (fun _ _ _ h => h.only (.cons _ (.cons _ (.cons _ (.cons _ (.cons_cons _ (.cons_cons _ (.cons _ (.cons_cons _ (List.nil_sublist _)))))))))) (fun b17 hb17 => ?_)   -- 17
              refine lt_do rfl trivial (does_store_all 1 rfl rfl rfl (one_u8s _) Tryd.sizeOf23 (by show (List.map vU8 xx).length = _; rw [List.length_map]; exact hxxl) (by show (List.map vU8 zeros32).length = _; rw [List.length_map]; exact zeros32_len)) (fun _ _ _ _ h => h.only (.cons _ (.cons _ (.cons _ (.cons _ (.cons_cons _ (.cons_cons _ (.cons _ (.cons_cons _ (List.nil_sublist _)))))))))) (fun _ _ => ?_)
              refine lt_do rfl trivial (does_store_all 3 rfl rfl rfl (one_u8s _) Tryd.sizeOf23 (by show (List.map vU8 P).length = _; rw [List.length_map]; exact hPl) (by show (List.map vU8 zeros32).length = _; rw [List.length_map]; exact zeros32_len)) (fun _ _ _ _ h => h.only (.cons _ (.cons _ (.cons _ (.cons _ (.cons_cons _ (.cons_cons _ (.cons _ (.cons_cons _ (List.nil_sublist _)))))))))) (fun _ _ => ?_)
              refine lt_do rfl trivial (does_store_all 0 rfl rfl rfl (one_u8s _) Tryd.sizeOf23 (by show (List.map vU8 yy).length = _; rw [List.length_map]; exact hyyl) (by show (List.map vU8 zeros32).length = _; rw [List.length_map]; exact zeros32_len)) (fun _ _ _ _ h => h.only (.cons _ (.cons _ (.cons _ (.cons _ (.cons_cons _ (.cons_cons _ (.cons _ (.cons_cons _ (List.nil_sublist _)))))))))) (fun _ _ => ?_)
              refine lt_do rfl trivial (does_store_all 2 rfl rfl rfl (one_u8s _) Tryd.sizeOf23 (by show (List.map vU8 Q).length = _; rw [List.length_map]; exact hQl) (by show (List.map vU8 zeros32).length = _; rw [List.length_map]; exact zeros32_len)) (fun _ _ _ _ h => h.only (.cons _ (.cons _ (.cons _ (.cons _ (.cons_cons _ (.cons_cons _ (.cons _ (.cons_cons _ (List.nil_sublist _)))))))))) (fun _ _ => ?_)
              exact lt_done (fun w hm => ⟨(b15, b16, b17, b18), trivial, ⟨rfl, rfl, rfl, rfl, rfl, rfl, rfl, rfl, rfl, rfl, rfl, rfl, trivial⟩, (((hm.perm (.cons _ (.swap _ _ _))).perm (.swap _ _ _)).perm (.cons _ (.cons _ (.swap _ _ _))))⟩)
            refine lt_alt ?_ ?_
            · -- first 13
              refine lt_make (fun b => .pointer (some ⟨b, 0, none⟩)) rfl trivial (acts_alloc zD) rfl (fun _ _ _ h => h.only (.cons _ (.cons _ (.cons _ (.cons_cons _ (.cons_cons _ (.cons _ (.cons_cons _ (List.nil_sublist _))))))))) (fun b17 hb17 => ?_)   -- 17
              refine lt_make (fun b => .pointer (some ⟨b, 0, none⟩)) rfl trivial (acts_alloc zD) rfl (fun _ _ _ h => h.only (.cons _ (.cons _ (.cons _ (.cons _ (.cons_cons _ (.cons_cons _ (.cons _ (.cons_cons _ (List.nil_sublist _)))))))))) (fun b15 hb15 => ?_)   -- 15
              refine lt_do rfl trivial (does_store_all 0 rfl rfl rfl (one_u8s _) Tryd.sizeOf23 (by show (List.map vU8 xx).length = _; rw [List.length_map]; exact hxxl) (by show (List.map vU8 zeros32).length = _; rw [List.length_map]; exact zeros32_len)) (fun _ _ _ _ h => h.only (.cons _ (.cons _ (.cons _ (.cons _ (.cons_cons _ (.cons_cons _ (.cons _ (.cons_cons _ (List.nil_sublist _)))))))))) (fun _ _ => ?_)
              refine lt_do rfl trivial (does_store_all 3 rfl rfl rfl (one_u8s _) Tryd.sizeOf23 (by show (List.map vU8 P).length = _; rw [List.length_map]; exact hPl) (by show (List.map vU8 zeros32).length = _; rw [List.length_map]; exact zeros32_len)) (fun _ _ _ _ h => h.only (.cons _ (.cons _ (.cons _ (.cons _ (.cons_cons _ (.cons_cons _ (.cons _ (.cons_cons _ (List.nil_sublist _)))))))))) (fun _ _ => ?_)
              refine lt_do rfl trivial (does_store_all 1 rfl rfl rfl (one_u8s _) Tryd.sizeOf23 (by show (List.map vU8 yy).length = _; rw [List.length_map]; exact hyyl) (by show (List.map vU8 zeros32).length = _; rw [List.length_map]; exact zeros32_len)) (fun _ _ _ _ h => h.only (.cons _ (.cons _ (.cons _ (.cons _ (.cons_cons _ (.cons_cons _ (.cons _ (.cons_cons _ (List.nil_sublist _)))))))))) (fun _ _ => ?_)
              refine lt_do rfl trivial (does_store_all 2 rfl rfl rfl (one_u8s _) Tryd.sizeOf23 (by show (List.map vU8 Q).length = _; rw [List.length_map]; exact hQl) (by show (List.map vU8 zeros32).length = _; rw [List.length_map]; exact zeros32_len)) (fun _ _ _ _ h => h.only (.cons _ (.cons _ (.cons _ (.cons _ (.cons_cons _ (.cons_cons _ (.cons _ (.cons_cons _ (List.nil_sublist _)))))))))) (fun _ _ => ?_)
              exact lt_done (fun w hm => ⟨(b15, b16, b17, b18), trivial, ⟨rfl, rfl, rfl, rfl, rfl, rfl, rfl, rfl, rfl, rfl, rfl, rfl, trivial⟩, ((((hm.perm (.cons _ (.swap _ _ _))).perm (.swap _ _ _)).perm (.cons _ (.swap _ _ _))).perm (.cons _ (.cons _ (.swap _ _ _))))⟩)
            exact lt_stop
          exact lt_stop
        refine lt_alt ?_ ?_
        · -- first 13
          refine lt_make (fun b => .pointer (some ⟨b, 0, none⟩)) rfl trivial (acts_alloc zD) rfl (fun _ _ _ h => h.only (.cons _ (.cons_cons _ (.cons_cons _ (.cons _ (.cons_cons _ (List.nil_sublist _))))))) (fun b17 hb17 => ?_)   -- 17
          refine lt_alt ?_ ?_
          · -- first 11
            refine lt_make (fun b => .pointer (some ⟨b, 0, none⟩)) rfl trivial (acts_alloc zD) rfl (fun _ _ _ h => h.only (.cons _ (.cons _ (.cons_cons _ (.cons_cons _ (.cons _ (.cons_cons _ (List.nil_sublist _)))))))) (fun b15 hb15 => ?_)   -- 15
            refine lt_alt ?_ ?_
            · -- first 12
              refine lt_make (fun b => .pointer (some ⟨b, 0, none⟩)) rfl trivial (acts_alloc zD) rfl (fun _ _ _ h => h.only (.cons _ (.cons _ (.cons _ (.cons_cons _ (.cons_cons _ (.cons _ (.cons_cons _ (List.nil_sublist _))))))))) (fun b16 hb16 => ?_)   -- 16
              refine lt_make (fun b => .pointer (some ⟨b, 0, none⟩)) rfl trivial (acts_alloc zD) rfl (fun _ _ _ h => h.only (.cons _ (.cons _ (.cons _ (.cons _ (.cons_cons _ (.cons_cons _ (.cons _ (.cons_cons _ (List.nil_sublist _)))))))))) (fun b18 hb18 => ?_)   -- 18
              refine lt_do rfl trivial (does_store_all 2 rfl rfl rfl (one_u8s _) Tryd.sizeOf23 (by show (List.map vU8 xx).length = _; rw [List.length_map]; exact hxxl) (by show (List.map vU8 zeros32).length = _; rw [List.length_map]; exact zeros32_len)) (fun _ _ _ _ h => h.only (.cons _ (.cons _ (.cons _ (.cons _ (.cons_cons _ (.cons_cons _ (.cons _ (.cons_cons _ (List.nil_sublist _)))))))))) (fun _ _ => ?_)
              refine lt_do rfl trivial (does_store_all 1 rfl rfl rfl (one_u8s _) Tryd.sizeOf23 (by show (List.map vU8 P).length = _; rw [List.length_map]; exact hPl) (by show (List.map vU8 zeros32).length = _; rw [List.length_map]; exact zeros32_len)) (fun _ _ _ _ h => h.only (.cons _ (.cons _ (.cons _ (.cons _ (.cons_cons _ (.cons_cons _ (.cons _ (.cons_cons _ (List.nil_sublist _)))))))))) (fun _ _ => ?_)
              refine lt_do rfl trivial (does_store_all 3 rfl rfl rfl (one_u8s _) Tryd.sizeOf23 (by show (List.map vU8 yy).length = _; rw [List.length_map]; exact hyyl) (by show (List.map vU8 zeros32).length = _; rw [List.length_map]; exact zeros32_len)) (fun _ _ _ _ h => h.only (.cons _ (.cons _ (.cons _ (.cons _ (.cons_cons _ (.cons_cons _ (.cons _ (.cons_cons _ (List.nil_sublist _)))))))))) (fun _ _ => ?_)
              refine lt_do rfl trivial (does_store_all 0 rfl rfl rfl (one_u8s _) Tryd.sizeOf23 (by show (List.map vU8 Q).length = _; rw [List.length_map]; exact hQl) (by show (List.map vU8 zeros32).length = _; rw [List.length_map]; exact zeros32_len)) (fun _ _ _ _ h => h.only (.cons _ (.cons _ (.cons _ (.cons _ (.cons_cons _ (.cons_cons _ (.cons _ (.cons_cons _ (List.nil_sublist _)))))))))) (fun _ _ => ?_)
              exact lt_done (fun w hm => ⟨(b15, b16, b17, b18), trivial, ⟨rfl, rfl, rfl, rfl, rfl, rfl, rfl, rfl, rfl, rfl, rfl, rfl, trivial⟩, ((hm.perm (.cons _ (.cons _ (.swap _ _ _)))).perm (.cons _ (.swap _ _ _)))⟩)
            refine lt_alt ?_ ?_
            · -- first 14
              refine lt_make (fun b => .pointer (some ⟨b, 0, none⟩)) rfl trivial (acts_alloc zD) rfl (fun _ _ _ h => h.only (.cons _ (.cons _ (.cons _ (.cons_cons _ (.cons_cons _ (.cons _ (.cons_cons _ (List.nil_sublist _))))))))) (fun b18 hb18 => ?_)   -- 18
              refine lt_make (fun b => .pointer (some ⟨b, 0, none⟩)) rfl trivial (acts_alloc zD) rfl (fun _ _ _ h => h.only (.cons _ (.cons _ (.cons _ (.cons _ (.cons_cons _ (.cons_cons _ (.cons _ (.cons_cons _ (List.nil_sublist _)))))))))) (fun b16 hb16 => ?_)   -- 16
              refine lt_do rfl trivial (does_store_all 2 rfl rfl rfl (one_u8s _) Tryd.sizeOf23 (by show (List.map vU8 xx).length = _; rw [List.length_map]; exact hxxl) (by show (List.map vU8 zeros32).length = _; rw [List.length_map]; exact zeros32_len)) (fun _ _ _ _ h => h.only (.cons _ (.cons _ (.cons _ (.cons _ (.cons_cons _ (.cons_cons _ (.cons _ (.cons_cons _ (List.nil_sublist _)))))))))) (fun _ _ => ?_)
              refine lt_do rfl trivial (does_store_all 0 rfl rfl rfl (one_u8s _) Tryd.sizeOf23 (by show (List.map vU8 P).length = _; rw [List.length_map]; exact hPl) (by show (List.map vU8 zeros32).length = _; rw [List.length_map]; exact zeros32_len)) (fun _ _ _ _ h => h.only (.cons _ (.cons _ (.cons _ (.cons _ (.cons_cons _ (.cons_cons _ (.cons _ (.cons_cons _ (List.nil_sublist _)))))))))) (fun _ _ => ?_)
              refine lt_do rfl trivial (does_store_all 3 rfl rfl rfl (one_u8s _) Tryd.sizeOf23 (by show (List.map vU8 yy).length = _; rw [List.length_map]; exact hyyl) (by show (List.map vU8 zeros32).length = _; rw [List.length_map]; exact zeros32_len)) (fun _ _ _ _ h => h.only (.cons _ (.cons _ (.cons _ (.cons _ (.cons_cons _ (.cons_cons _ (.cons _ (.cons_cons _ (List.nil_sublist _)))))))))) (fun _ _ => ?_)
              refine lt_do rfl trivial (does_store_all 1 rfl rfl rfl (one_u8s _) Tryd.sizeOf23 (by show (List.map vU8 Q).length = _; rw [List.length_map]; exact hQl) (by show (List.map vU8 zeros32).length = _; rw [List.length_map]; exact zeros32_len)) (fun _ _ _ _ h => h.only (.cons _ (.cons _ (.cons _ (.cons _ (.cons_cons _ (.cons_cons _ (.cons _ (.cons_cons _ (List.nil_sublist _)))))))))) (fun _ _ => ?_)
              exact lt_done (fun w hm => ⟨(b15, b16, b17, b18), trivial, ⟨rfl, rfl, rfl, rfl, rfl, rfl, rfl, rfl, rfl, rfl, rfl, rfl, trivial⟩, (((hm.perm (.swap _ _ _)).perm (.cons _ (.cons _ (.swap _ _ _)))).perm (.cons _ (.swap _ _ _)))⟩)
            exact lt_stop
          refine lt_alt ?_ ?_
          · -- first 12
            refine lt_make (fun b => .pointer (some ⟨b, 0, none⟩)) rfl trivial (acts_alloc zD) rfl (fun _ _ _ h => h.only (.cons _ (.cons _ (.cons_cons _ (.cons_cons _ (.cons _ (.cons_cons _ (List.nil_sublist _)))))))) (fun b16 hb16 => ?_)   -- 16
            refine lt_alt ?_ ?_
            · -- first 11
              refine lt_make (fun b => .pointer (some ⟨b, 0, none⟩)) rfl trivial (acts_alloc zD) rfl (fun _ _ _ h => h.only (.cons _ (.cons _ (.cons _ (.cons_cons _ (.cons_cons _ (.cons _ (.cons_cons _ (List.nil_sublist _))))))))) (fun b15 hb15 => ?_)   -- 15
              refine lt_make (fun b => .pointer (some ⟨b, 0, none⟩)) rfl trivial (acts_alloc zD) rfl (fun _ _ _ h => h.only (.cons _ (.cons _ (.cons _ (.cons _ (.cons_cons _ (.cons_cons _ (.cons _ (.cons_cons _ (List.nil_sublist _)))))))))) (fun b18 hb18 => ?_)   -- 18
              refine lt_do rfl trivial (does_store_all 1 rfl rfl rfl (one_u8s _) Tryd.sizeOf23 (by show (List.map vU8 xx).length = _; rw [List.length_map]; exact hxxl) (by show (List.map vU8 zeros32).length = _; rw [List.length_map]; exact zeros32_len)) (fun _ _ _ _ h => h.only (.cons _ (.cons _ (.cons _ (.cons _ (.cons_cons _ (.cons_cons _ (.cons _ (.cons_cons _ (List.nil_sublist _)))))))))) (fun _ _ => ?_)
              refine lt_do rfl trivial (does_store_all 2 rfl rfl rfl (one_u8s _) Tryd.sizeOf23 (by show (List.map vU8 P).length = _; rw [List.length_map]; exact hPl) (by show (List.map vU8 zeros32).length = _; rw [List.length_map]; exact zeros32_len)) (fun _ _ _ _ h => h.only (.cons _ (.cons _ (.cons _ (.cons _ (.cons_cons _ (.cons_cons _ (.cons _ (.cons_cons _ (List.nil_sublist _)))))))))) (fun _ _ => ?_)
              refine lt_do rfl trivial (does_store_all 3 rfl rfl rfl (one_u8s _) Tryd.sizeOf23 (by show (List.map vU8 yy).length = _; rw [List.length_map]; exact hyyl) (by show (List.map vU8 zeros32).length = _; rw [List.length_map]; exact zeros32_len)) (fun _ _ _ _ h => h.only (.cons _ (.cons _ (.cons _ (.cons _ (.cons_cons _ (.cons_cons _ (.cons _ (.cons_cons _ (List.nil_sublist _)))))))))) (fun _ _ => ?_)
              refine lt_do rfl trivial (does_store_all 0 rfl rfl rfl (one_u8s _) Tryd.sizeOf23 (by show (List.map vU8 Q).length = _; rw [List.length_map]; exact hQl) (by show (List.map vU8 zeros32).length = _; rw [List.length_map]; exact zeros32_len)) (fun _ _ _ _ h => h.only (.cons _ (.cons _ (.cons _ (.cons _ (.cons_cons _ (.cons_cons _ (.cons _ (.cons_cons _ (List.nil_sublist _)))))))))) (fun _ _ => ?_)
              exact lt_done (fun w hm => ⟨(b15, b16, b17, b18), trivial, ⟨rfl, rfl, rfl, rfl, rfl, rfl, rfl, rfl, rfl, rfl, rfl, rfl, trivial⟩, (((hm.perm (.cons _ (.cons _ (.swap _ _ _)))).perm (.cons _ (.swap _ _ _))).perm (.cons _ (.cons _ (.swap _ _ _))))⟩)
            refine lt_alt ?_ ?_
            · -- first 14
              refine lt_make (fun b => .pointer (some ⟨b, 0, none⟩)) rfl trivial (acts_alloc zD) rfl (fun _ _ _ h => h.only (.cons _ (.cons _ (.cons _ (.cons_cons _ (.cons_cons _ (.cons _ (.cons_cons _ (List.nil_sublist _))))))))) (fun b18 hb18 => ?_)   -- 18
              refine lt_make (fun b => .pointer (some ⟨b, 0, none⟩)) rfl trivial (acts_alloc zD) rfl (fun _ _ _ h => h.only (.cons _ (.cons _ (.cons _ (.cons _ (.cons_cons _ (.cons_cons _ (.cons _ (.cons_cons _ (List.nil_sublist _)))))))))) (fun b15 hb15 => ?_)   -- 15
              refine lt_do rfl trivial (does_store_all 0 rfl rfl rfl (one_u8s _) Tryd.sizeOf23 (by show (List.map vU8 xx).length = _; rw [List.length_map]; exact hxxl) (by show (List.map vU8 zeros32).length = _; rw [List.length_map]; exact zeros32_len)) (fun _ _ _ _ h => h.only (.cons _ (.cons _ (.cons _ (.cons _ (.cons_cons _ (.cons_cons _ (.cons _ (.cons_cons _ (List.nil_sublist _)))))))))) (fun _ _ => ?_)
              refine lt_do rfl trivial (does_store_all 2 rfl rfl rfl (one_u8s _) Tryd.sizeOf23 (by show (List.map vU8 P).length = _; rw [List.length_map]; exact hPl) (by show (List.map vU8 zeros32).length = _; rw [List.length_map]; exact zeros32_len)) (fun _ _ _ _ h => h.only (.cons _ (.cons _ (.cons _ (.cons _ (.cons_cons _ (.cons_cons _ (.cons _ (.cons_cons _ (List.nil_sublist _)))))))))) (fun _ _ => ?_)
              refine lt_do rfl trivial (does_store_all 3 rfl rfl rfl (one_u8s _) Tryd.sizeOf23 (by show (List.map vU8 yy).length = _; rw [List.length_map]; exact hyyl) (by show (List.map vU8 zeros32).length = _; rw [List.length_map]; exact zeros32_len)) (fun _ _ _ _ h => h.only (.cons _ (.cons _ (.cons _ (.cons _ (.cons_cons _ (.cons_cons _ (.cons _ (.cons_cons _ (List.nil_sublist _)))))))))) (fun _ _ => ?_)
              refine lt_do rfl trivial (does_store_all 1 rfl rfl rfl (one_u8s _) Tryd.sizeOf23 (by show (List.map vU8 Q).length = _; rw [List.length_map]; exact hQl) (by show (List.map vU8 zeros32).length = _; rw [List.length_map]; exact zeros32_len)) (fun _ _ _ _ h => h.only (.cons _ (.cons _ (.cons _ (.cons _ (.cons_cons _ (.cons_cons _ (.cons _ (.cons_cons _ (List.nil_sublist _)))))))))) (fun _ _ => ?_)
              exact lt_done (fun w hm => ⟨(b15, b16, b17, b18), trivial, ⟨rfl, rfl, rfl, rfl, rfl, rfl, rfl, rfl, rfl, rfl, rfl, rfl, trivial⟩, ((((hm.perm (.swap _ _ _)).perm (.cons _ (.cons _ (.swap _ _ _)))).perm (.cons _ (.swap _ _ _))).perm (.cons _ (.cons _ (.swap _ _ _))))⟩)
            exact lt_stop
          refine lt_alt ?_ ?_
          · -- first 14
            refine lt_make (fun b => .pointer (some ⟨b, 0, none⟩)) rfl trivial (acts_alloc zD) rfl (fun _ _ _ h => h.only (.cons _ (.cons _ (.cons_cons _ (.cons_cons _ (.cons _ (.cons_cons _ (List.nil_sublist _)))))))) (fun b18 hb18 => ?_)   -- 18
            refine lt_alt ?_ ?_
            · -- first 11
              refine lt_make (fun b => .pointer (some ⟨b, 0, none⟩)) rfl trivial (acts_alloc zD) rfl (fun _ _ _ h => h.only (.cons _ (.cons _ (.cons _ (.cons_cons _ (.cons_cons _ (.cons _ (.cons_cons _ (List.nil_sublist _))))))))) (fun b15 hb15 => ?_)   -- 15
              refine lt_make (fun b => .pointer (some ⟨b, 0, none⟩)) rfl trivial (acts_alloc zD) rfl (fun _ _ _ h => h.only (.cons _ (.cons _ (.cons _ (.cons _ (.cons_cons _ (.cons_cons _ (.cons _ (.cons_cons _ (List.nil_sublist _)))))))))) (fun b16 hb16 => ?_)   -- 16
              refine lt_do rfl trivial (does_store_all 1 rfl rfl rfl (one_u8s _) Tryd.sizeOf23 (by show (List.map vU8 xx).length = _; rw [List.length_map]; exact hxxl) (by show (List.map vU8 zeros32).length = _; rw [List.length_map]; exact zeros32_len)) (fun _ _ _ _ h => h.only (.cons _ (.cons _ (.cons _ (.cons _ (.cons_cons _ (.cons_cons _ (.cons _ (.cons_cons _ (List.nil_sublist _)))))))))) (fun _ _ => ?_)
              refine lt_do rfl trivial (does_store_all 0 rfl rfl rfl (one_u8s _) Tryd.sizeOf23 (by show (List.map vU8 P).length = _; rw [List.length_map]; exact hPl) (by show (List.map vU8 zeros32).length = _; rw [List.length_map]; exact zeros32_len)) (fun _ _ _ _ h => h.only (.cons _ (.cons _ (.cons _ (.cons _ (.cons_cons _ (.cons_cons _ (.cons _ (.cons_cons _ (List.nil_sublist _)))))))))) (fun _ _ => ?_)
              refine lt_do rfl trivial (does_store_all 3 rfl rfl rfl (one_u8s _) Tryd.sizeOf23 (by show (List.map vU8 yy).length = _; rw [List.length_map]; exact hyyl) (by show (List.map vU8 zeros32).length = _; rw [List.length_map]; exact zeros32_len)) (fun _ _ _ _ h => h.only (.cons _ (.cons _ (.cons _ (.cons _ (.cons_cons _ (.cons_cons _ (.cons _ (.cons_cons _ (List.nil_sublist _)))))))))) (fun _ _ => ?_)
              refine lt_do rfl trivial (does_store_all 2 rfl rfl rfl (one_u8s _) Tryd.sizeOf23 (by show (List.map vU8 Q).length = _; rw [List.length_map]; exact hQl) (by show (List.map vU8 zeros32).length = _; rw [List.length_map]; exact zeros32_len)) (fun _ _ _ _ h => h.only (.cons _ (.cons _ (.cons _ (.cons _ (.cons_cons _ (.cons_cons _ (.cons _ (.cons_cons _ (List.nil_sublist _)))))))))) (fun _ _ => ?_)
              exact lt_done (fun w hm => ⟨(b15, b16, b17, b18), trivial, ⟨rfl, rfl, rfl, rfl, rfl, rfl, rfl, rfl, rfl, rfl, rfl, rfl, trivial⟩, ((((hm.perm (.cons _ (.swap _ _ _))).perm (.swap _ _ _)).perm (.cons _ (.cons _ (.swap _ _ _)))).perm (.cons _ (.swap _ _ _)))⟩)
            refine lt_alt ?_ ?_
            · -- first 12
              refine lt_make (fun b => .pointer (some ⟨b, 0, none⟩)) rfl trivial (acts_alloc zD) rfl (fun _ _ _ h => h.only (.cons _ (.cons _ (.cons _ (.cons_cons _ (.cons_cons _ (.cons _ (.cons_cons _ (List.nil_sublist _))))))))) (fun b16 hb16 => ?_)   -- 16
              refine lt_make (fun b => .pointer (some ⟨b, 0, none⟩)) rfl trivial (acts_alloc zD) rfl (fun _ _ _ h => h.only (.cons _ (.cons _ (.cons _ (.cons _ (.cons_cons _ (.cons_cons _ (.cons _ (.cons_cons _ (List.nil_sublist _)))))))))) (fun b15 hb15 => ?_)   -- 15
              refine lt_do rfl trivial (does_store_all 0 rfl rfl rfl (one_u8s _) Tryd.sizeOf23 (by show (List.map vU8 xx).length = _; rw [List.length_map]; exact hxxl) (by show (List.map vU8 zeros32).length = _; rw [List.length_map]; exact zeros32_len)) (fun _ _ _ _ h => h.only (.cons _ (.cons _ (.cons _ (.cons _ (.cons_cons _ (.cons_cons _ (.cons _ (.cons_cons _ (List.nil_sublist _)))))))))) (fun _ _ => ?_)
              refine lt_do rfl trivial (does_store_all 1 rfl rfl rfl (one_u8s _) Tryd.sizeOf23 (by show (List.map vU8 P).length = _; rw [List.length_map]; exact hPl) (by show (List.map vU8 zeros32).length = _; rw [List.length_map]; exact zeros32_len)) (fun _ _ _ _ h => h.only (.cons _ (.cons _ (.cons _ (.cons _ (.cons_cons _ (.cons_cons _ (.cons _ (.cons_cons _ (List.nil_sublist _)))))))))) (fun _ _ => ?_)
              refine lt_do rfl trivial (does_store_all 3 rfl rfl rfl (one_u8s _) Tryd.sizeOf23 (by show (List.map vU8 yy).length = _; rw [List.length_map]; exact hyyl) (by show (List.map vU8 zeros32).length = _; rw [List.length_map]; exact zeros32_len)) (fun _ _ _ _ h => h.only (.cons _ (.cons _ (.cons _ (.cons _ (.cons_cons _ (.cons_cons _ (.cons _ (.cons_cons _ (List.nil_sublist _)))))))))) (fun _ _ => ?_)
              refine lt_do rfl trivial (does_store_all 2 rfl rfl rfl (one_u8s _) Tryd.sizeOf23 (by show (List.map vU8 Q).length = _; rw [List.length_map]; exact hQl) (by show (List.map vU8 zeros32).length = _; rw [List.length_map]; exact zeros32_len)) (fun _ _ _ _ h => h.only (.cons _ (.cons _ (.cons _ (.cons _ (.cons_cons _ (.cons_cons _ (.cons _ (.cons_cons _ (List.nil_sublist _)))))))))) (fun _ _ => ?_)
              exact lt_done (fun w hm => ⟨(b15, b16, b17, b18), trivial, ⟨rfl, rfl, rfl, rfl, rfl, rfl, rfl, rfl, rfl, rfl, rfl, rfl, trivial⟩, (((((hm.perm (.cons _ (.swap _ _ _))).perm (.swap _ _ _)).perm (.cons _ (.cons _ (.swap _ _ _)))).perm (.cons _ (.swap _ _ _))).perm (.cons _ (.cons _ (.swap _ _ _))))⟩)
            exact lt_stop
          exact lt_stop
        refine lt_alt ?_ ?_
        · -- first 14
          refine lt_make (fun b => .pointer (some ⟨b, 0, none⟩)) rfl trivial (acts_alloc zD) rfl (fun _ _ _ h => h.only (.cons _ (.cons_cons _ (.cons_cons _ (.cons _ (.cons_cons _ (List.nil_sublist _))))))) (fun b18 hb18 => ?_)   -- 18
          refine lt_alt ?_ ?_
          · -- first 11
            refine lt_make (fun b => .pointer (some ⟨b, 0, none⟩)) rfl trivial (acts_alloc zD) rfl (fun _ _ _ h => h.only (.cons _ (.cons _ (.cons_cons _ (.cons_cons _ (.cons _ (.cons_cons _ (List.nil_sublist _)))))))) (fun b15 hb15 => ?_)   -- 15
            refine lt_alt ?_ ?_
            · -- first 12
              refine lt_make (fun b => .pointer (some ⟨b, 0, none⟩)) rfl trivial (acts_alloc zD) rfl (fun _ _ _ h => h.only (.cons _ (.cons _ (.cons _ (.cons_cons _ (.cons_cons _ (.cons _ (.cons_cons _ (List.nil_sublist _))))))))) (fun b16 hb16 => ?_)   -- 16
              refine lt_make (fun b => .pointer (some ⟨b, 0, none⟩)) rfl trivial (acts_alloc zD) rfl (fun _ _ _ h => h.only (.cons _ (.cons _ (.cons _ (.cons _ (.cons_cons _ (.cons_cons _ (.cons _ (.cons_cons _ (List.nil_sublist _)))))))))) (fun b17 hb17 => ?_)   -- 17
              refine lt_do rfl trivial (does_store_all 2 rfl rfl rfl (one_u8s _) Tryd.sizeOf23 (by show (List.map vU8 xx).length = _; rw [List.length_map]; exact hxxl) (by show (List.map vU8 zeros32).length = _; rw [List.length_map]; exact zeros32_len)) (fun _ _ _ _ h => h.only (.cons _ (.cons _ (.cons _ (.cons _ (.cons_cons _ (.cons_cons _ (.cons _ (.cons_cons _ (List.nil_sublist _)))))))))) (fun _ _ => ?_)
              refine lt_do rfl trivial (does_store_all 1 rfl rfl rfl (one_u8s _) Tryd.sizeOf23 (by show (List.map vU8 P).length = _; rw [List.length_map]; exact hPl) (by show (List.map vU8 zeros32).length = _; rw [List.length_map]; exact zeros32_len)) (fun _ _ _ _ h => h.only (.cons _ (.cons _ (.cons _ (.cons _ (.cons_cons _ (.cons_cons _ (.cons _ (.cons_cons _ (List.nil_sublist _)))))))))) (fun _ _ => ?_)
              refine lt_do rfl trivial (does_store_all 0 rfl rfl rfl (one_u8s _) Tryd.sizeOf23 (by show (List.map vU8 yy).length = _; rw [List.length_map]; exact hyyl) (by show (List.map vU8 zeros32).length = _; rw [List.length_map]; exact zeros32_len)) (fun _ _ _ _ h => h.only (.cons _ (.cons _ (.cons _ (.cons _ (.cons_cons _ (.cons_cons _ (.cons _ (.cons_cons _ (List.nil_sublist _)))))))))) (fun _ _ => ?_)
              refine lt_do rfl trivial (does_store_all 3 rfl rfl rfl (one_u8s _) Tryd.sizeOf23 (by show (List.map vU8 Q).length = _; rw [List.length_map]; exact hQl) (by show (List.map vU8 zeros32).length = _; rw [List.length_map]; exact zeros32_len)) (fun _ _ _ _ h => h.only (.cons _ (.cons _ (.cons _ (.cons _ (.cons_cons _ (.cons_cons _ (.cons _ (.cons_cons _ (List.nil_sublist _)))))))))) (fun _ _ => ?_)
              exact lt_done (fun w hm => ⟨(b15, b16, b17, b18), trivial, ⟨rfl, rfl, rfl, rfl, rfl, rfl, rfl, rfl, rfl, rfl, rfl, rfl, trivial⟩, (((hm.perm (.cons _ (.cons _ (.swap _ _ _)))).perm (.cons _ (.swap _ _ _))).perm (.swap _ _ _))⟩)
            refine lt_alt ?_ ?_
            · -- first 13
              refine lt_make (fun b => .pointer (some ⟨b, 0, none⟩)) rfl trivial (acts_alloc zD) rfl (fun _ _ _ h => h.only (.cons _ (.cons _ (.cons _ (.cons_cons _ (.cons_cons _ (.cons _ (.cons_cons _ (List.nil_sublist _))))))))) (fun b17 hb17 => ?_)   -- 17
              refine lt_make (fun b => .pointer (some ⟨b, 0, none⟩)) rfl trivial (acts_alloc zD) rfl (fun _ _ _ h => h.only (.cons _ (.cons _ (.cons _ (.cons _ (.cons_cons _ (.cons_cons _ (.cons _ (.cons_cons _ (List.nil_sublist _)))))))))) (fun b16 hb16 => ?_)   -- 16
              refine lt_do rfl trivial (does_store_all 2 rfl rfl rfl (one_u8s _) Tryd.sizeOf23 (by show (List.map vU8 xx).length = _; rw [List.length_map]; exact hxxl) (by show (List.map vU8 zeros32).length = _; rw [List.length_map]; exact zeros32_len)) (fun _ _ _ _ h => h.only (.cons _ (.cons _ (.cons _ (.cons _ (.cons_cons _ (.cons_cons _ (.cons _ (.cons_cons _ (List.nil_sublist _)))))))))) (fun _ _ => ?_)
              refine lt_do rfl trivial (does_store_all 0 rfl rfl rfl (one_u8s _) Tryd.sizeOf23 (by show (List.map vU8 P).length = _; rw [List.length_map]; exact hPl) (by show (List.map vU8 zeros32).length = _; rw [List.length_map]; exact zeros32_len)) (fun _ _ _ _ h => h.only (.cons _ (.cons _ (.cons _ (.cons _ (.cons_cons _ (.cons_cons _ (.cons _ (.cons_cons _ (List.nil_sublist _)))))))))) (fun _ _ => ?_)
              refine lt_do rfl trivial (does_store_all 1 rfl rfl rfl (one_u8s _) Tryd.sizeOf23 (by show (List.map vU8 yy).length = _; rw [List.length_map]; exact hyyl) (by show (List.map vU8 zeros32).length = _; rw [List.length_map]; exact zeros32_len)) (fun _ _ _ _ h => h.only (.cons _ (.cons _ (.cons _ (.cons _ (.cons_cons _ (.cons_cons _ (.cons _ (.cons_cons _ (List.nil_sublist _)))))))))) (fun _ _ => ?_)
              refine lt_do rfl trivial (does_store_all 3 rfl rfl rfl (one_u8s _) Tryd.sizeOf23 (by show (List.map vU8 Q).length = _; rw [List.length_map]; exact hQl) (by show (List.map vU8 zeros32).length = _; rw [List.length_map]; exact zeros32_len)) (fun _ _ _ _ h => h.only (.cons _ (.cons _ (.cons _ (.cons _ (.cons_cons _ (.cons_cons _ (.cons _ (.cons_cons _ (List.nil_sublist _)))))))))) (fun _ _ => ?_)
              exact lt_done (fun w hm => ⟨(b15, b16, b17, b18), trivial, ⟨rfl, rfl, rfl, rfl, rfl, rfl, rfl, rfl, rfl, rfl, rfl, rfl, trivial⟩, ((((hm.perm (.cons _ (.cons _ (.swap _ _ _)))).perm (.cons _ (.swap _ _ _))).perm (.swap _ _ _)).perm (.cons _ (.swap _ _ _)))⟩)
            exact lt_stop
          refine lt_alt ?_ ?_
          · -- first 12
            refine lt_make (fun b => .pointer (some ⟨b, 0, none⟩)) rfl trivial (acts_alloc zD) rfl (fun _ _ _ h => h.only (.cons _ (.cons _ (.cons_cons _ (.cons_cons _ (.cons _ (.cons_cons _ (List.nil_sublist _)))))))) (fun b16 hb16 => ?_)   -- 16
            refine lt_alt ?_ ?_
            · -- first 11
              refine lt_make (fun b => .pointer (some ⟨b, 0, none⟩)) rfl trivial (acts_alloc zD) rfl (fun _ _ _ h => h.only (.cons _ (.cons _ (.cons _ (.cons_cons _ (.cons_cons _ (.cons _ (.cons_cons _ (List.nil_sublist _))))))))) (fun b15 hb15 => ?_)   -- 15
              refine lt_make (fun b => .pointer (some ⟨b, 0, none⟩)) rfl trivial (acts_alloc zD) rfl (fun _ _ _ h => h.only (.cons _ (.cons _ (.cons _ (.cons _ (.cons_cons _ (.cons_cons _ (.cons _ (.cons_cons _ (List.nil_sublist _)))))))))) (fun b17 hb17 => ?_)   -- 17
              refine lt_do rfl trivial (does_store_all 1 rfl rfl rfl (one_u8s _) Tryd.sizeOf23 (by show (List.map vU8 xx).length = _; rw [List.length_map]; exact hxxl) (by show (List.map vU8 zeros32).length = _; rw [List.length_map]; exact zeros32_len)) (fun _ _ _ _ h => h.only (.cons _ (.cons _ (.cons _ (.cons _ (.cons_cons _ (.cons_cons _ (.cons _ (.cons_cons _ (List.nil_sublist _)))))))))) (fun _ _ => ?_)
              refine lt_do rfl trivial (does_store_all 2 rfl rfl rfl (one_u8s _) Tryd.sizeOf23 (by show (List.map vU8 P).length = _; rw [List.length_map]; exact hPl) (by show (List.map vU8 zeros32).length = _; rw [List.length_map]; exact zeros32_len)) (fun _ _ _ _ h => h.only (.cons _ (.cons _ (.cons _ (.cons _ (.cons_cons _ (.cons_cons _ (.cons _ (.cons_cons _ (List.nil_sublist _)))))))))) (fun _ _ => ?_)
              refine lt_do rfl trivial (does_store_all 0 rfl rfl rfl (one_u8s _) Tryd.sizeOf23 (by show (List.map vU8 yy).length = _; rw [List.length_map]; exact hyyl) (by show (List.map vU8 zeros32).length = _; rw [List.length_map]; exact zeros32_len)) (fun _ _ _ _ h => h.only (.cons _ (.cons _ (.cons _ (.cons _ (.cons_cons _ (.cons_cons _ (.cons _ (.cons_cons _ (List.nil_sublist _)))))))))) (fun _ _ => ?_)
              refine lt_do rfl trivial (does_store_all 3 rfl rfl rfl (one_u8s _) Tryd.sizeOf23 (by show (List.map vU8 Q).length = _; rw [List.length_map]; exact hQl) (by show (List.map vU8 zeros32).length = _; rw [List.length_map]; exact zeros32_len)) (fun _ _ _ _ h => h.only (.cons _ (.cons _ (.cons _ (.cons _ (.cons_cons _ (.cons_cons _ (.cons _ (.cons_cons _ (List.nil_sublist _)))))))))) (fun _ _ => ?_)
              exact lt_done (fun w hm => ⟨(b15, b16, b17, b18), trivial, ⟨rfl, rfl, rfl, rfl, rfl, rfl, rfl, rfl, rfl, rfl, rfl, rfl, trivial⟩, ((((hm.perm (.cons _ (.cons _ (.swap _ _ _)))).perm (.cons _ (.swap _ _ _))).perm (.swap _ _ _)).perm (.cons _ (.cons _ (.swap _ _ _))))⟩)
            refine lt_alt ?_ ?_
            · -- first 13
              refine lt_make (fun b => .pointer (some ⟨b, 0, none⟩)) rfl trivial (acts_alloc zD) rfl (fun _ _ _ h => h.only (.cons _ (.cons _ (.cons _ (.cons_cons _ (.cons_cons _ (.cons _ (.cons_cons _ (List.nil_sublist _))))))))) (fun b17 hb17 => ?_)   -- 17
              refine lt_make (fun b => .pointer (some ⟨b, 0, none⟩)) rfl trivial (acts_alloc zD) rfl (fun _ _ _ h => h.only (.cons _ (.cons _ (.cons _ (.cons _ (.cons_cons _ (.cons_cons _ (.cons _ (.cons_cons _ (List.nil_sublist _)))))))))) (fun b15 hb15 => ?_)   -- 15
              refine lt_do rfl trivial (does_store_all 0 rfl rfl rfl (one_u8s _) Tryd.sizeOf23 (by show (List.map vU8 xx).length = _; rw [List.length_map]; exact hxxl) (by show (List.map vU8 zeros32).length = _; rw [List.length_map]; exact zeros32_len)) (fun _ _ _ _ h => h.only (.cons _ (.cons _ (.cons _ (.cons _ (.cons_cons _ (.cons_cons _ (.cons _ (.cons_cons _ (List.nil_sublist _)))))))))) (fun _ _ => ?_)
              refine lt_do rfl trivial (does_store_all 2 rfl rfl rfl (one_u8s _) Tryd.sizeOf23 (by show (List.map vU8 P).length = _; rw [List.length_map]; exact hPl) (by show (List.map vU8 zeros32).length = _; rw [List.length_map]; exact zeros32_len)) (fun _ _ _ _ h => h.only (.cons _ (.cons _ (.cons _ (.cons _ (.cons_cons _ (.cons_cons _ (.cons _ (.cons_cons _ (List.nil_sublist _)))))))))) (fun _ _ => ?_)
              refine lt_do rfl trivial (does_store_all 1 rfl rfl rfl (one_u8s _) Tryd.sizeOf23 (by show (List.map vU8 yy).length = _; rw [List.length_map]; exact hyyl) (by show (List.map vU8 zeros32).length = _; rw [List.length_map]; exact zeros32_len)) (fun _ _ _ _ h => h.only (.cons _ (.cons _ (.cons _ (.cons _ (.cons_cons _ (.cons_cons _ (.cons _ (.cons_cons _ (List.nil_sublist _)))))))))) (fun _ _ => ?_)
              refine lt_do rfl trivial (does_store_all 3 rfl rfl rfl (one_u8s _) Tryd.sizeOf23 (by show (List.map vU8 Q).length = _; rw [List.length_map]; exact hQl) (by show (List.map vU8 zeros32).length = _; rw [List.length_map]; exact zeros32_len)) (fun _ _ _ _ h => h.only (.cons _ (.cons _ (.cons _ (.cons _ (.cons_cons _ (.cons_cons _ (.cons _ (.cons_cons _ (List.nil_sublist _)))))))))) (fun _ _ => ?_)
              exact lt_done (fun w hm => ⟨(b15, b16, b17, b18), trivial, ⟨rfl, rfl, rfl, rfl, rfl, rfl, rfl, rfl, rfl, rfl, rfl, rfl, trivial⟩, (((((hm.perm (.cons _ (.cons _ (.swap _ _ _)))).perm (.cons _ (.swap _ _ _))).perm (.swap _ _ _)).perm (.cons _ (.swap _ _ _))).perm (.cons _ (.cons _ (.swap _ _ _))))⟩)
            exact lt_stop
          refine lt_alt ?_ ?_
          · -- first 13
            refine lt_make (fun b => .pointer (some ⟨b, 0, none⟩)) rfl trivial (acts_alloc zD) rfl (fun _ _ _ h => h.only (.cons _ (.cons _ (.cons_cons _ (.cons_cons _ (.cons _ (.cons_cons _ (List.nil_sublist _)))))))) (fun b17 hb17 => ?_)   -- 17
            refine lt_alt ?_ ?_
            · -- first 11
              refine lt_make (fun b => .pointer (some ⟨b, 0, none⟩)) rfl trivial (acts_alloc zD) rfl (fun _ _ _ h => h.only (.cons _ (.cons _ (.cons _ (.cons_cons _ (.cons_cons _ (.cons _ (.cons_cons _ (List.nil_sublist _))))))))) (fun b15 hb15 => ?_)   -- 15
              refine lt_make (fun b => .pointer (some ⟨b, 0, none⟩)) rfl trivial (acts_alloc zD) rfl (fun _ _ _ h => h.only (.cons _ (.cons _ (.cons _ (.cons _ (.cons_cons _ (.cons_cons _ (.cons _ (.cons_cons _ (List.nil_sublist _)))))))))) (fun b16 hb16 => ?_)   -- 16
              refine lt_do rfl trivial (does_store_all 1 rfl rfl rfl (one_u8s _) Tryd.sizeOf23 (by show (List.map vU8 xx).length = _; rw [List.length_map]; exact hxxl) (by show (List.map vU8 zeros32).length = _; rw [List.length_map]; exact zeros32_len)) (fun _ _ _ _ h => h.only (.cons _ (.cons _ (.cons _ (.cons _ (.cons_cons _ (.cons_cons _ (.cons _ (.cons_cons _ (List.nil_sublist _)))))))))) (fun _ _ => ?_)
              refine lt_do rfl trivial (does_store_all 0 rfl rfl rfl (one_u8s _) Tryd.sizeOf23 (by show (List.map vU8 P).length = _; rw [List.length_map]; exact hPl) (by show (List.map vU8 zeros32).length = _; rw [List.length_map]; exact zeros32_len)) (fun _ _ _ _ h => h.only (.cons _ (.cons _ (.cons _ (.cons _ (.cons_cons _ (.cons_cons _ (.cons _ (.cons_cons _ (List.nil_sublist _)))))))))) (fun _ _ => ?_)
              refine lt_do rfl trivial (does_store_all 2 rfl rfl rfl (one_u8s _) Tryd.sizeOf23 (by show (List.map vU8 yy).length = _; rw [List.length_map]; exact hyyl) (by show (List.map vU8 zeros32).length = _; rw [List.length_map]; exact zeros32_len)) (fun _ _ _ _ h => h.only (.cons _ (.cons _ (.cons _ (.cons _ (.cons_cons _ (.cons_cons _ (.cons _ (.cons_cons _ (List.nil_sublist _)))))))))) (fun _ _ => ?_)
              refine lt_do rfl trivial (does_store_all 3 rfl rfl rfl (one_u8s _) Tryd.sizeOf23 (by show (List.map vU8 Q).length = _; rw [List.length_map]; exact hQl) (by show (List.map vU8 zeros32).length = _; rw [List.length_map]; exact zeros32_len)) (fun _ _ _ _ h => h.only (.cons _ (.cons _ (.cons _ (.cons _ (.cons_cons _ (.cons_cons _ (.cons _ (.cons_cons _ (List.nil_sublist _)))))))))) (fun _ _ => ?_)
              exact lt_done (fun w hm => ⟨(b15, b16, b17, b18), trivial, ⟨rfl, rfl, rfl, rfl, rfl, rfl, rfl, rfl, rfl, rfl, rfl, rfl, trivial⟩, (((((hm.perm (.cons _ (.cons _ (.swap _ _ _)))).perm (.cons _ (.swap _ _ _))).perm (.swap _ _ _)).perm (.cons _ (.cons _ (.swap _ _ _)))).perm (.cons _ (.swap _ _ _)))⟩)
            refine lt_alt ?_ ?_
            · -- first 12
              refine lt_make (fun b => .pointer (some ⟨b, 0, none⟩)) rfl trivial (acts_alloc zD) rfl (fun _ _ _ h => h.only (.cons _ (.cons _ (.cons _ (.cons_cons _ (.cons_cons _ (.cons _ (.cons_cons _ (List.nil_sublist _))))))))) (fun b16 hb16 => ?_)   -- 16
              refine lt_make (fun b => .pointer (some ⟨b, 0, none⟩)) rfl trivial (acts_alloc zD) rfl (fun _ _ _ h => h.only (.cons _ (.cons _ (.cons _ (.cons _ (.cons_cons _ (.cons_cons _ (.cons _ (.cons_cons _ (List.nil_sublist _)))))))))) (fun b15 hb15 => ?_)   -- 15
              refine lt_do rfl trivial (does_store_all 0 rfl rfl rfl (one_u8s _) Tryd.sizeOf23 (by show (List.map vU8 xx).length = _; rw [List.length_map]; exact hxxl) (by show (List.map vU8 zeros32).length = _; rw [List.length_map]; exact zeros32_len)) (fun _ _ _ _ h => h.only (.cons _ (.cons _ (.cons _ (.cons _ (.cons_cons _ (.cons_cons _ (.cons _ (.cons_cons _ (List.nil_sublist _)))))))))) (fun _ _ => ?_)
              refine lt_do rfl trivial (does_store_all 1 rfl rfl rfl (one_u8s _) Tryd.sizeOf23 (by show (List.map vU8 P).length = _; rw [List.length_map]; exact hPl) (by show (List.map vU8 zeros32).length = _; rw [List.length_map]; exact zeros32_len)) (fun _ _ _ _ h => h.only (.cons _ (.cons _ (.cons _ (.cons _ (.cons_cons _ (.cons_cons _ (.cons _ (.cons_cons _ (List.nil_sublist _)))))))))) (fun _ _ => ?_)
              refine lt_do rfl trivial (does_store_all 2 rfl rfl rfl (one_u8s _) Tryd.sizeOf23 (by show (List.map vU8 yy).length = _; rw [List.length_map]; exact hyyl) (by show (List.map vU8 zeros32).length = _; rw [List.length_map]; exact zeros32_len)) (fun _ _ _ _ h => h.only (.cons _ (.cons _ (.cons _ (.cons _ (.cons_cons _ (.cons_cons _ (.cons _ (.cons_cons _ (List.nil_sublist _)))))))))) (fun _ _ => ?_)
              refine lt_do rfl trivial (does_store_all 3 rfl rfl rfl (one_u8s _) Tryd.sizeOf23 (by show (List.map vU8 Q).length = _; rw [List.length_map]; exact hQl) (by show (List.map vU8 zeros32).length = _; rw [List.length_map]; exact zeros32_len)) (fun _ _ _ _ h => h.only (.cons _ (.cons _ (.cons _ (.cons _ (.cons_cons _ (.cons_cons _ (.cons _ (.cons_cons _ (List.nil_sublist _)))))))))) (fun _ _ => ?_)
              exact lt_done (fun w hm => ⟨(b15, b16, b17, b18), trivial, ⟨rfl, rfl, rfl, rfl, rfl, rfl, rfl, rfl, rfl, rfl, rfl, rfl, trivial⟩, ((((((hm.perm (.cons _ (.cons _ (.swap _ _ _)))).perm (.cons _ (.swap _ _ _))).perm (.swap _ _ _)).perm (.cons _ (.cons _ (.swap _ _ _)))).perm (.cons _ (.swap _ _ _))).perm (.cons _ (.cons _ (.swap _ _ _))))⟩)
            exact lt_stop
          exact lt_stop
        exact lt_stop
      · -- rest
        rintro ⟨b15, b16, b17, b18⟩ -
        refine sw_seq ?_
        refine sw_seq ?_
        refine sw_region ?_
        refine ow_val (val_move rfl) rfl ?_   -- 93
        refine ow_val (val_move rfl) rfl ?_   -- 94
        refine ow_val (val_len rfl Tryd.underlying44) rfl ?_   -- 95
        refine ow_val (val_sub_int ((proof.length - 1 : Nat) : Int) rfl rfl (by omega) (by omega)) rfl ?_   -- 96
        refine ow_val (val_move rfl) rfl ?_   -- 97
        refine ow_val (val_sub_int ((proof.length - 1 - j : Nat) : Int) rfl rfl (by omega) (by omega)) rfl ?_   -- 98
        refine ow_val (val_indexAddr_slice (proof.length - 1 - j) (proof.length - 1 - j) rfl rfl Tryd.underlying44 Tryd.sizeOf4 (by omega) (by omega) (by omega)) rfl ?_   -- 99
        refine ow_val (val_load_at 6 rfl rfl Tryd.isAgg4 (by rw [List.getElem?_append_left (by rw [List.length_map, hwl]; omega)]; exact get_map Value.bool ws _ (by omega))) rfl ?_   -- 100
        by_cases hwj0 : (ws.getD (proof.length - 1 - j) default) = false
        · -- yes
          have hwj := hwj0
          refine ow_val ((val_not rfl).to (congrArg Value.bool (show (!_) = true by rw [hwj0]; rfl))) rfl ?_   -- 101
          refine ow_nil (into ?_)
          refine sw_true rfl rfl ?_
          refine sw_region_tree _ [4, 5, 6, 7] (.one 0 1 (.one 1 1 (.one 3 1 (.alt 2 (.one 4 2 (.one 5 2 (.one 6 2 (.one 7 2 .done)))) (.alt 4 (.alt 2 (.one 5 2 (.one 6 2 (.one 7 2 .done))) (.alt 5 (.one 2 2 (.one 6 2 (.one 7 2 .done))) .stop)) .stop))))) (by kernel_rfl) (by kernel_rfl) (fun _ _ _ h => h) (fun _ h => h) (fun _ h => h.drawn _) ?_
          refine lt_held rfl trivial (val_load_all 2 rfl rfl Tryd.isAgg23 Tryd.sizeOf23 (by show (List.map vU8 P).length = _; rw [List.length_map]; exact hPl)) rfl ?_   -- 102
          refine lt_held rfl trivial (val_load_all 3 rfl rfl Tryd.isAgg23 Tryd.sizeOf23 (by show (List.map vU8 xx).length = _; rw [List.length_map]; exact hxxl)) rfl ?_   -- 103
          refine lt_held rfl trivial (val_load_all 1 rfl rfl Tryd.isAgg23 Tryd.sizeOf23 (by show (List.map vU8 yy).length = _; rw [List.length_map]; exact hyyl)) rfl ?_   -- 105
          refine lt_alt ?_ ?_
          · -- first 2
            refine lt_val rfl trivial (val_load_all 0 rfl rfl Tryd.isAgg23 Tryd.sizeOf23 (by show (List.map vU8 Q).length = _; rw [List.length_map]; exact hQl)) rfl (fun _ _ h => h) ?_   -- 104
            refine lt_do rfl trivial (does_store_all 3 rfl rfl rfl (one_u8s _) Tryd.sizeOf23 (by show (List.map vU8 P).length = _; rw [List.length_map]; exact hPl) (by show (List.map vU8 xx).length = _; rw [List.length_map]; exact hxxl)) (fun h => nomatch h) (fun _ _ => ?_)
            refine lt_do rfl trivial (does_store_all 2 rfl rfl rfl (one_u8s _) Tryd.sizeOf23 (by show (List.map vU8 xx).length = _; rw [List.length_map]; exact hxxl) (by show (List.map vU8 P).length = _; rw [List.length_map]; exact hPl)) (fun h => nomatch h) (fun _ _ => ?_)
            refine lt_do rfl trivial (does_store_all 1 rfl rfl rfl (one_u8s _) Tryd.sizeOf23 (by show (List.map vU8 Q).length = _; rw [List.length_map]; exact hQl) (by show (List.map vU8 yy).length = _; rw [List.length_map]; exact hyyl)) (fun h => nomatch h) (fun _ _ => ?_)
            refine lt_do rfl trivial (does_store_all 0 rfl rfl rfl (one_u8s _) Tryd.sizeOf23 (by show (List.map vU8 yy).length = _; rw [List.length_map]; exact hyyl) (by show (List.map vU8 Q).length = _; rw [List.length_map]; exact hQl)) (fun h => nomatch h) (fun _ _ => ?_)
            refine lt_done (into ?_)
            refine sw_seq ?_
            refine sw_region ?_
            refine ow_val (val_fieldAddr (m := 0) (e := 0) rfl Tryd.underlying27 rfl rfl Tryd.sizeOf3 rfl) rfl ?_   -- 107
            refine ow_val (val_load_at 7 rfl rfl Tryd.isAgg3 rfl) rfl ?_   -- 108
            refine ow_val (val_load_all 3 rfl rfl Tryd.isAgg23 Tryd.sizeOf23 (by show (List.map vU8 P).length = _; rw [List.length_map]; exact hPl)) rfl ?_   -- 109
            refine ow_val (val_load_all 2 rfl rfl Tryd.isAgg23 Tryd.sizeOf23 (by show (List.map vU8 xx).length = _; rw [List.length_map]; exact hxxl)) rfl ?_   -- 110
            refine ow_call_pure (v := .tuple #[.agg ((nd k P xx).map vU8).toArray, vInt ((0 : Nat) : Int)]) (callsTo Tryd.func21 rfl (by kernel_rfl) rfl) rfl (fun w hm => (by have h := node_any w (hK.mem0 hm) (k : Int) P xx hPl hxxl; rw [digO_node h1 h2 hPf hxxf] at h; exact h)) ?_   -- 111
            refine ow_val (val_move rfl) rfl ?_   -- 106
            refine ow_val (val_extract rfl rfl) rfl ?_   -- 112
            refine ow_val (val_extract rfl rfl) rfl ?_   -- 113
            refine ow_new (acts_alloc zD) rfl (fun b19 hb19 => ?_)   -- 19
            refine ow_do_eq (does_store_all 0 rfl rfl rfl (one_u8s _) Tryd.sizeOf23 (by show (List.map vU8 (nd k P xx)).length = _; rw [List.length_map]; exact (nd_len _ _ _ h2)) (by show (List.map vU8 zeros32).length = _; rw [List.length_map]; exact zeros32_len)) ?_
            refine ow_val (val_assign rfl) rfl ?_   -- 20
            refine ow_nil (into ?_)
            refine sw_seq ?_
            refine sw_region ?_
            refine ow_val (val_fieldAddr (m := 0) (e := 0) rfl Tryd.underlying27 rfl rfl Tryd.sizeOf3 rfl) rfl ?_   -- 115
            refine ow_val (val_load_at 8 rfl rfl Tryd.isAgg3 rfl) rfl ?_   -- 116
            refine ow_val (val_load_all 2 rfl rfl Tryd.isAgg23 Tryd.sizeOf23 (by show (List.map vU8 Q).length = _; rw [List.length_map]; exact hQl)) rfl ?_   -- 117
            refine ow_val (val_load_all 1 rfl rfl Tryd.isAgg23 Tryd.sizeOf23 (by show (List.map vU8 yy).length = _; rw [List.length_map]; exact hyyl)) rfl ?_   -- 118
            refine ow_call_pure (v := .tuple #[.agg ((nd k Q yy).map vU8).toArray, vInt ((0 : Nat) : Int)]) (callsTo Tryd.func21 rfl (by kernel_rfl) rfl) rfl (fun w hm => (by have h := node_any w (hK.mem0 hm) (k : Int) Q yy hQl hyyl; rw [digO_node h1 h2 hQf hyyf] at h; exact h)) ?_   -- 119
            refine ow_val (val_move rfl) rfl ?_   -- 114
            refine ow_val (val_extract rfl rfl) rfl ?_   -- 120
            refine ow_val (val_extract rfl rfl) rfl ?_   -- 121
            refine ow_new (acts_alloc zD) rfl (fun b21 hb21 => ?_)   -- 21
            refine ow_do_eq (does_store_all 0 rfl rfl rfl (one_u8s _) Tryd.sizeOf23 (by show (List.map vU8 (nd k Q yy)).length = _; rw [List.length_map]; exact (nd_len _ _ _ h2)) (by show (List.map vU8 zeros32).length = _; rw [List.length_map]; exact zeros32_len)) ?_
            refine ow_val (val_assign rfl) rfl ?_   -- 22
            refine ow_nil (into ?_)
            refine sw_seq ?_
            refine sw_seq ?_
            refine sw_region ?_
            refine ow_val (val_move rfl) rfl ?_   -- 122
            refine ow_val ((val_neq_int rfl rfl).to (v' := .bool false) (congrArg Value.bool (decide_eq_false (fun h => h (by simp))))) rfl ?_   -- 123
            refine ow_val (val_move rfl) rfl ?_   -- 124
            refine ow_guard_yes rfl rfl rfl ?_
            refine ow_val (val_move rfl) rfl ?_   -- 125
            refine ow_guard_yes rfl rfl rfl ?_
            refine ow_val ((val_neq_int rfl rfl).to (v' := .bool false) (congrArg Value.bool (decide_eq_false (fun h => h (by simp))))) rfl ?_   -- 126
            refine ow_val (val_pick_false rfl rfl) rfl ?_   -- 127
            refine ow_nil (into ?_)
            refine sw_false rfl rfl ?_
            refine sw_skip (into ?_)
            refine sw_seq ?_
            refine sw_seq ?_
            refine sw_region ?_
            refine ow_val (val_load_all 1 rfl rfl Tryd.isAgg23 Tryd.sizeOf23 (by show (List.map vU8 (nd k P xx)).length = _; rw [List.length_map]; exact (nd_len _ _ _ h2))) rfl ?_   -- 128
            refine ow_val (val_load_all 0 rfl rfl Tryd.isAgg23 Tryd.sizeOf23 (by show (List.map vU8 (nd k Q yy)).length = _; rw [List.length_map]; exact (nd_len _ _ _ h2))) rfl ?_   -- 129
            by_cases hcd0 : nd k P xx = nd k Q yy
            · -- yes
              refine ow_val ((val_eql_u8s rfl rfl Tryd.eqGuardType23 Tryd.underlying23 Tryd.underlying5 Tryd.sizeOf5 Tryd.isAgg5 (nd_len _ _ _ h2) (nd_len _ _ _ h2)).to (congrArg Value.bool (decide_eq_true (hcd0)))) rfl ?_   -- 130
              refine ow_val (val_move rfl) rfl ?_   -- 131
              refine ow_guard_yes rfl rfl rfl ?_
              refine ow_val (val_load_all 5 rfl rfl Tryd.isAgg23 Tryd.sizeOf23 (by show (List.map vU8 P).length = _; rw [List.length_map]; exact hPl)) rfl ?_   -- 132
              refine ow_guard_yes rfl rfl rfl ?_
              refine ow_val (val_load_all 3 rfl rfl Tryd.isAgg23 Tryd.sizeOf23 (by show (List.map vU8 Q).length = _; rw [List.length_map]; exact hQl)) rfl ?_   -- 133
              by_cases hPQ : P ≠ Q
              · -- yes
                refine ow_guard_yes rfl rfl rfl ?_
                refine ow_val ((val_neq_u8s rfl rfl Tryd.eqGuardType23 Tryd.underlying23 Tryd.underlying5 Tryd.sizeOf5 Tryd.isAgg5 hPl hQl).to (congrArg Value.bool (show (!decide _) = true by rw [decide_eq_false hPQ]; rfl))) rfl ?_   -- 134
                refine ow_guard_yes rfl rfl rfl ?_
                refine ow_val (val_move rfl) rfl ?_   -- 135
                first | refine ow_guard_no rfl rfl rfl rfl rfl ?_ | refine ow_guard_none rfl rfl rfl rfl rfl ?_
                first | refine ow_guard_no rfl rfl rfl rfl rfl ?_ | refine ow_guard_none rfl rfl rfl rfl rfl ?_
                first | refine ow_guard_no rfl rfl rfl rfl rfl ?_ | refine ow_guard_none rfl rfl rfl rfl rfl ?_
                refine ow_guard_yes rfl rfl rfl ?_
                refine ow_val (val_pick_true rfl rfl) rfl ?_   -- 139
                refine ow_val (val_pick_true rfl rfl) rfl ?_   -- 140
                refine ow_nil (into ?_)
                refine sw_true rfl rfl ?_
                refine sw_seq ?_
                refine sw_region ?_
                refine ow_val (val_assign rfl) rfl ?_   -- 6
                refine ow_nil (into ?_)
                refine sw_ret (fun w hm => ?_)
                try dsimp only [thenP, blockP, Nat.beq, cond]
                exact ret_one _ rfl rfl ⟨rfl, hm.forgetAll⟩
              · -- no
                refine ow_guard_yes rfl rfl rfl ?_
                refine ow_val ((val_neq_u8s rfl rfl Tryd.eqGuardType23 Tryd.underlying23 Tryd.underlying5 Tryd.sizeOf5 Tryd.isAgg5 hPl hQl).to (congrArg Value.bool (show (!decide _) = false by rw [decide_eq_true (Decidable.not_not.1 hPQ)]; rfl))) rfl ?_   -- 134
                refine ow_guard_yes rfl rfl rfl ?_
                refine ow_val (val_move rfl) rfl ?_   -- 135
                refine ow_guard_yes rfl rfl rfl ?_
                refine ow_val (val_load_all 4 rfl rfl Tryd.isAgg23 Tryd.sizeOf23 (by show (List.map vU8 xx).length = _; rw [List.length_map]; exact hxxl)) rfl ?_   -- 136
                refine ow_guard_yes rfl rfl rfl ?_
                refine ow_val (val_load_all 2 rfl rfl Tryd.isAgg23 Tryd.sizeOf23 (by show (List.map vU8 yy).length = _; rw [List.length_map]; exact hyyl)) rfl ?_   -- 137
                refine ow_guard_yes rfl rfl rfl ?_
                refine ow_val ((val_neq_u8s rfl rfl Tryd.eqGuardType23 Tryd.underlying23 Tryd.underlying5 Tryd.sizeOf5 Tryd.isAgg5 hxxl hyyl).to (congrArg Value.bool (show (!decide _) = true by rw [decide_eq_false hxy]; rfl))) rfl ?_   -- 138
                refine ow_guard_yes rfl rfl rfl ?_
                refine ow_val (val_pick_false rfl rfl) rfl ?_   -- 139
                refine ow_val (val_pick_true rfl rfl) rfl ?_   -- 140
                refine ow_nil (into ?_)
                refine sw_true rfl rfl ?_
                refine sw_seq ?_
                refine sw_region ?_
                refine ow_val (val_assign rfl) rfl ?_   -- 6
                refine ow_nil (into ?_)
                refine sw_ret (fun w hm => ?_)
                try dsimp only [thenP, blockP, Nat.beq, cond]
                exact ret_one _ rfl rfl ⟨rfl, hm.forgetAll⟩
            · -- no
              have hcd := hcd0
              refine ow_val ((val_eql_u8s rfl rfl Tryd.eqGuardType23 Tryd.underlying23 Tryd.underlying5 Tryd.sizeOf5 Tryd.isAgg5 (nd_len _ _ _ h2) (nd_len _ _ _ h2)).to (congrArg Value.bool (decide_eq_false (hcd0)))) rfl ?_   -- 130
              refine ow_val (val_move rfl) rfl ?_   -- 131
              first | refine ow_guard_no rfl rfl rfl rfl rfl ?_ | refine ow_guard_none rfl rfl rfl rfl rfl ?_
              first | refine ow_guard_no rfl rfl rfl rfl rfl ?_ | refine ow_guard_none rfl rfl rfl rfl rfl ?_
              first | refine ow_guard_no rfl rfl rfl rfl rfl ?_ | refine ow_guard_none rfl rfl rfl rfl rfl ?_
              first | refine ow_guard_no rfl rfl rfl rfl rfl ?_ | refine ow_guard_none rfl rfl rfl rfl rfl ?_
              first | refine ow_guard_no rfl rfl rfl rfl rfl ?_ | refine ow_guard_none rfl rfl rfl rfl rfl ?_
              first | refine ow_guard_no rfl rfl rfl rfl rfl ?_ | refine ow_guard_none rfl rfl rfl rfl rfl ?_
              first | refine ow_guard_no rfl rfl rfl rfl rfl ?_ | refine ow_guard_none rfl rfl rfl rfl rfl ?_
              first | refine ow_guard_no rfl rfl rfl rfl rfl ?_ | refine ow_guard_none rfl rfl rfl rfl rfl ?_
              refine ow_val (val_pick_false rfl rfl) rfl ?_   -- 140
              refine ow_nil (into ?_)
              refine sw_false rfl rfl ?_
              refine sw_skip (into ?_)
              refine sw_region_tree _ [2, 3] (.one 0 1 (.alt 1 (.one 2 2 (.one 3 2 .done)) (.alt 2 (.one 1 2 (.one 3 2 .done)) .stop))) (by kernel_rfl) (by kernel_rfl) (fun _ _ _ h => h) (fun _ h => h) (fun _ h => h.drawn _) ?_
              refine lt_held rfl trivial (val_load_all 1 rfl rfl Tryd.isAgg23 Tryd.sizeOf23 (by show (List.map vU8 (nd k P xx)).length = _; rw [List.length_map]; exact (nd_len _ _ _ h2))) rfl ?_   -- 141
              refine lt_alt ?_ ?_
              · -- first 1
                refine lt_val rfl trivial (val_load_all 0 rfl rfl Tryd.isAgg23 Tryd.sizeOf23 (by show (List.map vU8 (nd k Q yy)).length = _; rw [List.length_map]; exact (nd_len _ _ _ h2))) rfl (fun _ _ h => h) ?_   -- 142
                refine lt_do rfl trivial (does_store_all 7 rfl rfl rfl (one_u8s _) Tryd.sizeOf23 (by show (List.map vU8 (nd k P xx)).length = _; rw [List.length_map]; exact (nd_len _ _ _ h2)) (by show (List.map vU8 xx).length = _; rw [List.length_map]; exact hxxl)) (fun h => nomatch h) (fun _ _ => ?_)
                refine lt_do rfl trivial (does_store_all 6 rfl rfl rfl (one_u8s _) Tryd.sizeOf23 (by show (List.map vU8 (nd k Q yy)).length = _; rw [List.length_map]; exact (nd_len _ _ _ h2)) (by show (List.map vU8 yy).length = _; rw [List.length_map]; exact hyyl)) (fun h => nomatch h) (fun _ _ => ?_)
                refine lt_done (into ?_)
                refine sw_region ?_
                refine ow_val (val_add_int ((j + 1 : Nat) : Int) rfl rfl (by omega) (by omega)) rfl ?_   -- 143
                refine ow_val (val_move rfl) rfl ?_   -- 79
                exact ow_nil (fun w hm => ⟨j + 1, ⟨by omega, by rw [hxs, hys, if_neg (by rw [hwj]; decide), if_neg (by rw [hwj]; decide)]; exact hcd⟩, by omega, ⟨rfl, rfl, rfl, rfl, rfl, rfl, rfl, trivial⟩, by rw [hxs, hys, if_neg (by rw [hwj]; decide), if_neg (by rw [hwj]; decide)]; exact hm.only (.cons _ (.cons _ (.cons _ (.cons _ (.cons _ (.cons _ (.cons_cons _ (.cons_cons _ (.cons_cons _ (.cons_cons _ (List.nil_sublist _)))))))))))⟩)
              refine lt_alt ?_ ?_
              · -- first 2
                refine lt_do rfl trivial (does_store_all 7 rfl rfl rfl (one_u8s _) Tryd.sizeOf23 (by show (List.map vU8 (nd k P xx)).length = _; rw [List.length_map]; exact (nd_len _ _ _ h2)) (by show (List.map vU8 xx).length = _; rw [List.length_map]; exact hxxl)) (fun h => nomatch h) (fun _ _ => ?_)
                refine lt_val rfl trivial (val_load_all 0 rfl rfl Tryd.isAgg23 Tryd.sizeOf23 (by show (List.map vU8 (nd k Q yy)).length = _; rw [List.length_map]; exact (nd_len _ _ _ h2))) rfl (fun h => nomatch h) ?_   -- 142
                refine lt_do rfl trivial (does_store_all 6 rfl rfl rfl (one_u8s _) Tryd.sizeOf23 (by show (List.map vU8 (nd k Q yy)).length = _; rw [List.length_map]; exact (nd_len _ _ _ h2)) (by show (List.map vU8 yy).length = _; rw [List.length_map]; exact hyyl)) (fun h => nomatch h) (fun _ _ => ?_)
                refine lt_done (into ?_)
                refine sw_region ?_
                refine ow_val (val_add_int ((j + 1 : Nat) : Int) rfl rfl (by omega) (by omega)) rfl ?_   -- 143
                refine ow_val (val_move rfl) rfl ?_   -- 79
                exact ow_nil (fun w hm => ⟨j + 1, ⟨by omega, by rw [hxs, hys, if_neg (by rw [hwj]; decide), if_neg (by rw [hwj]; decide)]; exact hcd⟩, by omega, ⟨rfl, rfl, rfl, rfl, rfl, rfl, rfl, trivial⟩, by rw [hxs, hys, if_neg (by rw [hwj]; decide), if_neg (by rw [hwj]; decide)]; exact hm.only (.cons _ (.cons _ (.cons _ (.cons _ (.cons _ (.cons _ (.cons_cons _ (.cons_cons _ (.cons_cons _ (.cons_cons _ (List.nil_sublist _)))))))))))⟩)
              exact lt_stop
          refine lt_alt ?_ ?_
          · -- first 4
            refine lt_do rfl trivial (does_store_all 3 rfl rfl rfl (one_u8s _) Tryd.sizeOf23 (by show (List.map vU8 P).length = _; rw [List.length_map]; exact hPl) (by show (List.map vU8 xx).length = _; rw [List.length_map]; exact hxxl)) (fun h => nomatch h) (fun _ _ => ?_)
            refine lt_alt ?_ ?_
            · -- first 2
              refine lt_val rfl trivial (val_load_all 0 rfl rfl Tryd.isAgg23 Tryd.sizeOf23 (by show (List.map vU8 Q).length = _; rw [List.length_map]; exact hQl)) rfl (fun h => nomatch h) ?_   -- 104
              refine lt_do rfl trivial (does_store_all 2 rfl rfl rfl (one_u8s _) Tryd.sizeOf23 (by show (List.map vU8 xx).length = _; rw [List.length_map]; exact hxxl) (by show (List.map vU8 P).length = _; rw [List.length_map]; exact hPl)) (fun h => nomatch h) (fun _ _ => ?_)
              refine lt_do rfl trivial (does_store_all 1 rfl rfl rfl (one_u8s _) Tryd.sizeOf23 (by show (List.map vU8 Q).length = _; rw [List.length_map]; exact hQl) (by show (List.map vU8 yy).length = _; rw [List.length_map]; exact hyyl)) (fun h => nomatch h) (fun _ _ => ?_)
              refine lt_do rfl trivial (does_store_all 0 rfl rfl rfl (one_u8s _) Tryd.sizeOf23 (by show (List.map vU8 yy).length = _; rw [List.length_map]; exact hyyl) (by show (List.map vU8 Q).length = _; rw [List.length_map]; exact hQl)) (fun h => nomatch h) (fun _ _ => ?_)
              refine lt_done (into ?_)
              refine sw_seq ?_
              refine sw_region ?_
              refine ow_val (val_fieldAddr (m := 0) (e := 0) rfl Tryd.underlying27 rfl rfl Tryd.sizeOf3 rfl) rfl ?_   -- 107
              refine ow_val (val_load_at 7 rfl rfl Tryd.isAgg3 rfl) rfl ?_   -- 108
              refine ow_val (val_load_all 3 rfl rfl Tryd.isAgg23 Tryd.sizeOf23 (by show (List.map vU8 P).length = _; rw [List.length_map]; exact hPl)) rfl ?_   -- 109
              refine ow_val (val_load_all 2 rfl rfl Tryd.isAgg23 Tryd.sizeOf23 (by show (List.map vU8 xx).length = _; rw [List.length_map]; exact hxxl)) rfl ?_   -- 110
              refine ow_call_pure (v := .tuple #[.agg ((nd k P xx).map vU8).toArray, vInt ((0 : Nat) : Int)]) (callsTo Tryd.func21 rfl (by kernel_rfl) rfl) rfl (fun w hm => (by have h := node_any w (hK.mem0 hm) (k : Int) P xx hPl hxxl; rw [digO_node h1 h2 hPf hxxf] at h; exact h)) ?_   -- 111
              refine ow_val (val_move rfl) rfl ?_   -- 106
              refine ow_val (val_extract rfl rfl) rfl ?_   -- 112
              refine ow_val (val_extract rfl rfl) rfl ?_   -- 113
              refine ow_new (acts_alloc zD) rfl (fun b19 hb19 => ?_)   -- 19
              refine ow_do_eq (does_store_all 0 rfl rfl rfl (one_u8s _) Tryd.sizeOf23 (by show (List.map vU8 (nd k P xx)).length = _; rw [List.length_map]; exact (nd_len _ _ _ h2)) (by show (List.map vU8 zeros32).length = _; rw [List.length_map]; exact zeros32_len)) ?_
              refine ow_val (val_assign rfl) rfl ?_   -- 20
              refine ow_nil (into ?_)
              refine sw_seq ?_
              refine sw_region ?_
              refine ow_val (val_fieldAddr (m := 0) (e := 0) rfl Tryd.underlying27 rfl rfl Tryd.sizeOf3 rfl) rfl ?_   -- 115
              refine ow_val (val_load_at 8 rfl rfl Tryd.isAgg3 rfl) rfl ?_   -- 116
              refine ow_val (val_load_all 2 rfl rfl Tryd.isAgg23 Tryd.sizeOf23 (by show (List.map vU8 Q).length = _; rw [List.length_map]; exact hQl)) rfl ?_   -- 117
              refine ow_val (val_load_all 1 rfl rfl Tryd.isAgg23 Tryd.sizeOf23 (by show (List.map vU8 yy).length = _; rw [List.length_map]; exact hyyl)) rfl ?_   -- 118
              refine ow_call_pure (v := .tuple #[.agg ((nd k Q yy).map vU8).toArray, vInt ((0 : Nat) : Int)]) (callsTo Tryd.func21 rfl (by kernel_rfl) rfl) rfl (fun w hm => (by have h := node_any w (hK.mem0 hm) (k : Int) Q yy hQl hyyl; rw [digO_node h1 h2 hQf hyyf] at h; exact h)) ?_   -- 119
              refine ow_val (val_move rfl) rfl ?_   -- 114
              refine ow_val (val_extract rfl rfl) rfl ?_   -- 120
              refine ow_val (val_extract rfl rfl) rfl ?_   -- 121
              refine ow_new (acts_alloc zD) rfl (fun b21 hb21 => ?_)   -- 21
              refine ow_do_eq (does_store_all 0 rfl rfl rfl (one_u8s _) Tryd.sizeOf23 (by show (List.map vU8 (nd k Q yy)).length = _; rw [List.length_map]; exact (nd_len _ _ _ h2)) (by show (List.map vU8 zeros32).length = _; rw [List.length_map]; exact zeros32_len)) ?_
              refine ow_val (val_assign rfl) rfl ?_   -- 22
              refine ow_nil (into ?_)
              refine sw_seq ?_
              refine sw_seq ?_
              refine sw_region ?_
              refine ow_val (val_move rfl) rfl ?_   -- 122
              refine ow_val ((val_neq_int rfl rfl).to (v' := .bool false) (congrArg Value.bool (decide_eq_false (fun h => h (by simp))))) rfl ?_   -- 123
              refine ow_val (val_move rfl) rfl ?_   -- 124
              refine ow_guard_yes rfl rfl rfl ?_
              refine ow_val (val_move rfl) rfl ?_   -- 125
              refine ow_guard_yes rfl rfl rfl ?_
              refine ow_val ((val_neq_int rfl rfl).to (v' := .bool false) (congrArg Value.bool (decide_eq_false (fun h => h (by simp))))) rfl ?_   -- 126
              refine ow_val (val_pick_false rfl rfl) rfl ?_   -- 127
              refine ow_nil (into ?_)
              refine sw_false rfl rfl ?_
              refine sw_skip (into ?_)
              refine sw_seq ?_
              refine sw_seq ?_
              refine sw_region ?_
              refine ow_val (val_load_all 1 rfl rfl Tryd.isAgg23 Tryd.sizeOf23 (by show (List.map vU8 (nd k P xx)).length = _; rw [List.length_map]; exact (nd_len _ _ _ h2))) rfl ?_   -- 128
              refine ow_val (val_load_all 0 rfl rfl Tryd.isAgg23 Tryd.sizeOf23 (by show (List.map vU8 (nd k Q yy)).length = _; rw [List.length_map]; exact (nd_len _ _ _ h2))) rfl ?_   -- 129
              by_cases hcd0 : nd k P xx = nd k Q yy
              · -- yes
                refine ow_val ((val_eql_u8s rfl rfl Tryd.eqGuardType23 Tryd.underlying23 Tryd.underlying5 Tryd.sizeOf5 Tryd.isAgg5 (nd_len _ _ _ h2) (nd_len _ _ _ h2)).to (congrArg Value.bool (decide_eq_true (hcd0)))) rfl ?_   -- 130
                refine ow_val (val_move rfl) rfl ?_   -- 131
                refine ow_guard_yes rfl rfl rfl ?_
                refine ow_val (val_load_all 5 rfl rfl Tryd.isAgg23 Tryd.sizeOf23 (by show (List.map vU8 P).length = _; rw [List.length_map]; exact hPl)) rfl ?_   -- 132
                refine ow_guard_yes rfl rfl rfl ?_
                refine ow_val (val_load_all 3 rfl rfl Tryd.isAgg23 Tryd.sizeOf23 (by show (List.map vU8 Q).length = _; rw [List.length_map]; exact hQl)) rfl ?_   -- 133
                by_cases hPQ : P ≠ Q
                · -- yes
                  refine ow_guard_yes rfl rfl rfl ?_
                  refine ow_val ((val_neq_u8s rfl rfl Tryd.eqGuardType23 Tryd.underlying23 Tryd.underlying5 Tryd.sizeOf5 Tryd.isAgg5 hPl hQl).to (congrArg Value.bool (show (!decide _) = true by rw [decide_eq_false hPQ]; rfl))) rfl ?_   -- 134
                  refine ow_guard_yes rfl rfl rfl ?_
                  refine ow_val (val_move rfl) rfl ?_   -- 135
                  first | refine ow_guard_no rfl rfl rfl rfl rfl ?_ | refine ow_guard_none rfl rfl rfl rfl rfl ?_
                  first | refine ow_guard_no rfl rfl rfl rfl rfl ?_ | refine ow_guard_none rfl rfl rfl rfl rfl ?_
                  first | refine ow_guard_no rfl rfl rfl rfl rfl ?_ | refine ow_guard_none rfl rfl rfl rfl rfl ?_
                  refine ow_guard_yes rfl rfl rfl ?_
                  refine ow_val (val_pick_true rfl rfl) rfl ?_   -- 139
                  refine ow_val (val_pick_true rfl rfl) rfl ?_   -- 140
                  refine ow_nil (into ?_)
                  refine sw_true rfl rfl ?_
                  refine sw_seq ?_
                  refine sw_region ?_
                  refine ow_val (val_assign rfl) rfl ?_   -- 6
                  refine ow_nil (into ?_)
                  refine sw_ret (fun w hm => ?_)
                  try dsimp only [thenP, blockP, Nat.beq, cond]
                  exact ret_one _ rfl rfl ⟨rfl, hm.forgetAll⟩
                · -- no
                  refine ow_guard_yes rfl rfl rfl ?_
                  refine ow_val ((val_neq_u8s rfl rfl Tryd.eqGuardType23 Tryd.underlying23 Tryd.underlying5 Tryd.sizeOf5 Tryd.isAgg5 hPl hQl).to (congrArg Value.bool (show (!decide _) = false by rw [decide_eq_true (Decidable.not_not.1 hPQ)]; rfl))) rfl ?_   -- 134
                  refine ow_guard_yes rfl rfl rfl ?_
                  refine ow_val (val_move rfl) rfl ?_   -- 135
                  refine ow_guard_yes rfl rfl rfl ?_
                  refine ow_val (val_load_all 4 rfl rfl Tryd.isAgg23 Tryd.sizeOf23 (by show (List.map vU8 xx).length = _; rw [List.length_map]; exact hxxl)) rfl ?_   -- 136
                  refine ow_guard_yes rfl rfl rfl ?_
                  refine ow_val (val_load_all 2 rfl rfl Tryd.isAgg23 Tryd.sizeOf23 (by show (List.map vU8 yy).length = _; rw [List.length_map]; exact hyyl)) rfl ?_   -- 137
                  refine ow_guard_yes rfl rfl rfl ?_
                  refine ow_val ((val_neq_u8s rfl rfl Tryd.eqGuardType23 Tryd.underlying23 Tryd.underlying5 Tryd.sizeOf5 Tryd.isAgg5 hxxl hyyl).to (congrArg Value.bool (show (!decide _) = true by rw [decide_eq_false hxy]; rfl))) rfl ?_   -- 138
                  refine ow_guard_yes rfl rfl rfl ?_
                  refine ow_val (val_pick_false rfl rfl) rfl ?_   -- 139
                  refine ow_val (val_pick_true rfl rfl) rfl ?_   -- 140
                  refine ow_nil (into ?_)
                  refine sw_true rfl rfl ?_
                  refine sw_seq ?_
                  refine sw_region ?_
                  refine ow_val (val_assign rfl) rfl ?_   -- 6
                  refine ow_nil (into ?_)
                  refine sw_ret (fun w hm => ?_)
                  try dsimp only [thenP, blockP, Nat.beq, cond]
                  exact ret_one _ rfl rfl ⟨rfl, hm.forgetAll⟩
              · -- no
                have hcd := hcd0
                refine ow_val ((val_eql_u8s rfl rfl Tryd.eqGuardType23 Tryd.underlying23 Tryd.underlying5 Tryd.sizeOf5 Tryd.isAgg5 (nd_len _ _ _ h2) (nd_len _ _ _ h2)).to (congrArg Value.bool (decide_eq_false (hcd0)))) rfl ?_   -- 130
                refine ow_val (val_move rfl) rfl ?_   -- 131
                first | refine ow_guard_no rfl rfl rfl rfl rfl ?_ | refine ow_guard_none rfl rfl rfl rfl rfl ?_
                first | refine ow_guard_no rfl rfl rfl rfl rfl ?_ | refine ow_guard_none rfl rfl rfl rfl rfl ?_
                first | refine ow_guard_no rfl rfl rfl rfl rfl ?_ | refine ow_guard_none rfl rfl rfl rfl rfl ?_
                first | refine ow_guard_no rfl rfl rfl rfl rfl ?_ | refine ow_guard_none rfl rfl rfl rfl rfl ?_
                first | refine ow_guard_no rfl rfl rfl rfl rfl ?_ | refine ow_guard_none rfl rfl rfl rfl rfl ?_
                first | refine ow_guard_no rfl rfl rfl rfl rfl ?_ | refine ow_guard_none rfl rfl rfl rfl rfl ?_
                first | refine ow_guard_no rfl rfl rfl rfl rfl ?_ | refine ow_guard_none rfl rfl rfl rfl rfl ?_
                first | refine ow_guard_no rfl rfl rfl rfl rfl ?_ | refine ow_guard_none rfl rfl rfl rfl rfl ?_
                refine ow_val (val_pick_false rfl rfl) rfl ?_   -- 140
                refine ow_nil (into ?_)
                refine sw_false rfl rfl ?_
                refine sw_skip (into ?_)
                refine sw_region_tree _ [2, 3] (.one 0 1 (.alt 1 (.one 2 2 (.one 3 2 .done)) (.alt 2 (.one 1 2 (.one 3 2 .done)) .stop))) (by kernel_rfl) (by kernel_rfl) (fun _ _ _ h => h) (fun _ h => h) (fun _ h => h.drawn _) ?_
                refine lt_held rfl trivial (val_load_all 1 rfl rfl Tryd.isAgg23 Tryd.sizeOf23 (by show (List.map vU8 (nd k P xx)).length = _; rw [List.length_map]; exact (nd_len _ _ _ h2))) rfl ?_   -- 141
                refine lt_alt ?_ ?_
                · -- first 1
                  refine lt_val rfl trivial (val_load_all 0 rfl rfl Tryd.isAgg23 Tryd.sizeOf23 (by show (List.map vU8 (nd k Q yy)).length = _; rw [List.length_map]; exact (nd_len _ _ _ h2))) rfl (fun _ _ h => h) ?_   -- 142
                  refine lt_do rfl trivial (does_store_all 7 rfl rfl rfl (one_u8s _) Tryd.sizeOf23 (by show (List.map vU8 (nd k P xx)).length = _; rw [List.length_map]; exact (nd_len _ _ _ h2)) (by show (List.map vU8 xx).length = _; rw [List.length_map]; exact hxxl)) (fun h => nomatch h) (fun _ _ => ?_)
                  refine lt_do rfl trivial (does_store_all 6 rfl rfl rfl (one_u8s _) Tryd.sizeOf23 (by show (List.map vU8 (nd k Q yy)).length = _; rw [List.length_map]; exact (nd_len _ _ _ h2)) (by show (List.map vU8 yy).length = _; rw [List.length_map]; exact hyyl)) (fun h => nomatch h) (fun _ _ => ?_)
                  refine lt_done (into ?_)
                  refine sw_region ?_
                  refine ow_val (val_add_int ((j + 1 : Nat) : Int) rfl rfl (by omega) (by omega)) rfl ?_   -- 143
                  refine ow_val (val_move rfl) rfl ?_   -- 79
                  exact ow_nil (fun w hm => ⟨j + 1, ⟨by omega, by rw [hxs, hys, if_neg (by rw [hwj]; decide), if_neg (by rw [hwj]; decide)]; exact hcd⟩, by omega, ⟨rfl, rfl, rfl, rfl, rfl, rfl, rfl, trivial⟩, by rw [hxs, hys, if_neg (by rw [hwj]; decide), if_neg (by rw [hwj]; decide)]; exact hm.only (.cons _ (.cons _ (.cons _ (.cons _ (.cons _ (.cons _ (.cons_cons _ (.cons_cons _ (.cons_cons _ (.cons_cons _ (List.nil_sublist _)))))))))))⟩)
                refine lt_alt ?_ ?_
                · -- first 2
                  refine lt_do rfl trivial (does_store_all 7 rfl rfl rfl (one_u8s _) Tryd.sizeOf23 (by show (List.map vU8 (nd k P xx)).length = _; rw [List.length_map]; exact (nd_len _ _ _ h2)) (by show (List.map vU8 xx).length = _; rw [List.length_map]; exact hxxl)) (fun h => nomatch h) (fun _ _ => ?_)
                  refine lt_val rfl trivial (val_load_all 0 rfl rfl Tryd.isAgg23 Tryd.sizeOf23 (by show (List.map vU8 (nd k Q yy)).length = _; rw [List.length_map]; exact (nd_len _ _ _ h2))) rfl (fun h => nomatch h) ?_   -- 142
                  refine lt_do rfl trivial (does_store_all 6 rfl rfl rfl (one_u8s _) Tryd.sizeOf23 (by show (List.map vU8 (nd k Q yy)).length = _; rw [List.length_map]; exact (nd_len _ _ _ h2)) (by show (List.map vU8 yy).length = _; rw [List.length_map]; exact hyyl)) (fun h => nomatch h) (fun _ _ => ?_)
                  refine lt_done (into ?_)
                  refine sw_region ?_
                  refine ow_val (val_add_int ((j + 1 : Nat) : Int) rfl rfl (by omega) (by omega)) rfl ?_   -- 143
                  refine ow_val (val_move rfl) rfl ?_   -- 79
                  exact ow_nil (fun w hm => ⟨j + 1, ⟨by omega, by rw [hxs, hys, if_neg (by rw [hwj]; decide), if_neg (by rw [hwj]; decide)]; exact hcd⟩, by omega, ⟨rfl, rfl, rfl, rfl, rfl, rfl, rfl, trivial⟩, by rw [hxs, hys, if_neg (by rw [hwj]; decide), if_neg (by rw [hwj]; decide)]; exact hm.only (.cons _ (.cons _ (.cons _ (.cons _ (.cons _ (.cons _ (.cons_cons _ (.cons_cons _ (.cons_cons _ (.cons_cons _ (List.nil_sublist _)))))))))))⟩)
                exact lt_stop
            refine lt_alt ?_ ?_
            · -- first 5
              refine lt_do rfl trivial (does_store_all 2 rfl rfl rfl (one_u8s _) Tryd.sizeOf23 (by show (List.map vU8 xx).length = _; rw [List.length_map]; exact hxxl) (by show (List.map vU8 P).length = _; rw [List.length_map]; exact hPl)) (fun h => nomatch h) (fun _ _ => ?_)
              refine lt_val rfl trivial (val_load_all 0 rfl rfl Tryd.isAgg23 Tryd.sizeOf23 (by show (List.map vU8 Q).length = _; rw [List.length_map]; exact hQl)) rfl (fun h => nomatch h) ?_   -- 104
              refine lt_do rfl trivial (does_store_all 1 rfl rfl rfl (one_u8s _) Tryd.sizeOf23 (by show (List.map vU8 Q).length = _; rw [List.length_map]; exact hQl) (by show (List.map vU8 yy).length = _; rw [List.length_map]; exact hyyl)) (fun h => nomatch h) (fun _ _ => ?_)
              refine lt_do rfl trivial (does_store_all 0 rfl rfl rfl (one_u8s _) Tryd.sizeOf23 (by show (List.map vU8 yy).length = _; rw [List.length_map]; exact hyyl) (by show (List.map vU8 Q).length = _; rw [List.length_map]; exact hQl)) (fun h => nomatch h) (fun _ _ => ?_)
              refine lt_done (into ?_)
              refine sw_seq ?_
              refine sw_region ?_
              refine ow_val (val_fieldAddr (m := 0) (e := 0) rfl Tryd.underlying27 rfl rfl Tryd.sizeOf3 rfl) rfl ?_   -- 107
              refine ow_val (val_load_at 7 rfl rfl Tryd.isAgg3 rfl) rfl ?_   -- 108
              refine ow_val (val_load_all 3 rfl rfl Tryd.isAgg23 Tryd.sizeOf23 (by show (List.map vU8 P).length = _; rw [List.length_map]; exact hPl)) rfl ?_   -- 109
              refine ow_val (val_load_all 2 rfl rfl Tryd.isAgg23 Tryd.sizeOf23 (by show (List.map vU8 xx).length = _; rw [List.length_map]; exact hxxl)) rfl ?_   -- 110
              refine ow_call_pure (v := .tuple #[.agg ((nd k P xx).map vU8).toArray, vInt ((0 : Nat) : Int)]) (callsTo Tryd.func21 rfl (by kernel_rfl) rfl) rfl (fun w hm => (by have h := node_any w (hK.mem0 hm) (k : Int) P xx hPl hxxl; rw [digO_node h1 h2 hPf hxxf] at h; exact h)) ?_   -- 111
              refine ow_val (val_move rfl) rfl ?_   -- 106
              refine ow_val (val_extract rfl rfl) rfl ?_   -- 112
              refine ow_val (val_extract rfl rfl) rfl ?_   -- 113
              refine ow_new (acts_alloc zD) rfl (fun b19 hb19 => ?_)   -- 19
              refine ow_do_eq (does_store_all 0 rfl rfl rfl (one_u8s _) Tryd.sizeOf23 (by show (List.map vU8 (nd k P xx)).length = _; rw [List.length_map]; exact (nd_len _ _ _ h2)) (by show (List.map vU8 zeros32).length = _; rw [List.length_map]; exact zeros32_len)) ?_
              refine ow_val (val_assign rfl) rfl ?_   -- 20
              refine ow_nil (into ?_)
              refine sw_seq ?_
              refine sw_region ?_
              refine ow_val (val_fieldAddr (m := 0) (e := 0) rfl Tryd.underlying27 rfl rfl Tryd.sizeOf3 rfl) rfl ?_   -- 115
              refine ow_val (val_load_at 8 rfl rfl Tryd.isAgg3 rfl) rfl ?_   -- 116
              refine ow_val (val_load_all 2 rfl rfl Tryd.isAgg23 Tryd.sizeOf23 (by show (List.map vU8 Q).length = _; rw [List.length_map]; exact hQl)) rfl ?_   -- 117
              refine ow_val (val_load_all 1 rfl rfl Tryd.isAgg23 Tryd.sizeOf23 (by show (List.map vU8 yy).length = _; rw [List.length_map]; exact hyyl)) rfl ?_   -- 118
              refine ow_call_pure (v := .tuple #[.agg ((nd k Q yy).map vU8).toArray, vInt ((0 : Nat) : Int)]) (callsTo Tryd.func21 rfl (by kernel_rfl) rfl) rfl (fun w hm => (by have h := node_any w (hK.mem0 hm) (k : Int) Q yy hQl hyyl; rw [digO_node h1 h2 hQf hyyf] at h; exact h)) ?_   -- 119
              refine ow_val (val_move rfl) rfl ?_   -- 114
              refine ow_val (val_extract rfl rfl) rfl ?_   -- 120
              refine ow_val (val_extract rfl rfl) rfl ?_   -- 121
              refine ow_new (acts_alloc zD) rfl (fun b21 hb21 => ?_)   -- 21
              refine ow_do_eq (does_store_all 0 rfl rfl rfl (one_u8s _) Tryd.sizeOf23 (by show (List.map vU8 (nd k Q yy)).length = _; rw [List.length_map]; exact (nd_len _ _ _ h2)) (by show (List.map vU8 zeros32).length = _; rw [List.length_map]; exact zeros32_len)) ?_
              refine ow_val (val_assign rfl) rfl ?_   -- 22
              refine ow_nil (into ?_)
              refine sw_seq ?_
              refine sw_seq ?_
              refine sw_region ?_
              refine ow_val (val_move rfl) rfl ?_   -- 122
              refine ow_val ((val_neq_int rfl rfl).to (v' := .bool false) (congrArg Value.bool (decide_eq_false (fun h => h (by simp))))) rfl ?_   -- 123
              refine ow_val (val_move rfl) rfl ?_   -- 124
              refine ow_guard_yes rfl rfl rfl ?_
              refine ow_val (val_move rfl) rfl ?_   -- 125
              refine ow_guard_yes rfl rfl rfl ?_
              refine ow_val ((val_neq_int rfl rfl).to (v' := .bool false) (congrArg Value.bool (decide_eq_false (fun h => h (by simp))))) rfl ?_   -- 126
              refine ow_val (val_pick_false rfl rfl) rfl ?_   -- 127
              refine ow_nil (into ?_)
              refine sw_false rfl rfl ?_
              refine sw_skip (into ?_)
              refine sw_seq ?_
              refine sw_seq ?_
              refine sw_region ?_
              refine ow_val (val_load_all 1 rfl rfl Tryd.isAgg23 Tryd.sizeOf23 (by show (List.map vU8 (nd k P xx)).length = _; rw [List.length_map]; exact (nd_len _ _ _ h2))) rfl ?_   -- 128
              refine ow_val (val_load_all 0 rfl rfl Tryd.isAgg23 Tryd.sizeOf23 (by show (List.map vU8 (nd k Q yy)).length = _; rw [List.length_map]; exact (nd_len _ _ _ h2))) rfl ?_   -- 129
              by_cases hcd0 : nd k P xx = nd k Q yy
              · -- yes
                refine ow_val ((val_eql_u8s rfl rfl Tryd.eqGuardType23 Tryd.underlying23 Tryd.underlying5 Tryd.sizeOf5 Tryd.isAgg5 (nd_len _ _ _ h2) (nd_len _ _ _ h2)).to (congrArg Value.bool (decide_eq_true (hcd0)))) rfl ?_   -- 130
                refine ow_val (val_move rfl) rfl ?_   -- 131
                refine ow_guard_yes rfl rfl rfl ?_
                refine ow_val (val_load_all 5 rfl rfl Tryd.isAgg23 Tryd.sizeOf23 (by show (List.map vU8 P).length = _; rw [List.length_map]; exact hPl)) rfl ?_   -- 132
                refine ow_guard_yes rfl rfl rfl ?_
                refine ow_val (val_load_all 3 rfl rfl Tryd.isAgg23 Tryd.sizeOf23 (by show (List.map vU8 Q).length = _; rw [List.length_map]; exact hQl)) rfl ?_   -- 133
                by_cases hPQ : P ≠ Q
                · -- yes
                  refine ow_guard_yes rfl rfl rfl ?_
                  refine ow_val ((val_neq_u8s rfl rfl Tryd.eqGuardType23 Tryd.underlying23 Tryd.underlying5 Tryd.sizeOf5 Tryd.isAgg5 hPl hQl).to (congrArg Value.bool (show (!decide _) = true by rw [decide_eq_false hPQ]; rfl))) rfl ?_   -- 134
                  refine ow_guard_yes rfl rfl rfl ?_
                  refine ow_val (val_move rfl) rfl ?_   -- 135
                  first | refine ow_guard_no rfl rfl rfl rfl rfl ?_ | refine ow_guard_none rfl rfl rfl rfl rfl ?_
                  first | refine ow_guard_no rfl rfl rfl rfl rfl ?_ | refine ow_guard_none rfl rfl rfl rfl rfl ?_
                  first | refine ow_guard_no rfl rfl rfl rfl rfl ?_ | refine ow_guard_none rfl rfl rfl rfl rfl ?_
                  refine ow_guard_yes rfl rfl rfl ?_
                  refine ow_val (val_pick_true rfl rfl) rfl ?_   -- 139
                  refine ow_val (val_pick_true rfl rfl) rfl ?_   -- 140
                  refine ow_nil (into ?_)
                  refine sw_true rfl rfl ?_
                  refine sw_seq ?_
                  refine sw_region ?_
                  refine ow_val (val_assign rfl) rfl ?_   -- 6
                  refine ow_nil (into ?_)
                  refine sw_ret (fun w hm => ?_)
                  try dsimp only [thenP, blockP, Nat.beq, cond]
                  exact ret_one _ rfl rfl ⟨rfl, hm.forgetAll⟩
                · -- no
                  refine ow_guard_yes rfl rfl rfl ?_
                  refine ow_val ((val_neq_u8s rfl rfl Tryd.eqGuardType23 Tryd.underlying23 Tryd.underlying5 Tryd.sizeOf5 Tryd.isAgg5 hPl hQl).to (congrArg Value.bool (show (!decide _) = false by rw [decide_eq_true (Decidable.not_not.1 hPQ)]; rfl))) rfl ?_   -- 134
                  refine ow_guard_yes rfl rfl rfl ?_
                  refine ow_val (val_move rfl) rfl ?_   -- 135
                  refine ow_guard_yes rfl rfl rfl ?_
                  refine ow_val (val_load_all 4 rfl rfl Tryd.isAgg23 Tryd.sizeOf23 (by show (List.map vU8 xx).length = _; rw [List.length_map]; exact hxxl)) rfl ?_   -- 136
                  refine ow_guard_yes rfl rfl rfl ?_
                  refine ow_val (val_load_all 2 rfl rfl Tryd.isAgg23 Tryd.sizeOf23 (by show (List.map vU8 yy).length = _; rw [List.length_map]; exact hyyl)) rfl ?_   -- 137
                  refine ow_guard_yes rfl rfl rfl ?_
                  refine ow_val ((val_neq_u8s rfl rfl Tryd.eqGuardType23 Tryd.underlying23 Tryd.underlying5 Tryd.sizeOf5 Tryd.isAgg5 hxxl hyyl).to (congrArg Value.bool (show (!decide _) = true by rw [decide_eq_false hxy]; rfl))) rfl ?_   -- 138
                  refine ow_guard_yes rfl rfl rfl ?_
                  refine ow_val (val_pick_false rfl rfl) rfl ?_   -- 139
                  refine ow_val (val_pick_true rfl rfl) rfl ?_   -- 140
                  refine ow_nil (into ?_)
                  refine sw_true rfl rfl ?_
                  refine sw_seq ?_
                  refine sw_region ?_
                  refine ow_val (val_assign rfl) rfl ?_   -- 6
                  refine ow_nil (into ?_)
                  refine sw_ret (fun w hm => ?_)
                  try dsimp only [thenP, blockP, Nat.beq, cond]
                  exact ret_one _ rfl rfl ⟨rfl, hm.forgetAll⟩
              · -- no
                have hcd := hcd0
                refine ow_val ((val_eql_u8s rfl rfl Tryd.eqGuardType23 Tryd.underlying23 Tryd.underlying5 Tryd.sizeOf5 Tryd.isAgg5 (nd_len _ _ _ h2) (nd_len _ _ _ h2)).to (congrArg Value.bool (decide_eq_false (hcd0)))) rfl ?_   -- 130
                refine ow_val (val_move rfl) rfl ?_   -- 131
                first | refine ow_guard_no rfl rfl rfl rfl rfl ?_ | refine ow_guard_none rfl rfl rfl rfl rfl ?_
                first | refine ow_guard_no rfl rfl rfl rfl rfl ?_ | refine ow_guard_none rfl rfl rfl rfl rfl ?_
                first | refine ow_guard_no rfl rfl rfl rfl rfl ?_ | refine ow_guard_none rfl rfl rfl rfl rfl ?_
                first | refine ow_guard_no rfl rfl rfl rfl rfl ?_ | refine ow_guard_none rfl rfl rfl rfl rfl ?_
                first | refine ow_guard_no rfl rfl rfl rfl rfl ?_ | refine ow_guard_none rfl rfl rfl rfl rfl ?_
                first | refine ow_guard_no rfl rfl rfl rfl rfl ?_ | refine ow_guard_none rfl rfl rfl rfl rfl ?_
                first | refine ow_guard_no rfl rfl rfl rfl rfl ?_ | refine ow_guard_none rfl rfl rfl rfl rfl ?_
                first | refine ow_guard_no rfl rfl rfl rfl rfl ?_ | refine ow_guard_none rfl rfl rfl rfl rfl ?_
                refine ow_val (val_pick_false rfl rfl) rfl ?_   -- 140
                refine ow_nil (into ?_)
                refine sw_false rfl rfl ?_
                refine sw_skip (into ?_)
                refine sw_region_tree _ [2, 3] (.one 0 1 (.alt 1 (.one 2 2 (.one 3 2 .done)) (.alt 2 (.one 1 2 (.one 3 2 .done)) .stop))) (by kernel_rfl) (by kernel_rfl) (fun _ _ _ h => h) (fun _ h => h) (fun _ h => h.drawn _) ?_
                refine lt_held rfl trivial (val_load_all 1 rfl rfl Tryd.isAgg23 Tryd.sizeOf23 (by show (List.map vU8 (nd k P xx)).length = _; rw [List.length_map]; exact (nd_len _ _ _ h2))) rfl ?_   -- 141
                refine lt_alt ?_ ?_
                · -- first 1
                  refine lt_val rfl trivial (val_load_all 0 rfl rfl Tryd.isAgg23 Tryd.sizeOf23 (by show (List.map vU8 (nd k Q yy)).length = _; rw [List.length_map]; exact (nd_len _ _ _ h2))) rfl (fun _ _ h => h) ?_   -- 142
                  refine lt_do rfl trivial (does_store_all 7 rfl rfl rfl (one_u8s _) Tryd.sizeOf23 (by show (List.map vU8 (nd k P xx)).length = _; rw [List.length_map]; exact (nd_len _ _ _ h2)) (by show (List.map vU8 xx).length = _; rw [List.length_map]; exact hxxl)) (fun h => nomatch h) (fun _ _ => ?_)
                  refine lt_do rfl trivial (does_store_all 6 rfl rfl rfl (one_u8s _) Tryd.sizeOf23 (by show (List.map vU8 (nd k Q yy)).length = _; rw [List.length_map]; exact (nd_len _ _ _ h2)) (by show (List.map vU8 yy).length = _; rw [List.length_map]; exact hyyl)) (fun h => nomatch h) (fun _ _ => ?_)
                  refine lt_done (into ?_)
                  refine sw_region ?_
                  refine ow_val (val_add_int ((j + 1 : Nat) : Int) rfl rfl (by omega) (by omega)) rfl ?_   -- 143
                  refine ow_val (val_move rfl) rfl ?_   -- 79
                  exact ow_nil (fun w hm => ⟨j + 1, ⟨by omega, by rw [hxs, hys, if_neg (by rw [hwj]; decide), if_neg (by rw [hwj]; decide)]; exact hcd⟩, by omega, ⟨rfl, rfl, rfl, rfl, rfl, rfl, rfl, trivial⟩, by rw [hxs, hys, if_neg (by rw [hwj]; decide), if_neg (by rw [hwj]; decide)]; exact hm.only (.cons _ (.cons _ (.cons _ (.cons _ (.cons _ (.cons _ (.cons_cons _ (.cons_cons _ (.cons_cons _ (.cons_cons _ (List.nil_sublist _)))))))))))⟩)
                refine lt_alt ?_ ?_
                · -- first 2
                  refine lt_do rfl trivial (does_store_all 7 rfl rfl rfl (one_u8s _) Tryd.sizeOf23 (by show (List.map vU8 (nd k P xx)).length = _; rw [List.length_map]; exact (nd_len _ _ _ h2)) (by show (List.map vU8 xx).length = _; rw [List.length_map]; exact hxxl)) (fun h => nomatch h) (fun _ _ => ?_)
                  refine lt_val rfl trivial (val_load_all 0 rfl rfl Tryd.isAgg23 Tryd.sizeOf23 (by show (List.map vU8 (nd k Q yy)).length = _; rw [List.length_map]; exact (nd_len _ _ _ h2))) rfl (fun h => nomatch h) ?_   -- 142
                  refine lt_do rfl trivial (does_store_all 6 rfl rfl rfl (one_u8s _) Tryd.sizeOf23 (by show (List.map vU8 (nd k Q yy)).length = _; rw [List.length_map]; exact (nd_len _ _ _ h2)) (by show (List.map vU8 yy).length = _; rw [List.length_map]; exact hyyl)) (fun h => nomatch h) (fun _ _ => ?_)
                  refine lt_done (into ?_)
                  refine sw_region ?_
                  refine ow_val (val_add_int ((j + 1 : Nat) : Int) rfl rfl (by omega) (by omega)) rfl ?_   -- 143
                  refine ow_val (val_move rfl) rfl ?_   -- 79
                  exact ow_nil (fun w hm => ⟨j + 1, ⟨by omega, by rw [hxs, hys, if_neg (by rw [hwj]; decide), if_neg (by rw [hwj]; decide)]; exact hcd⟩, by omega, ⟨rfl, rfl, rfl, rfl, rfl, rfl, rfl, trivial⟩, by rw [hxs, hys, if_neg (by rw [hwj]; decide), if_neg (by rw [hwj]; decide)]; exact hm.only (.cons _ (.cons _ (.cons _ (.cons _ (.cons _ (.cons _ (.cons_cons _ (.cons_cons _ (.cons_cons _ (.cons_cons _ (List.nil_sublist _)))))))))))⟩)
                exact lt_stop
            exact lt_stop
          exact lt_stop
        · -- no
          have hwj := (Bool.not_eq_false _).mp hwj0
          refine ow_val ((val_not rfl).to (congrArg Value.bool (show (!_) = false by rw [(Bool.not_eq_false _).mp hwj0]; rfl))) rfl ?_   -- 101
          refine ow_nil (into ?_)
          refine sw_false rfl rfl ?_
          refine sw_skip (into ?_)
          refine sw_seq ?_
          refine sw_region ?_
          refine ow_val (val_fieldAddr (m := 0) (e := 0) rfl Tryd.underlying27 rfl rfl Tryd.sizeOf3 rfl) rfl ?_   -- 107
          refine ow_val (val_load_at 7 rfl rfl Tryd.isAgg3 rfl) rfl ?_   -- 108
          refine ow_val (val_load_all 3 rfl rfl Tryd.isAgg23 Tryd.sizeOf23 (by show (List.map vU8 xx).length = _; rw [List.length_map]; exact hxxl)) rfl ?_   -- 109
          refine ow_val (val_load_all 2 rfl rfl Tryd.isAgg23 Tryd.sizeOf23 (by show (List.map vU8 P).length = _; rw [List.length_map]; exact hPl)) rfl ?_   -- 110
          refine ow_call_pure (v := .tuple #[.agg ((nd k xx P).map vU8).toArray, vInt ((0 : Nat) : Int)]) (callsTo Tryd.func21 rfl (by kernel_rfl) rfl) rfl (fun w hm => (by have h := node_any w (hK.mem0 hm) (k : Int) xx P hxxl hPl; rw [digO_node h1 h2 hxxf hPf] at h; exact h)) ?_   -- 111
          refine ow_val (val_move rfl) rfl ?_   -- 106
          refine ow_val (val_extract rfl rfl) rfl ?_   -- 112
          refine ow_val (val_extract rfl rfl) rfl ?_   -- 113
          refine ow_new (acts_alloc zD) rfl (fun b19 hb19 => ?_)   -- 19
          refine ow_do_eq (does_store_all 0 rfl rfl rfl (one_u8s _) Tryd.sizeOf23 (by show (List.map vU8 (nd k xx P)).length = _; rw [List.length_map]; exact (nd_len _ _ _ h2)) (by show (List.map vU8 zeros32).length = _; rw [List.length_map]; exact zeros32_len)) ?_
          refine ow_val (val_assign rfl) rfl ?_   -- 20
          refine ow_nil (into ?_)
          refine sw_seq ?_
          refine sw_region ?_
          refine ow_val (val_fieldAddr (m := 0) (e := 0) rfl Tryd.underlying27 rfl rfl Tryd.sizeOf3 rfl) rfl ?_   -- 115
          refine ow_val (val_load_at 8 rfl rfl Tryd.isAgg3 rfl) rfl ?_   -- 116
          refine ow_val (val_load_all 2 rfl rfl Tryd.isAgg23 Tryd.sizeOf23 (by show (List.map vU8 yy).length = _; rw [List.length_map]; exact hyyl)) rfl ?_   -- 117
          refine ow_val (val_load_all 1 rfl rfl Tryd.isAgg23 Tryd.sizeOf23 (by show (List.map vU8 Q).length = _; rw [List.length_map]; exact hQl)) rfl ?_   -- 118
          refine ow_call_pure (v := .tuple #[.agg ((nd k yy Q).map vU8).toArray, vInt ((0 : Nat) : Int)]) (callsTo Tryd.func21 rfl (by kernel_rfl) rfl) rfl (fun w hm => (by have h := node_any w (hK.mem0 hm) (k : Int) yy Q hyyl hQl; rw [digO_node h1 h2 hyyf hQf] at h; exact h)) ?_   -- 119
          refine ow_val (val_move rfl) rfl ?_   -- 114
          refine ow_val (val_extract rfl rfl) rfl ?_   -- 120
          refine ow_val (val_extract rfl rfl) rfl ?_   -- 121
          refine ow_new (acts_alloc zD) rfl (fun b21 hb21 => ?_)   -- 21
          refine ow_do_eq (does_store_all 0 rfl rfl rfl (one_u8s _) Tryd.sizeOf23 (by show (List.map vU8 (nd k yy Q)).length = _; rw [List.length_map]; exact (nd_len _ _ _ h2)) (by show (List.map vU8 zeros32).length = _; rw [List.length_map]; exact zeros32_len)) ?_
          refine ow_val (val_assign rfl) rfl ?_   -- 22
          refine ow_nil (into ?_)
          refine sw_seq ?_
          refine sw_seq ?_
          refine sw_region ?_
          refine ow_val (val_move rfl) rfl ?_   -- 122
          refine ow_val ((val_neq_int rfl rfl).to (v' := .bool false) (congrArg Value.bool (decide_eq_false (fun h => h (by simp))))) rfl ?_   -- 123
          refine ow_val (val_move rfl) rfl ?_   -- 124
          refine ow_guard_yes rfl rfl rfl ?_
          refine ow_val (val_move rfl) rfl ?_   -- 125
          refine ow_guard_yes rfl rfl rfl ?_
          refine ow_val ((val_neq_int rfl rfl).to (v' := .bool false) (congrArg Value.bool (decide_eq_false (fun h => h (by simp))))) rfl ?_   -- 126
          refine ow_val (val_pick_false rfl rfl) rfl ?_   -- 127
          refine ow_nil (into ?_)
          refine sw_false rfl rfl ?_
          refine sw_skip (into ?_)
          refine sw_seq ?_
          refine sw_seq ?_
          refine sw_region ?_
          refine ow_val (val_load_all 1 rfl rfl Tryd.isAgg23 Tryd.sizeOf23 (by show (List.map vU8 (nd k xx P)).length = _; rw [List.length_map]; exact (nd_len _ _ _ h2))) rfl ?_   -- 128
          refine ow_val (val_load_all 0 rfl rfl Tryd.isAgg23 Tryd.sizeOf23 (by show (List.map vU8 (nd k yy Q)).length = _; rw [List.length_map]; exact (nd_len _ _ _ h2))) rfl ?_   -- 129
          by_cases hcd0 : nd k xx P = nd k yy Q
          · -- yes
            refine ow_val ((val_eql_u8s rfl rfl Tryd.eqGuardType23 Tryd.underlying23 Tryd.underlying5 Tryd.sizeOf5 Tryd.isAgg5 (nd_len _ _ _ h2) (nd_len _ _ _ h2)).to (congrArg Value.bool (decide_eq_true (hcd0)))) rfl ?_   -- 130
            refine ow_val (val_move rfl) rfl ?_   -- 131
            refine ow_guard_yes rfl rfl rfl ?_
            refine ow_val (val_load_all 5 rfl rfl Tryd.isAgg23 Tryd.sizeOf23 (by show (List.map vU8 xx).length = _; rw [List.length_map]; exact hxxl)) rfl ?_   -- 132
            refine ow_guard_yes rfl rfl rfl ?_
            refine ow_val (val_load_all 3 rfl rfl Tryd.isAgg23 Tryd.sizeOf23 (by show (List.map vU8 yy).length = _; rw [List.length_map]; exact hyyl)) rfl ?_   -- 133
            refine ow_guard_yes rfl rfl rfl ?_
            refine ow_val ((val_neq_u8s rfl rfl Tryd.eqGuardType23 Tryd.underlying23 Tryd.underlying5 Tryd.sizeOf5 Tryd.isAgg5 hxxl hyyl).to (congrArg Value.bool (show (!decide _) = true by rw [decide_eq_false hxy]; rfl))) rfl ?_   -- 134
            refine ow_guard_yes rfl rfl rfl ?_
            refine ow_val (val_move rfl) rfl ?_   -- 135
            first | refine ow_guard_no rfl rfl rfl rfl rfl ?_ | refine ow_guard_none rfl rfl rfl rfl rfl ?_
            first | refine ow_guard_no rfl rfl rfl rfl rfl ?_ | refine ow_guard_none rfl rfl rfl rfl rfl ?_
            first | refine ow_guard_no rfl rfl rfl rfl rfl ?_ | refine ow_guard_none rfl rfl rfl rfl rfl ?_
            refine ow_guard_yes rfl rfl rfl ?_
            refine ow_val (val_pick_true rfl rfl) rfl ?_   -- 139
            refine ow_val (val_pick_true rfl rfl) rfl ?_   -- 140
            refine ow_nil (into ?_)
            refine sw_true rfl rfl ?_
            refine sw_seq ?_
            refine sw_region ?_
            refine ow_val (val_assign rfl) rfl ?_   -- 6
            refine ow_nil (into ?_)
            refine sw_ret (fun w hm => ?_)
            try dsimp only [thenP, blockP, Nat.beq, cond]
            exact ret_one _ rfl rfl ⟨rfl, hm.forgetAll⟩
          · -- no
            have hcd := hcd0
            refine ow_val ((val_eql_u8s rfl rfl Tryd.eqGuardType23 Tryd.underlying23 Tryd.underlying5 Tryd.sizeOf5 Tryd.isAgg5 (nd_len _ _ _ h2) (nd_len _ _ _ h2)).to (congrArg Value.bool (decide_eq_false (hcd0)))) rfl ?_   -- 130
            refine ow_val (val_move rfl) rfl ?_   -- 131
            first | refine ow_guard_no rfl rfl rfl rfl rfl ?_ | refine ow_guard_none rfl rfl rfl rfl rfl ?_
            first | refine ow_guard_no rfl rfl rfl rfl rfl ?_ | refine ow_guard_none rfl rfl rfl rfl rfl ?_
            first | refine ow_guard_no rfl rfl rfl rfl rfl ?_ | refine ow_guard_none rfl rfl rfl rfl rfl ?_
            first | refine ow_guard_no rfl rfl rfl rfl rfl ?_ | refine ow_guard_none rfl rfl rfl rfl rfl ?_
            first | refine ow_guard_no rfl rfl rfl rfl rfl ?_ | refine ow_guard_none rfl rfl rfl rfl rfl ?_
            first | refine ow_guard_no rfl rfl rfl rfl rfl ?_ | refine ow_guard_none rfl rfl rfl rfl rfl ?_
            first | refine ow_guard_no rfl rfl rfl rfl rfl ?_ | refine ow_guard_none rfl rfl rfl rfl rfl ?_
            first | refine ow_guard_no rfl rfl rfl rfl rfl ?_ | refine ow_guard_none rfl rfl rfl rfl rfl ?_
            refine ow_val (val_pick_false rfl rfl) rfl ?_   -- 140
            refine ow_nil (into ?_)
            refine sw_false rfl rfl ?_
            refine sw_skip (into ?_)
            refine sw_region_tree _ [2, 3] (.one 0 1 (.alt 1 (.one 2 2 (.one 3 2 .done)) (.alt 2 (.one 1 2 (.one 3 2 .done)) .stop))) (by kernel_rfl) (by kernel_rfl) (fun _ _ _ h => h) (fun _ h => h) (fun _ h => h.drawn _) ?_
            refine lt_held rfl trivial (val_load_all 1 rfl rfl Tryd.isAgg23 Tryd.sizeOf23 (by show (List.map vU8 (nd k xx P)).length = _; rw [List.length_map]; exact (nd_len _ _ _ h2))) rfl ?_   -- 141
            refine lt_alt ?_ ?_
            · -- first 1
              refine lt_val rfl trivial (val_load_all 0 rfl rfl Tryd.isAgg23 Tryd.sizeOf23 (by show (List.map vU8 (nd k yy Q)).length = _; rw [List.length_map]; exact (nd_len _ _ _ h2))) rfl (fun _ _ h => h) ?_   -- 142
              refine lt_do rfl trivial (does_store_all 7 rfl rfl rfl (one_u8s _) Tryd.sizeOf23 (by show (List.map vU8 (nd k xx P)).length = _; rw [List.length_map]; exact (nd_len _ _ _ h2)) (by show (List.map vU8 xx).length = _; rw [List.length_map]; exact hxxl)) (fun h => nomatch h) (fun _ _ => ?_)
              refine lt_do rfl trivial (does_store_all 6 rfl rfl rfl (one_u8s _) Tryd.sizeOf23 (by show (List.map vU8 (nd k yy Q)).length = _; rw [List.length_map]; exact (nd_len _ _ _ h2)) (by show (List.map vU8 yy).length = _; rw [List.length_map]; exact hyyl)) (fun h => nomatch h) (fun _ _ => ?_)
              refine lt_done (into ?_)
              refine sw_region ?_
              refine ow_val (val_add_int ((j + 1 : Nat) : Int) rfl rfl (by omega) (by omega)) rfl ?_   -- 143
              refine ow_val (val_move rfl) rfl ?_   -- 79
              exact ow_nil (fun w hm => ⟨j + 1, ⟨by omega, by rw [hxs, hys, if_pos hwj, if_pos hwj]; exact hcd⟩, by omega, ⟨rfl, rfl, rfl, rfl, rfl, rfl, rfl, trivial⟩, by rw [hxs, hys, if_pos hwj, if_pos hwj]; exact hm.only (.cons _ (.cons _ (.cons _ (.cons _ (.cons _ (.cons _ (.cons_cons _ (.cons_cons _ (.cons_cons _ (.cons_cons _ (List.nil_sublist _)))))))))))⟩)
            refine lt_alt ?_ ?_
            · -- first 2
              refine lt_do rfl trivial (does_store_all 7 rfl rfl rfl (one_u8s _) Tryd.sizeOf23 (by show (List.map vU8 (nd k xx P)).length = _; rw [List.length_map]; exact (nd_len _ _ _ h2)) (by show (List.map vU8 xx).length = _; rw [List.length_map]; exact hxxl)) (fun h => nomatch h) (fun _ _ => ?_)
              refine lt_val rfl trivial (val_load_all 0 rfl rfl Tryd.isAgg23 Tryd.sizeOf23 (by show (List.map vU8 (nd k yy Q)).length = _; rw [List.length_map]; exact (nd_len _ _ _ h2))) rfl (fun h => nomatch h) ?_   -- 142
              refine lt_do rfl trivial (does_store_all 6 rfl rfl rfl (one_u8s _) Tryd.sizeOf23 (by show (List.map vU8 (nd k yy Q)).length = _; rw [List.length_map]; exact (nd_len _ _ _ h2)) (by show (List.map vU8 yy).length = _; rw [List.length_map]; exact hyyl)) (fun h => nomatch h) (fun _ _ => ?_)
              refine lt_done (into ?_)
              refine sw_region ?_
              refine ow_val (val_add_int ((j + 1 : Nat) : Int) rfl rfl (by omega) (by omega)) rfl ?_   -- 143
              refine ow_val (val_move rfl) rfl ?_   -- 79
              exact ow_nil (fun w hm => ⟨j + 1, ⟨by omega, by rw [hxs, hys, if_pos hwj, if_pos hwj]; exact hcd⟩, by omega, ⟨rfl, rfl, rfl, rfl, rfl, rfl, rfl, trivial⟩, by rw [hxs, hys, if_pos hwj, if_pos hwj]; exact hm.only (.cons _ (.cons _ (.cons _ (.cons _ (.cons _ (.cons _ (.cons_cons _ (.cons_cons _ (.cons_cons _ (.cons_cons _ (List.nil_sublist _)))))))))))⟩)
            exact lt_stop
    · -- else
      obtain rfl : j = proof.length := by omega
      exact absurd (hxx.symm.trans (hA.symm.trans (h3.trans (hB.trans (by rw [hqp]; exact hyy))))) hxy

theorem mcheckShows_any (v0 : Int) (leaf : List UInt8) (hll : leaf.length = 32) (i n : UInt64) (root : List UInt8) (hrl : root.length = 32) (w : World) (hK : KW w) (a : Option Addr) (c : Nat) (proof : List (List UInt8)) (hpl : ∀ d ∈ proof, d.length = 32) (hr : Rd w a (proof.flatMap fun d => d.map vU8)) (hc : proof.length ≤ c) (hl : proof.length < 9223372036854775808) (hb : (proof.length + 2) * 32 ≤ 140737488355328) (lef2 : List UInt8) (hl2l : lef2.length = 32) (a2 : Option Addr) (c2 : Nat) (qs : List (List UInt8)) (hql : ∀ d ∈ qs, d.length = 32) (hq : Rd w a2 (qs.flatMap fun d => d.map vU8)) (hc2 : qs.length ≤ c2) (hl2 : qs.length < 9223372036854775808) (hb2 : (qs.length + 2) * 32 ≤ 140737488355328) : Calls Tryd.prog 7 #[.agg (askC v0 leaf i n (.slice a proof.length c) root).toArray, .agg ((lef2).map vU8).toArray, .slice a2 qs.length c2] w fun e w' => ∃ v, e = .returned v ∧ v = .bool true ∧ Mem w [] [] w' := by
  by_cases he : (rootO v0 leaf i n proof).2 = 0
  · by_cases hf : (rootO v0 lef2 i n qs).2 = 0
    · by_cases h3 : (rootO v0 leaf i n proof).1 = (rootO v0 lef2 i n qs).1
      · by_cases h4 : lef2 = leaf
        · exact shows_4 v0 leaf hll i n root hrl w hK a c proof hpl hr hc hl hb lef2 hl2l a2 c2 qs hql hq hc2 hl2 hb2 he hf h3 h4
        · obtain ⟨k, hk, h1, h2, hlf, hpf, hwl, hA⟩ := rootO_ok he
          subst hk
          obtain ⟨k', hk, _, _, hl2f, hqf, hwq, hB⟩ := rootO_ok hf
          obtain rfl : k = k' := by omega
          exact shows_way k leaf hll i n root hrl w hK a c proof hpl hr hc hl hb lef2 hl2l a2 c2 qs hql hq hc2 hl2 hb2 h1 h2 _ rfl hwl hwq (by omega) hlf hl2f hpf hqf (fun h => h4 h.symm) hA hB he hf h3
      · exact shows_3 v0 leaf hll i n root hrl w hK a c proof hpl hr hc hl hb lef2 hl2l a2 c2 qs hql hq hc2 hl2 hb2 he hf h3
    · exact shows_2 v0 leaf hll i n root hrl w hK a c proof hpl hr hc hl hb lef2 hl2l a2 c2 qs hql hq hc2 hl2 hb2 he hf
  · exact shows_1 v0 leaf hll i n root hrl w hK a c proof hpl hr hc hl hb lef2 hl2l a2 c2 qs hql hq hc2 hl2 hb2 he
end Go.Proofs.YtbhbhdojmacpmaaDoor
