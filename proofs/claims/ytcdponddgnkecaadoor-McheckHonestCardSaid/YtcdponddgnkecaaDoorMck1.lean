import Derived.Test.YtcdponddgnkecaaDoorDig3
import Derived.Test.YtcdponddgnkecaaDoorSxL
import Derived.Test.YtcdponddgnkecaaDoorPMck
import Derived.Test.YtcdponddgnkecaaDoorProg
set_option linter.unusedVariables false
set_option linter.unusedSimpArgs false
namespace Go.Proofs.YtcdponddgnkecaaDoor
open Go.Sx Go.Ps
theorem below_any (n : UInt64) (hn2 : 2 ≤ n.toNat) (w : World) : Calls Tryd.prog 91 #[vU64 n] w fun e w' => ∃ v, e = .returned v ∧ v = vU64 (splitU n) ∧ Mem w [] [] w' := by
  refine calls_of_sw (vs := [vU64 n]) Tryd.func91 rfl Tryd.ntmps91 rfl (SW.begin ?_)
  refine sw_seq ?_
  refine sw_region ?_
  refine ow_val (val_assign rfl) rfl ?_
  refine ow_nil (into ?_)
  refine sw_seq ?_
  refine sw_region ?_
  refine ow_val (val_assign rfl) rfl ?_
  refine ow_nil (into ?_)
  refine sw_seq ?_
  refine sw_block ?_
  refine sw_loop (σ := UInt64) (fun v => (∃ j, v.toNat = 2 ^ j) ∧ v.toNat < n.toNat) (fun v => [(3, vU64 v), (0, vU64 n)]) (fun _ => Mem w [] []) (fun v => n.toNat - v.toNat) (UInt64.ofNat (Int.toNat 1)) ⟨⟨0, rfl⟩, (show 1 < n.toNat by omega)⟩ ⟨rfl, rfl, trivial⟩ (fun w hm => hm) ?_
  rintro v ⟨⟨j, hj⟩, hv⟩
  have hnl := n.toNat_lt
  have hvp : 1 ≤ v.toNat := by rw [hj]; exact Nat.one_le_two_pow
  refine sw_seq ?_
  refine sw_seq ?_
  refine sw_region ?_
  refine ow_val (val_move rfl) rfl ?_
  refine ow_val (val_move rfl) rfl ?_
  refine ow_val (val_move rfl) rfl ?_
  refine ow_val (val_sub_u64 rfl rfl) rfl ?_
  refine ow_val (val_lss_u64 rfl rfl) rfl ?_
  refine ow_nil (into ?_)
  refine sw_if rfl (fun h0 => ?_) (fun h0 => ?_)
  · -- then
    have hlt : 2 * v.toNat < n.toNat := by
      have h3 := UInt64.lt_iff_toNat_lt.1 h0
      rw [UInt64.toNat_sub_of_le _ _ (UInt64.le_iff_toNat_le.2 (by omega))] at h3
      omega
    have hm2 : (v * UInt64.ofNat (Int.toNat 2)).toNat = v.toNat * 2 := by
      rw [UInt64.toNat_mul]; show v.toNat * 2 % 2 ^ 64 = _; omega
    refine sw_skip (into ?_)
    refine sw_block ?_
    refine sw_region ?_
    refine ow_val (val_move rfl) rfl ?_
    refine ow_val (val_mul_u64 rfl rfl) rfl ?_
    refine ow_val (val_assign rfl) rfl ?_
    exact ow_nil (fun w hm => ⟨v * UInt64.ofNat (Int.toNat 2), ⟨⟨j + 1, by rw [hm2, hj, Nat.pow_succ]⟩, by rw [hm2]; omega⟩, by rw [hm2]; omega, ⟨rfl, rfl, trivial⟩, hm⟩)
  · -- else
    have hge : n.toNat ≤ 2 * v.toNat := Nat.le_of_not_lt fun h3 => h0 (UInt64.lt_iff_toNat_lt.2 (by rw [UInt64.toNat_sub_of_le _ _ (UInt64.le_iff_toNat_le.2 (by omega))]; omega))
    refine sw_exit (into ?_)
    refine sw_seq ?_
    refine sw_region ?_
    refine ow_val (val_move rfl) rfl ?_
    refine ow_val (val_assign rfl) rfl ?_
    refine ow_nil (into ?_)
    exact sw_ret (fun w hm => ret_one _ rfl rfl ⟨by rw [splitU_eq hj hv hge], hm⟩)

theorem rsplit_any (n : UInt64) (hn2 : 2 ≤ n.toNat) (w : World) : Calls Tryd.prog 103 #[vU64 n] w fun e w' => ∃ v, e = .returned v ∧ v = vU64 (splitU n) ∧ Mem w [] [] w' := by
  refine calls_of_sw (vs := [vU64 n]) Tryd.func103 rfl Tryd.ntmps103 rfl (SW.begin ?_)
  refine sw_seq ?_
  refine sw_region ?_
  refine ow_val (val_assign rfl) rfl ?_
  refine ow_nil (into ?_)
  refine sw_seq ?_
  refine sw_region ?_
  refine ow_val (val_assign rfl) rfl ?_
  refine ow_nil (into ?_)
  refine sw_seq ?_
  refine sw_block ?_
  refine sw_loop (σ := UInt64) (fun v => (∃ j, v.toNat = 2 ^ j) ∧ v.toNat < n.toNat) (fun v => [(3, vU64 v), (0, vU64 n)]) (fun _ => Mem w [] []) (fun v => n.toNat - v.toNat) (UInt64.ofNat (Int.toNat 1)) ⟨⟨0, rfl⟩, (show 1 < n.toNat by omega)⟩ ⟨rfl, rfl, trivial⟩ (fun w hm => hm) ?_
  rintro v ⟨⟨j, hj⟩, hv⟩
  have hnl := n.toNat_lt
  have hvp : 1 ≤ v.toNat := by rw [hj]; exact Nat.one_le_two_pow
  refine sw_seq ?_
  refine sw_seq ?_
  refine sw_region ?_
  refine ow_val (val_move rfl) rfl ?_
  refine ow_val (val_move rfl) rfl ?_
  refine ow_val (val_sub_u64 rfl rfl) rfl ?_
  refine ow_val (val_quo_u64 rfl rfl (by decide)) rfl ?_
  refine ow_val (val_leq_u64 rfl rfl) rfl ?_
  refine ow_nil (into ?_)
  refine sw_if rfl (fun h0 => ?_) (fun h0 => ?_)
  · -- then
    have hdv : ((n - UInt64.ofNat (Int.toNat 1)) / UInt64.ofNat (Int.toNat 2)).toNat = (n.toNat - 1) / 2 := by
      rw [UInt64.toNat_div, UInt64.toNat_sub_of_le _ _ (UInt64.le_iff_toNat_le.2 (show (UInt64.ofNat (Int.toNat 1)).toNat ≤ n.toNat from (show 1 ≤ n.toNat by omega)))]; rfl
    have hlt : 2 * v.toNat < n.toNat := by
      have h3 := UInt64.le_iff_toNat_le.1 h0
      rw [hdv] at h3
      omega
    have hm2 : (v * UInt64.ofNat (Int.toNat 2)).toNat = v.toNat * 2 := by
      rw [UInt64.toNat_mul]; show v.toNat * 2 % 2 ^ 64 = _; omega
    refine sw_skip (into ?_)
    refine sw_block ?_
    refine sw_region ?_
    refine ow_val (val_move rfl) rfl ?_
    refine ow_val (val_mul_u64 rfl rfl) rfl ?_
    refine ow_val (val_assign rfl) rfl ?_
    exact ow_nil (fun w hm => ⟨v * UInt64.ofNat (Int.toNat 2), ⟨⟨j + 1, by rw [hm2, hj, Nat.pow_succ]⟩, by rw [hm2]; omega⟩, by rw [hm2]; omega, ⟨rfl, rfl, trivial⟩, hm⟩)
  · -- else
    have hdv : ((n - UInt64.ofNat (Int.toNat 1)) / UInt64.ofNat (Int.toNat 2)).toNat = (n.toNat - 1) / 2 := by
      rw [UInt64.toNat_div, UInt64.toNat_sub_of_le _ _ (UInt64.le_iff_toNat_le.2 (show (UInt64.ofNat (Int.toNat 1)).toNat ≤ n.toNat from (show 1 ≤ n.toNat by omega)))]; rfl
    have hge : n.toNat ≤ 2 * v.toNat := Nat.le_of_not_lt fun h3 => h0 (UInt64.le_iff_toNat_le.2 (by rw [hdv]; omega))
    refine sw_exit (into ?_)
    refine sw_seq ?_
    refine sw_region ?_
    refine ow_val (val_move rfl) rfl ?_
    refine ow_val (val_assign rfl) rfl ?_
    refine ow_nil (into ?_)
    exact sw_ret (fun w hm => ret_one _ rfl rfl ⟨by rw [splitU_eq hj hv hge], hm⟩)

theorem mcheck_no (v0 : Int) (hw : wd v0 = false) (w : World) (a : Option Addr) (c : Nat) (ks : List (List UInt8)) : Calls Tryd.prog 89 #[vInt v0, .slice a ks.length c] w fun e w' => ∃ v, e = .returned v ∧ v = vInt ((chk v0 ks : Nat) : Int) ∧ Mem w [] [] w' := by
  refine calls_of_sw (vs := [vInt v0, .slice a ks.length c]) Tryd.func89 rfl Tryd.ntmps89 rfl (SW.begin ?_)
  refine sw_seq ?_
  refine sw_region ?_
  refine ow_val (val_assign rfl) rfl ?_
  refine ow_nil (into ?_)
  refine sw_seq ?_
  refine sw_seq ?_
  refine sw_region ?_
  refine ow_val (val_move rfl) rfl ?_
  by_cases hw1 : v0 < 1
  · -- yes
    refine ow_val ((val_lss_int rfl rfl).to (congrArg Value.bool (decide_eq_true (by omega)))) rfl ?_
    refine ow_val (val_move rfl) rfl ?_
    first | refine ow_guard_no rfl rfl rfl rfl rfl ?_ | refine ow_guard_none rfl rfl rfl rfl rfl ?_
    first | refine ow_guard_no rfl rfl rfl rfl rfl ?_ | refine ow_guard_none rfl rfl rfl rfl rfl ?_
    refine ow_val (val_pick_true rfl rfl) rfl ?_
    refine ow_nil (into ?_)
    refine sw_true rfl rfl ?_
    refine sw_seq ?_
    refine sw_region ?_
    refine ow_val (val_assign rfl) rfl ?_
    refine ow_nil (into ?_)
    refine sw_ret (fun w hm => ?_)
    try dsimp only [thenP, blockP, Nat.beq, cond]
    exact ret_one _ rfl rfl ⟨by rw [chk_no hw]; rfl, hm.forgetAll⟩
  · -- no
    refine ow_val ((val_lss_int rfl rfl).to (congrArg Value.bool (decide_eq_false (by omega)))) rfl ?_
    refine ow_val (val_move rfl) rfl ?_
    refine ow_guard_yes rfl rfl rfl ?_
    refine ow_val (val_move rfl) rfl ?_
    by_cases hw2 : 32 < v0
    · -- yes
      refine ow_guard_yes rfl rfl rfl ?_
      refine ow_val ((val_gtr_int rfl rfl).to (congrArg Value.bool (decide_eq_true (by omega)))) rfl ?_
      refine ow_val (val_pick_false rfl rfl) rfl ?_
      refine ow_nil (into ?_)
      refine sw_true rfl rfl ?_
      refine sw_seq ?_
      refine sw_region ?_
      refine ow_val (val_assign rfl) rfl ?_
      refine ow_nil (into ?_)
      refine sw_ret (fun w hm => ?_)
      try dsimp only [thenP, blockP, Nat.beq, cond]
      exact ret_one _ rfl rfl ⟨by rw [chk_no hw]; rfl, hm.forgetAll⟩
    · exfalso; have h9 := mt wd_iff.2 (by rw [hw]; simp); omega

theorem mcheck_yes (v0 : Int) (hw : wd v0 = true) (w : World) (a : Option Addr) (c : Nat) (ks : List (List UInt8)) (hks : ∀ d ∈ ks, d.length = 32) (hr : Rd w a (ks.flatMap fun d => d.map vU8)) (hc : ks.length ≤ c) (hl : ks.length < 9223372036854775808) : Calls Tryd.prog 89 #[vInt v0, .slice a ks.length c] w fun e w' => ∃ v, e = .returned v ∧ v = vInt ((chk v0 ks : Nat) : Int) ∧ Mem w [] [] w' := by
  have hwd := wd_iff.1 hw
  refine calls_of_sw (vs := [vInt v0, .slice a ks.length c]) Tryd.func89 rfl Tryd.ntmps89 rfl (SW.begin ?_)
  refine sw_seq ?_
  refine sw_region ?_
  refine ow_val (val_assign rfl) rfl ?_
  refine ow_nil (into ?_)
  refine sw_seq ?_
  refine sw_seq ?_
  refine sw_region ?_
  refine ow_val (val_move rfl) rfl ?_
  by_cases hw1 : v0 < 1
  · exfalso; omega
  · -- no
    refine ow_val ((val_lss_int rfl rfl).to (congrArg Value.bool (decide_eq_false (by omega)))) rfl ?_
    refine ow_val (val_move rfl) rfl ?_
    refine ow_guard_yes rfl rfl rfl ?_
    refine ow_val (val_move rfl) rfl ?_
    by_cases hw2 : 32 < v0
    · exfalso; omega
    · -- no
      refine ow_guard_yes rfl rfl rfl ?_
      refine ow_val ((val_gtr_int rfl rfl).to (congrArg Value.bool (decide_eq_false (by omega)))) rfl ?_
      refine ow_val (val_pick_false rfl rfl) rfl ?_
      refine ow_nil (into ?_)
      refine sw_false rfl rfl ?_
      refine sw_skip (into ?_)
      refine sw_seq ?_
      refine sw_seq ?_
      refine sw_region ?_
      refine ow_val (val_move rfl) rfl ?_
      refine ow_val (val_len rfl Tryd.underlying22) rfl ?_
      refine ow_val (val_move rfl) rfl ?_
      refine ow_nil (into ?_)
      refine sw_block ?_
      refine sw_loop (σ := Nat) (fun i => i ≤ ks.length ∧ ∀ j, j < i → fm v0 (ks.getD j default) = true) (fun i => [(15, vInt (i : Int)), (14, vInt (ks.length : Int)), (13, .slice a ks.length c), (0, vInt v0)]) (fun _ => Mem w [] []) (fun i => ks.length - i) 0 ⟨Nat.zero_le _, fun j h => absurd h (Nat.not_lt_zero j)⟩ ⟨rfl, rfl, rfl, rfl, trivial⟩ (fun w hm => hm.forgetAll) ?_
      rintro i ⟨hi, hall⟩
      refine sw_seq ?_
      refine sw_region ?_
      refine ow_val (val_lss_int rfl rfl) rfl ?_
      refine ow_nil (into ?_)
      refine sw_seq ?_
      refine sw_if rfl (fun h0 => ?_) (fun h0 => ?_)
      · -- then
        obtain ⟨ba, oa, rfl⟩ := hr.addr (by rw [flatMap_size ks (fun x hx => by rw [List.length_map]; exact hks x hx)]; omega)
        refine sw_skip (into ?_)
        refine sw_seq ?_
        refine sw_block ?_
        refine sw_seq ?_
        refine sw_region ?_
        refine ow_val (val_indexAddr_slice (i) (oa + i * 32) rfl rfl Tryd.underlying22 Tryd.sizeOf41 (by omega) (by omega) (by omega)) rfl ?_
        refine ow_val (val_load_elem (cells := fun d => d.map vU8) (l := ks) (o := oa) (i := i) rfl Tryd.isAgg41 Tryd.sizeOf41 (fun x hx => by rw [List.length_map]; exact hks x hx) (by omega) (by omega) (fun w' hm => hr.mem hm)) rfl ?_
        refine ow_new (acts_alloc zD) rfl (fun b6 hb6 => ?_)
        refine ow_do_eq (does_store_all 0 rfl rfl rfl (one_u8s _) Tryd.sizeOf41 (by show (List.map vU8 (ks.getD i default)).length = _; rw [List.length_map]; exact (hks _ (getD_mem (by omega)))) (by show (List.map vU8 zeros32).length = _; rw [List.length_map]; exact zeros32_len)) ?_
        refine ow_nil (into ?_)
        refine sw_seq ?_
        refine sw_region ?_
        refine ow_val (val_move rfl) rfl ?_
        refine ow_val (val_load_all 0 rfl rfl Tryd.isAgg41 Tryd.sizeOf41 (by show (List.map vU8 (ks.getD i default)).length = _; rw [List.length_map]; exact (hks _ (getD_mem (by omega))))) rfl ?_
        refine ow_call_pure (callsTo Tryd.func61 rfl (by kernel_rfl) rfl) rfl (fun w hm => form_any v0 (ks.getD i default) (hks _ (getD_mem (by omega))) w) ?_
        refine ow_val (val_not rfl) rfl ?_
        refine ow_nil (into ?_)
        refine sw_cond rfl (fun hf0 => ?_) (fun hf0 => ?_)
        · -- then
          have hf : fm v0 (ks.getD i default) = false := by simpa using hf0
          refine sw_seq ?_
          refine sw_region ?_
          refine ow_val (val_assign rfl) rfl ?_
          refine ow_nil (into ?_)
          refine sw_ret (fun w hm => ?_)
          try dsimp only [thenP, blockP, Nat.beq, cond]
          exact ret_one _ rfl rfl ⟨by rw [chk_bad hw (getD_mem (i := i) (by omega)) (by simpa using hf)]; rfl, hm.forgetAll⟩
        · -- else
          have hf : fm v0 (ks.getD i default) = true := by simpa using hf0
          refine sw_skip (into ?_)
          refine sw_region ?_
          refine ow_val (val_add_int ((i + 1 : Nat) : Int) rfl rfl (by omega) (by omega)) rfl ?_
          refine ow_val (val_move rfl) rfl ?_
          exact ow_nil (fun w hm => ⟨i + 1, ⟨by omega, fun j hj => (Nat.lt_or_ge j i).elim (hall j) (fun h => (show i = j by omega) ▸ hf)⟩, by omega, ⟨rfl, rfl, rfl, rfl, trivial⟩, hm.forgetAll⟩)
      · -- else
        refine sw_exit (into ?_)
        refine sw_seq ?_
        refine sw_region ?_
        refine ow_val (val_assign rfl) rfl ?_
        refine ow_nil (into ?_)
        exact sw_ret (fun w hm => ret_one _ rfl rfl ⟨by rw [chk_all hw (fun d hd => by obtain ⟨j, hj⟩ := List.mem_iff_getElem?.1 hd; have hj2 := (List.getElem?_eq_some_iff.1 hj).1; have h9 := hall j (by omega); simpa [List.getD_eq_getElem?_getD, hj] using h9)]; rfl, hm⟩)

theorem mcheck_any (v0 : Int) (w : World) (a : Option Addr) (c : Nat) (ks : List (List UInt8)) (hks : ∀ d ∈ ks, d.length = 32) (hr : Rd w a (ks.flatMap fun d => d.map vU8)) (hc : ks.length ≤ c) (hl : ks.length < 9223372036854775808) : Calls Tryd.prog 89 #[vInt v0, .slice a ks.length c] w fun e w' => ∃ v, e = .returned v ∧ v = vInt ((chk v0 ks : Nat) : Int) ∧ Mem w [] [] w' := by
  cases hw : wd v0 with
  | true => exact mcheck_yes v0 hw w a c ks hks hr hc hl
  | false => exact mcheck_no v0 hw w a c ks

theorem mnode_any (k : Nat) (h1 : 1 ≤ k) (h2 : k ≤ 32) (l r : List UInt8) (hll : l.length = 32) (hrl : r.length = 32) (hlf : fm (k : Int) l = true) (hrf : fm (k : Int) r = true) (w : World) (hK : KW w) : Calls Tryd.prog 92 #[vInt (k : Int), .agg ((l).map vU8).toArray, .agg ((r).map vU8).toArray] w fun e w' => ∃ v, e = .returned v ∧ v = .agg ((nd k l r).map vU8).toArray ∧ Mem w [] [] w' := by
  refine calls_of_sw (vs := [vInt (k : Int), .agg ((l).map vU8).toArray, .agg ((r).map vU8).toArray]) Tryd.func92 rfl Tryd.ntmps92 rfl (SW.begin ?_)
  refine sw_seq ?_
  refine sw_region ?_
  refine ow_new (acts_box rfl) rfl (fun b4 hb4 => ?_)
  refine ow_new (acts_box rfl) rfl (fun b5 hb5 => ?_)
  refine ow_new (acts_alloc zD) rfl (fun b6 hb6 => ?_)
  refine ow_nil (into ?_)
  refine sw_seq ?_
  refine sw_region ?_
  refine ow_val (val_move rfl) rfl ?_
  refine ow_val (val_load_all 2 rfl rfl Tryd.isAgg41 Tryd.sizeOf41 (by show (List.map vU8 l).length = _; rw [List.length_map]; exact hll)) rfl ?_
  refine ow_val (val_load_all 1 rfl rfl Tryd.isAgg41 Tryd.sizeOf41 (by show (List.map vU8 r).length = _; rw [List.length_map]; exact hrl)) rfl ?_
  refine ow_call_pure (v := .tuple #[.agg ((nd k l r).map vU8).toArray, vInt ((0 : Nat) : Int)]) (callsTo Tryd.func29 rfl (by kernel_rfl) rfl) rfl (fun w hm => (by have h := node_any w (hK.mem0 hm) (k : Int) l r hll hrl; rw [digO_node h1 h2 hlf hrf] at h; exact h)) ?_
  refine ow_val (val_move rfl) rfl ?_
  refine ow_val (val_extract rfl rfl) rfl ?_
  refine ow_val (val_extract rfl rfl) rfl ?_
  refine ow_new (acts_alloc zD) rfl (fun b7 hb7 => ?_)
  refine ow_do_eq (does_store_all 0 rfl rfl rfl (one_u8s _) Tryd.sizeOf41 (by show (List.map vU8 (nd k l r)).length = _; rw [List.length_map]; exact (nd_len _ _ _ h2)) (by show (List.map vU8 zeros32).length = _; rw [List.length_map]; exact zeros32_len)) ?_
  refine ow_val (val_assign rfl) rfl ?_
  refine ow_nil (into ?_)
  refine sw_seq ?_
  refine sw_region ?_
  refine ow_val (val_load_all 0 rfl rfl Tryd.isAgg41 Tryd.sizeOf41 (by show (List.map vU8 (nd k l r)).length = _; rw [List.length_map]; exact (nd_len _ _ _ h2))) rfl ?_
  refine ow_do_eq (does_store_all 1 rfl rfl rfl (one_u8s _) Tryd.sizeOf41 (by show (List.map vU8 (nd k l r)).length = _; rw [List.length_map]; exact (nd_len _ _ _ h2)) (by show (List.map vU8 zeros32).length = _; rw [List.length_map]; exact zeros32_len)) ?_
  refine ow_nil (into ?_)
  exact sw_ret (fun w hm => ret_cell 1 rfl rfl hm rfl Tryd.isAgg41 Tryd.sizeOf41 (by rw [List.length_map]; exact nd_len _ _ _ h2) ⟨rfl, hm.forgetAll⟩)

theorem knodeI_len {k : Nat} {l r : List UInt8} (h2 : k ≤ 32) (hll : l.length = 32) (hrl : r.length = 32) : (nodeI k l r).length ≤ 65 := by
  simp only [nodeI, List.length_append, List.length_take, hll, hrl, List.length_cons, List.length_nil]; omega

theorem krnd_any (k : Nat) (h1 : 1 ≤ k) (h2 : k ≤ 32) (l r : List UInt8) (hll : l.length = 32) (hrl : r.length = 32) (w : World) : Calls Tryd.prog 41 #[vInt (k : Int), .agg ((l).map vU8).toArray, .agg ((r).map vU8).toArray] w fun e w' => ∃ v, e = .returned v ∧ v = .agg ((nd k l r).map vU8).toArray ∧ Mem w [] [] w' := by
  have hnI := knodeI_len (k := k) h2 hll hrl
  refine calls_of_sw (vs := [vInt (k : Int), .agg ((l).map vU8).toArray, .agg ((r).map vU8).toArray]) Tryd.func41 rfl Tryd.ntmps41 rfl (SW.begin ?_)
  refine sw_seq ?_
  refine sw_region ?_
  refine ow_new (acts_box rfl) rfl (fun b4 hb4 => ?_)
  refine ow_new (acts_box rfl) rfl (fun b5 hb5 => ?_)
  refine ow_new (acts_alloc zD) rfl (fun b6 hb6 => ?_)
  refine ow_nil (into ?_)
  refine sw_seq ?_
  refine sw_region ?_
  refine ow_val (val_move rfl) rfl ?_
  refine ow_val (val_move rfl) rfl ?_
  refine ow_val (val_load_all 2 rfl rfl Tryd.isAgg41 Tryd.sizeOf41 (by show (List.map vU8 l).length = _; rw [List.length_map]; exact hll)) rfl ?_
  refine ow_val (val_load_all 1 rfl rfl Tryd.isAgg41 Tryd.sizeOf41 (by show (List.map vU8 r).length = _; rw [List.length_map]; exact hrl)) rfl ?_
  refine ow_call_row (E := 5) (size := 1) (k := (nodeI k l r).length) (xs := (nodeI k l r).map vU8) (callsTo Tryd.func74 rfl (by kernel_rfl) rfl) rfl (fun w hm => rnodeI_any w k (by omega) (by omega) l r hll hrl) (fun a11 c11 e11 hr11 => ?_)
  refine ow_call_pure (v := .agg ((nd k l r).map vU8).toArray) (callsTo Tryd.func73 rfl (by kernel_rfl) rfl) rfl (fun w hm => rcut_any k (by omega) w a11 ((nodeI k l r).length) _ (nodeI k l r) rfl (hr11.rdAt hm (i := 0) rfl) hr11.le (by omega)) ?_
  refine ow_do_eq (does_store_all 1 rfl rfl rfl (one_u8s _) Tryd.sizeOf41 (by show (List.map vU8 (nd k l r)).length = _; rw [List.length_map]; exact (nd_len _ _ _ h2)) (by show (List.map vU8 zeros32).length = _; rw [List.length_map]; exact zeros32_len)) ?_
  refine ow_nil (into ?_)
  exact sw_ret (fun w hm => ret_cell 1 rfl rfl hm rfl Tryd.isAgg41 Tryd.sizeOf41 (by rw [List.length_map]; exact nd_len _ _ _ h2) ⟨rfl, hm.forgetAll⟩)

theorem ended_cons (w : World) (a : Option Addr) (c : Nat) (q : List (List UInt8)) (x : List UInt8) (hqe : ∀ d ∈ q ++ [x], d.length = 32) (hr : Rd w a ((q ++ [x]).flatMap fun d => d.map vU8)) (hc : q.length + 1 ≤ c) (hl : q.length + 1 < 9223372036854775808) : Calls Tryd.prog 90 #[.slice a (q.length + 1) c] w fun e w' => ∃ v, e = .returned v ∧ v = .tuple #[.slice a q.length c, .agg ((x).map vU8).toArray, .bool true] ∧ Mem w [] [] w' := by
  obtain ⟨ba, oa, rfl⟩ := hr.addr (by rw [flatMap_size (q ++ [x]) (n := 32) (fun y hy => by rw [List.length_map]; exact hqe y hy), List.length_append, List.length_cons, List.length_nil]; omega)
  refine calls_of_sw (vs := [.slice (some ⟨ba, oa, none⟩) (q.length + 1) c]) Tryd.func90 rfl Tryd.ntmps90 rfl (SW.begin ?_)
  refine sw_seq ?_
  refine sw_region ?_
  refine ow_val (val_assign rfl) rfl ?_
  refine ow_new (acts_alloc zD) rfl (fun b3 hb3 => ?_)
  refine ow_val (val_assign rfl) rfl ?_
  refine ow_nil (into ?_)
  refine sw_seq ?_
  refine sw_region ?_
  refine ow_val (val_move rfl) rfl ?_
  refine ow_val (val_len rfl Tryd.underlying22) rfl ?_
  refine ow_val (val_assign rfl) rfl ?_
  refine ow_nil (into ?_)
  refine sw_seq ?_
  refine sw_seq ?_
  refine sw_region ?_
  refine ow_val (val_move rfl) rfl ?_
  refine ow_val (val_eql_int rfl rfl) rfl ?_
  refine ow_nil (into ?_)
  refine sw_false rfl (decide_eq_false (by omega)) ?_
  refine sw_skip (into ?_)
  refine sw_seq ?_
  refine sw_region_lex _ [10] [(0, 0), (1, 0), (2, 0), (3, 0), (4, 0), (5, 0), (6, 0), (7, 0), (9, 0), (8, 1), (10, 2), (11, 0)] (by kernel_rfl) (by kernel_rfl) (fun _ _ _ h => h) (fun _ h => h) (fun _ h => h.drawn _) ?_
  refine lw_pure rfl (val_move rfl) rfl ?_
  refine lw_pure rfl (val_move rfl) rfl ?_
  refine lw_pure rfl (val_sub_int (((q.length + 1) - 1 : Nat) : Int) rfl rfl (by omega) (by omega)) rfl ?_
  refine lw_pure rfl (val_slice_hi q.length rfl rfl Tryd.underlying22 Tryd.sizeOf41 (by omega) (by omega)) rfl ?_
  refine lw_pure rfl (val_move rfl) rfl ?_
  refine lw_pure rfl (val_move rfl) rfl ?_
  refine lw_pure rfl (val_sub_int (((q.length + 1) - 1 : Nat) : Int) rfl rfl (by omega) (by omega)) rfl ?_
  refine lw_pure rfl (val_indexAddr_slice (q.length) (oa + q.length * 32) rfl rfl Tryd.underlying22 Tryd.sizeOf41 (by omega) (by omega) (by omega)) rfl ?_
  refine lw_pure rfl (val_assign rfl) rfl ?_
  refine lw_held rfl ((val_load_elem (cells := fun d => d.map vU8) (l := q ++ [x]) (o := oa) (i := q.length) rfl Tryd.isAgg41 Tryd.sizeOf41 (fun y hy => by rw [List.length_map]; exact hqe y hy) (by simp) (by omega) (fun w' hm => hr.mem hm)).to (v' := .agg (x.map vU8).toArray) (by simp [List.getD_eq_getElem?_getD])) rfl ?_
  refine lw_do rfl (does_store_all 0 rfl rfl rfl (one_u8s _) Tryd.sizeOf41 (by show (List.map vU8 x).length = _; rw [List.length_map]; exact (hqe x (by simp))) (by show (List.map vU8 zeros32).length = _; rw [List.length_map]; exact zeros32_len)) (fun h => nomatch h) (fun _ _ => ?_)
  refine lw_pure rfl (val_assign rfl) rfl ?_
  refine lw_nil (into ?_)
  exact sw_ret (fun w hm => ret_tct 0 rfl rfl rfl rfl hm rfl Tryd.isAgg41 Tryd.sizeOf41 (by rw [List.length_map]; exact hqe x (by simp)) ⟨rfl, hm.forgetAll⟩)

theorem ended_nil (w : World) (a : Option Addr) (c : Nat) : Calls Tryd.prog 90 #[.slice a 0 c] w fun e w' => ∃ v, e = .returned v ∧ v = .tuple #[.slice none 0 0, .agg ((zeros32).map vU8).toArray, .bool false] ∧ Mem w [] [] w' := by
  refine calls_of_sw (vs := [.slice a 0 c]) Tryd.func90 rfl Tryd.ntmps90 rfl (SW.begin ?_)
  refine sw_seq ?_
  refine sw_region ?_
  refine ow_val (val_assign rfl) rfl ?_
  refine ow_new (acts_alloc zD) rfl (fun b3 hb3 => ?_)
  refine ow_val (val_assign rfl) rfl ?_
  refine ow_nil (into ?_)
  refine sw_seq ?_
  refine sw_region ?_
  refine ow_val (val_move rfl) rfl ?_
  refine ow_val (val_len rfl Tryd.underlying22) rfl ?_
  refine ow_val (val_assign rfl) rfl ?_
  refine ow_nil (into ?_)
  refine sw_seq ?_
  refine sw_seq ?_
  refine sw_region ?_
  refine ow_val (val_move rfl) rfl ?_
  refine ow_val ((val_eql_int rfl rfl).to (v' := .bool true) (congrArg Value.bool (decide_eq_true rfl))) rfl ?_
  refine ow_nil (into ?_)
  refine sw_true rfl rfl ?_
  refine sw_seq ?_
  refine sw_region ?_
  refine ow_val (val_build' (cs := zeros32.map vU8) rfl (by kernel_rfl)) rfl ?_
  refine ow_val (val_assign rfl) rfl ?_
  refine ow_do_eq (does_store_all 0 rfl rfl rfl (one_u8s _) Tryd.sizeOf41 (by show (List.map vU8 zeros32).length = _; rw [List.length_map]; exact zeros32_len) (by show (List.map vU8 zeros32).length = _; rw [List.length_map]; exact zeros32_len)) ?_
  refine ow_val (val_assign rfl) rfl ?_
  refine ow_nil (into ?_)
  refine sw_ret (fun w hm => ?_)
  try dsimp only [thenP, blockP, Nat.beq, cond]
  exact ret_tct 0 rfl rfl rfl rfl hm rfl Tryd.isAgg41 Tryd.sizeOf41 rfl ⟨rfl, hm.forgetAll⟩
end Go.Proofs.YtcdponddgnkecaaDoor
