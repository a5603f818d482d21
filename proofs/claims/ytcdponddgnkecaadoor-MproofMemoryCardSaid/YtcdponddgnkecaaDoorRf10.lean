import Derived.Test.YtcdponddgnkecaaDoorMt3
import Derived.Test.YtcdponddgnkecaaDoorProg
set_option linter.unusedVariables false
set_option linter.unusedSimpArgs false
namespace Go.Proofs.YtcdponddgnkecaaDoor
open Go.Sx Go.Ps
theorem nodeI_len {k : Nat} {l r : List UInt8} (h2 : k ≤ 32) (hll : l.length = 32) (hrl : r.length = 32) : (nodeI k l r).length ≤ 65 := by
  simp only [nodeI, List.length_append, List.length_take, hll, hrl, List.length_cons, List.length_nil]; omega

theorem rnd_any (k : Nat) (h1 : 1 ≤ k) (h2 : k ≤ 32) (l r : List UInt8) (hll : l.length = 32) (hrl : r.length = 32) (w : World) : Calls Tryd.prog 41 #[vInt (k : Int), .agg ((l).map vU8).toArray, .agg ((r).map vU8).toArray] w fun e w' => ∃ v, e = .returned v ∧ v = .agg ((nd k l r).map vU8).toArray ∧ Mem w [] [] w' := by
  have hnI := nodeI_len (k := k) h2 hll hrl
  refine calls_of_sw (vs := [vInt (k : Int), .agg ((l).map vU8).toArray, .agg ((r).map vU8).toArray]) Tryd.func41 rfl Tryd.ntmps41 rfl (SW.begin ?_)
  refine sw_seq ?_
  refine sw_region ?_
  refine ow_new (acts_box rfl) rfl (fun b4 hb4 => ?_)
  refine ow_new (acts_box rfl) rfl (fun b5 hb5 => ?_)
  refine ow_new (acts_alloc zD) rfl (fun b6 hb6 => ?_)
  refine ow_nil (into ?_)
  refine sw_seq ?_
  refine sw_region ?_
  refine ow_val (val_move rfl) rfl ?_
  refine ow_val (val_move rfl) rfl ?_
  refine ow_val (val_load_all 2 rfl rfl Tryd.isAgg41 Tryd.sizeOf41 (by show (List.map vU8 l).length = _; rw [List.length_map]; exact hll)) rfl ?_
  refine ow_val (val_load_all 1 rfl rfl Tryd.isAgg41 Tryd.sizeOf41 (by show (List.map vU8 r).length = _; rw [List.length_map]; exact hrl)) rfl ?_
  refine ow_call_row (E := 5) (size := 1) (k := (nodeI k l r).length) (xs := (nodeI k l r).map vU8) (callsTo Tryd.func74 rfl (by kernel_rfl) rfl) rfl (fun w hm => rnodeI_any w k (by omega) (by omega) l r hll hrl) (fun a11 c11 e11 hr11 => ?_)
  refine ow_call_pure (v := .agg ((nd k l r).map vU8).toArray) (callsTo Tryd.func73 rfl (by kernel_rfl) rfl) rfl (fun w hm => rcut_any k (by omega) w a11 ((nodeI k l r).length) _ (nodeI k l r) rfl (hr11.rdAt hm (i := 0) rfl) hr11.le (by omega)) ?_
  refine ow_do_eq (does_store_all 1 rfl rfl rfl (one_u8s _) Tryd.sizeOf41 (by show (List.map vU8 (nd k l r)).length = _; rw [List.length_map]; exact (nd_len _ _ _ h2)) (by show (List.map vU8 zeros32).length = _; rw [List.length_map]; exact zeros32_len)) ?_
  refine ow_nil (into ?_)
  exact sw_ret (fun w hm => ret_cell 1 rfl rfl hm rfl Tryd.isAgg41 Tryd.sizeOf41 (by rw [List.length_map]; exact nd_len _ _ _ h2) ⟨rfl, hm.forgetAll⟩)

theorem rbelow_any (n : UInt64) (hn2 : 2 ≤ n.toNat) (w : World) : Calls Tryd.prog 55 #[vU64 n] w fun e w' => ∃ v, e = .returned v ∧ v = vU64 (splitU n) ∧ Mem w [] [] w' := by
  refine calls_of_sw (vs := [vU64 n]) Tryd.func55 rfl Tryd.ntmps55 rfl (SW.begin ?_)
  refine sw_seq ?_
  refine sw_region ?_
  refine ow_val (val_assign rfl) rfl ?_
  refine ow_nil (into ?_)
  refine sw_seq ?_
  refine sw_region ?_
  refine ow_val (val_assign rfl) rfl ?_
  refine ow_nil (into ?_)
  refine sw_seq ?_
  refine sw_block ?_
  refine sw_loop (σ := UInt64) (fun v => (∃ j, v.toNat = 2 ^ j) ∧ v.toNat < n.toNat) (fun v => [(3, vU64 v), (0, vU64 n)]) (fun _ => Mem w [] []) (fun v => n.toNat - v.toNat) (UInt64.ofNat (Int.toNat 1)) ⟨⟨0, rfl⟩, (show 1 < n.toNat by omega)⟩ ⟨rfl, rfl, trivial⟩ (fun w hm => hm) ?_
  rintro v ⟨⟨j, hj⟩, hv⟩
  have hnl := n.toNat_lt
  have hvp : 1 ≤ v.toNat := by rw [hj]; exact Nat.one_le_two_pow
  refine sw_seq ?_
  refine sw_seq ?_
  refine sw_region ?_
  refine ow_val (val_move rfl) rfl ?_
  refine ow_val (val_move rfl) rfl ?_
  refine ow_val (val_sub_u64 rfl rfl) rfl ?_
  refine ow_val (val_quo_u64 rfl rfl (by decide)) rfl ?_
  refine ow_val (val_leq_u64 rfl rfl) rfl ?_
  refine ow_nil (into ?_)
  refine sw_if rfl (fun h0 => ?_) (fun h0 => ?_)
  · -- then
    have hdv : ((n - UInt64.ofNat (Int.toNat 1)) / UInt64.ofNat (Int.toNat 2)).toNat = (n.toNat - 1) / 2 := by
      rw [UInt64.toNat_div, UInt64.toNat_sub_of_le _ _ (UInt64.le_iff_toNat_le.2 (show (UInt64.ofNat (Int.toNat 1)).toNat ≤ n.toNat from (show 1 ≤ n.toNat by omega)))]; rfl
    have hlt : 2 * v.toNat < n.toNat := by
      have h3 := UInt64.le_iff_toNat_le.1 h0
      rw [hdv] at h3
      omega
    have hm2 : (v * UInt64.ofNat (Int.toNat 2)).toNat = v.toNat * 2 := by
      rw [UInt64.toNat_mul]; show v.toNat * 2 % 2 ^ 64 = _; omega
    refine sw_skip (into ?_)
    refine sw_block ?_
    refine sw_region ?_
    refine ow_val (val_move rfl) rfl ?_
    refine ow_val (val_mul_u64 rfl rfl) rfl ?_
    refine ow_val (val_assign rfl) rfl ?_
    exact ow_nil (fun w hm => ⟨v * UInt64.ofNat (Int.toNat 2), ⟨⟨j + 1, by rw [hm2, hj, Nat.pow_succ]⟩, by rw [hm2]; omega⟩, by rw [hm2]; omega, ⟨rfl, rfl, trivial⟩, hm⟩)
  · -- else
    have hdv : ((n - UInt64.ofNat (Int.toNat 1)) / UInt64.ofNat (Int.toNat 2)).toNat = (n.toNat - 1) / 2 := by
      rw [UInt64.toNat_div, UInt64.toNat_sub_of_le _ _ (UInt64.le_iff_toNat_le.2 (show (UInt64.ofNat (Int.toNat 1)).toNat ≤ n.toNat from (show 1 ≤ n.toNat by omega)))]; rfl
    have hge : n.toNat ≤ 2 * v.toNat := Nat.le_of_not_lt fun h3 => h0 (UInt64.le_iff_toNat_le.2 (by rw [hdv]; omega))
    refine sw_exit (into ?_)
    refine sw_seq ?_
    refine sw_region ?_
    refine ow_val (val_move rfl) rfl ?_
    refine ow_val (val_assign rfl) rfl ?_
    refine ow_nil (into ?_)
    exact sw_ret (fun w hm => ret_one _ rfl rfl ⟨by rw [splitU_eq hj hv hge], hm⟩)

theorem rlog_0 (k : Nat) (h1 : 1 ≤ k) (h2 : k ≤ 32) (w : World) (a : Option Addr) (c : Nat) (l : List (List UInt8)) (hdl : ∀ d ∈ l, d.length = 32) (hfl : ∀ d ∈ l, fm (k : Int) d = true) (hr : Rd w a (l.flatMap fun d => d.map vU8)) (hc : l.length ≤ c) (hl : l.length < 9223372036854775808) (h0 : l.length = 0) : Calls Tryd.prog 24 #[vInt (k : Int), .slice a l.length c] w fun e w' => ∃ v, e = .returned v ∧ v = .agg ((lg k l).map vU8).toArray ∧ Mem w [] [] w' := by
  refine calls_of_sw (vs := [vInt (k : Int), .slice a l.length c]) Tryd.func24 rfl Tryd.ntmps24 rfl (SW.begin ?_)
  refine sw_seq ?_
  refine sw_region ?_
  refine ow_new (acts_alloc zD) rfl (fun b4 hb4 => ?_)
  refine ow_nil (into ?_)
  refine sw_seq ?_
  refine sw_seq ?_
  refine sw_region ?_
  refine ow_val (val_move rfl) rfl ?_
  refine ow_val (val_len rfl Tryd.underlying22) rfl ?_
  refine ow_nil (into ?_)
  refine sw_block ?_
  refine sw_seq ?_
  refine sw_region ?_
  refine ow_val ((val_eql_int rfl rfl).to (congrArg Value.bool (decide_eq_true (by omega)))) rfl ?_
  refine ow_val (val_assign rfl) rfl ?_
  refine ow_nil (into ?_)
  refine sw_true rfl rfl ?_
  refine sw_seq ?_
  refine sw_region ?_
  refine ow_val (val_move rfl) rfl ?_
  refine ow_call_pure (v := .agg ((dig k []).map vU8).toArray) (callsTo Tryd.func54 rfl (by kernel_rfl) rfl) rfl (fun w hm => rnolog_any w k (by omega) (by omega)) ?_
  refine ow_do_eq (does_store_all 0 rfl rfl rfl (one_u8s _) Tryd.sizeOf41 (by show (List.map vU8 (dig k [])).length = _; rw [List.length_map]; exact (dig_len _ h2)) (by show (List.map vU8 zeros32).length = _; rw [List.length_map]; exact zeros32_len)) ?_
  refine ow_nil (into ?_)
  refine sw_ret (fun w hm => ?_)
  try dsimp only [thenP, blockP, Nat.beq, cond]
  exact ret_cell 0 rfl rfl hm rfl Tryd.isAgg41 Tryd.sizeOf41 (by rw [List.length_map]; exact dig_len _ h2) ⟨by rw [List.length_eq_zero_iff.1 h0, lg_nil], hm.forgetAll⟩

theorem log_one {k : Nat} {l : List (List UInt8)} (h : l.length = 1) : l.getD 0 default = lg k l := by
  match l, h with
  | [d], _ => rw [lg_one]; rfl

theorem rlog_1 (k : Nat) (h1 : 1 ≤ k) (h2 : k ≤ 32) (w : World) (a : Option Addr) (c : Nat) (l : List (List UInt8)) (hdl : ∀ d ∈ l, d.length = 32) (hfl : ∀ d ∈ l, fm (k : Int) d = true) (hr : Rd w a (l.flatMap fun d => d.map vU8)) (hc : l.length ≤ c) (hl : l.length < 9223372036854775808) (h1' : l.length = 1) : Calls Tryd.prog 24 #[vInt (k : Int), .slice a l.length c] w fun e w' => ∃ v, e = .returned v ∧ v = .agg ((lg k l).map vU8).toArray ∧ Mem w [] [] w' := by
  obtain ⟨ba, oa, rfl⟩ := hr.addr (by rw [flatMap_size l (n := 32) (fun y hy => by rw [List.length_map]; exact hdl y hy)]; omega)
  refine calls_of_sw (vs := [vInt (k : Int), .slice (some ⟨ba, oa, none⟩) l.length c]) Tryd.func24 rfl Tryd.ntmps24 rfl (SW.begin ?_)
  refine sw_seq ?_
  refine sw_region ?_
  refine ow_new (acts_alloc zD) rfl (fun b4 hb4 => ?_)
  refine ow_nil (into ?_)
  refine sw_seq ?_
  refine sw_seq ?_
  refine sw_region ?_
  refine ow_val (val_move rfl) rfl ?_
  refine ow_val (val_len rfl Tryd.underlying22) rfl ?_
  refine ow_nil (into ?_)
  refine sw_block ?_
  refine sw_seq ?_
  refine sw_region ?_
  refine ow_val ((val_eql_int rfl rfl).to (congrArg Value.bool (decide_eq_false (by omega)))) rfl ?_
  refine ow_val (val_assign rfl) rfl ?_
  refine ow_nil (into ?_)
  refine sw_false rfl rfl ?_
  refine sw_seq ?_
  refine sw_region ?_
  refine ow_val ((val_eql_int rfl rfl).to (congrArg Value.bool (decide_eq_true (by omega)))) rfl ?_
  refine ow_val (val_assign rfl) rfl ?_
  refine ow_nil (into ?_)
  refine sw_true rfl rfl ?_
  refine sw_seq ?_
  refine sw_region ?_
  refine ow_val (val_move rfl) rfl ?_
  refine ow_val (val_indexAddr_slice 0 oa rfl rfl Tryd.underlying22 Tryd.sizeOf41 (by omega) (by omega) (by omega)) rfl ?_
  refine ow_val ((val_load_elem (cells := fun d => d.map vU8) (l := l) (o := oa) (i := 0) rfl Tryd.isAgg41 Tryd.sizeOf41 (fun x hx => by rw [List.length_map]; exact hdl x hx) (by omega) (by omega) (fun w' hm => hr.mem hm)).to (v' := .agg ((lg k l).map vU8).toArray) (by rw [log_one h1'])) rfl ?_
  refine ow_do_eq (does_store_all 0 rfl rfl rfl (one_u8s _) Tryd.sizeOf41 (by show (List.map vU8 (lg k l)).length = _; rw [List.length_map]; exact (lg_len h2 _ rfl hdl)) (by show (List.map vU8 zeros32).length = _; rw [List.length_map]; exact zeros32_len)) ?_
  refine ow_nil (into ?_)
  refine sw_ret (fun w hm => ?_)
  try dsimp only [thenP, blockP, Nat.beq, cond]
  exact ret_cell 0 rfl rfl hm rfl Tryd.isAgg41 Tryd.sizeOf41 (by rw [List.length_map]; exact lg_len h2 _ rfl hdl) ⟨rfl, hm.forgetAll⟩

theorem rlog_2 (k : Nat) (h1 : 1 ≤ k) (h2 : k ≤ 32) (w : World) (a : Option Addr) (c : Nat) (l : List (List UInt8)) (hdl : ∀ d ∈ l, d.length = 32) (hfl : ∀ d ∈ l, fm (k : Int) d = true) (hr : Rd w a (l.flatMap fun d => d.map vU8)) (hc : l.length ≤ c) (hl : l.length < 9223372036854775808) (h2l : 2 ≤ l.length) (q : Nat) (hq : splitN l.length = q) (ih : ∀ (a' : Option Addr) (m' c' : Nat) (l' : List (List UInt8)) (w' : World), l'.length < l.length → l'.length = m' → (∀ d ∈ l', d.length = 32) → (∀ d ∈ l', fm (k : Int) d = true) → Rd w' a' (l'.flatMap fun d => d.map vU8) → m' ≤ c' → m' < 9223372036854775808 → Calls Tryd.prog 24 #[vInt (k : Int), .slice a' m' c'] w' fun en w'' => ∃ v, en = .returned v ∧ v = .agg ((lg k l').map vU8).toArray ∧ Mem w' [] [] w'') : Calls Tryd.prog 24 #[vInt (k : Int), .slice a l.length c] w fun e w' => ∃ v, e = .returned v ∧ v = .agg ((lg k l).map vU8).toArray ∧ Mem w [] [] w' := by
  have hpart : nd k (lg k (l.take q)) (lg k (l.drop q)) = lg k l := by rw [← hq]; exact (lg_two k h2l).symm
  have hs1 := splitN_lt h2l
  have hs2 := splitN_pos l.length
  have hof : (UInt64.ofNat l.length).toNat = l.length := of_nat (by omega)
  have hsu : splitU (UInt64.ofNat l.length) = UInt64.ofNat q := by rw [splitU, hof, hq]
  refine calls_of_sw (vs := [vInt (k : Int), .slice a l.length c]) Tryd.func24 rfl Tryd.ntmps24 rfl (SW.begin ?_)
  refine sw_seq ?_
  refine sw_region ?_
  refine ow_new (acts_alloc zD) rfl (fun b4 hb4 => ?_)
  refine ow_nil (into ?_)
  refine sw_seq ?_
  refine sw_seq ?_
  refine sw_region ?_
  refine ow_val (val_move rfl) rfl ?_
  refine ow_val (val_len rfl Tryd.underlying22) rfl ?_
  refine ow_nil (into ?_)
  refine sw_block ?_
  refine sw_seq ?_
  refine sw_region ?_
  refine ow_val ((val_eql_int rfl rfl).to (congrArg Value.bool (decide_eq_false (by omega)))) rfl ?_
  refine ow_val (val_assign rfl) rfl ?_
  refine ow_nil (into ?_)
  refine sw_false rfl rfl ?_
  refine sw_seq ?_
  refine sw_region ?_
  refine ow_val ((val_eql_int rfl rfl).to (congrArg Value.bool (decide_eq_false (by omega)))) rfl ?_
  refine ow_val (val_assign rfl) rfl ?_
  refine ow_nil (into ?_)
  refine sw_false rfl rfl ?_
  refine sw_skip (into ?_)
  refine sw_seq ?_
  refine sw_region ?_
  refine ow_val (val_move rfl) rfl ?_
  refine ow_val (val_len rfl Tryd.underlying22) rfl ?_
  refine ow_val (val_conv_n_u64 l.length Tryd.underlying3 Tryd.underlying23 rfl rfl) rfl ?_
  refine ow_call_pure (v := vU64 (UInt64.ofNat q)) (callsTo Tryd.func55 rfl (by kernel_rfl) rfl) rfl (fun w hm => (by have h := rbelow_any (UInt64.ofNat l.length) (by rw [hof]; exact h2l) w; rw [hsu] at h; exact h)) ?_
  refine ow_val (val_assign rfl) rfl ?_
  refine ow_nil (into ?_)
  refine sw_seq ?_
  refine sw_region_lex _ [12] [(0, 0), (1, 0), (2, 0), (3, 0), (4, 0), (6, 0), (7, 0), (8, 0), (9, 0), (5, 2), (10, 2), (11, 2), (12, 2)] (by kernel_rfl) (by kernel_rfl) (fun _ _ _ h => h) (fun _ h => h) (fun _ h => h.drawn _) ?_
  refine lw_pure rfl (val_move rfl) rfl ?_
  refine lw_pure rfl (val_move rfl) rfl ?_
  refine lw_pure rfl (val_move rfl) rfl ?_
  refine lw_pure rfl (val_move rfl) rfl ?_
  refine lw_pure rfl (val_slice_hi q rfl rfl Tryd.underlying22 Tryd.sizeOf41 (by rw [of_nat (by omega)]) (by omega)) rfl ?_
  refine lw_pure rfl (val_move rfl) rfl ?_
  refine lw_pure rfl (val_move rfl) rfl ?_
  refine lw_pure rfl (val_move rfl) rfl ?_
  refine lw_pure rfl (val_slice_from q rfl rfl Tryd.underlying22 Tryd.sizeOf41 (by rw [of_nat (by omega)]) (by omega) (by omega)) rfl ?_
  refine lw_call_pure rfl (callsTo Tryd.func24 rfl (by kernel_rfl) rfl) rfl (fun w hm => ih a (q) c (l.take q) w (by rw [List.length_take]; omega) (by rw [List.length_take] <;> omega) (fun d hd => hdl d (List.mem_of_mem_take hd)) (fun d hd => hfl d (List.mem_of_mem_take hd)) (rdTakeD (hr.mem hm) q) (by omega) (by omega)) ?_
  refine lw_call_pure rfl (callsTo Tryd.func24 rfl (by kernel_rfl) rfl) rfl (fun w hm => ih (Sx.cut a c q 32) (l.length - q) (c - q) (l.drop q) w (by rw [List.length_drop]; omega) (by rw [List.length_drop] <;> omega) (fun d hd => hdl d (List.mem_of_mem_drop hd)) (fun d hd => hfl d (List.mem_of_mem_drop hd)) (rdCutD (hr.mem hm) hdl hc) (by omega) (by omega)) ?_
  refine lw_call_pure (v := .agg ((lg k l).map vU8).toArray) rfl (callsTo Tryd.func41 rfl (by kernel_rfl) rfl) rfl (fun w hm => (by have h := rnd_any k h1 h2 ((lg k (l.take q))) ((lg k (l.drop q))) (lg_len h2 _ rfl (fun d hd => hdl d (List.mem_of_mem_take hd))) (lg_len h2 _ rfl (fun d hd => hdl d (List.mem_of_mem_drop hd))) w; rw [hpart] at h; exact h)) ?_
  refine lw_do rfl (does_store_all 0 rfl rfl rfl (one_u8s _) Tryd.sizeOf41 (by show (List.map vU8 (lg k l)).length = _; rw [List.length_map]; exact (lg_len h2 _ rfl hdl)) (by show (List.map vU8 zeros32).length = _; rw [List.length_map]; exact zeros32_len)) (fun h => nomatch h) (fun _ _ => ?_)
  refine lw_nil (into ?_)
  exact sw_ret (fun w hm => ret_cell 0 rfl rfl hm rfl Tryd.isAgg41 Tryd.sizeOf41 (by rw [List.length_map]; exact lg_len h2 _ rfl hdl) ⟨rfl, hm.forgetAll⟩)

theorem rlog_any (k : Nat) (h1 : 1 ≤ k) (h2 : k ≤ 32) : ∀ (N : Nat) (a : Option Addr) (m c : Nat) (l : List (List UInt8)) (w : World), l.length ≤ N → l.length = m → (∀ d ∈ l, d.length = 32) → (∀ d ∈ l, fm (k : Int) d = true) → Rd w a (l.flatMap fun d => d.map vU8) → m ≤ c → m < 9223372036854775808 → Calls Tryd.prog 24 #[vInt (k : Int), .slice a m c] w fun e w' => ∃ v, e = .returned v ∧ v = .agg ((lg k l).map vU8).toArray ∧ Mem w [] [] w'
  | N, a, m, c, l, w, hN, hlm, hdl, hfl, hr, hc, hl => by
    subst hlm
    by_cases h0 : l.length = 0
    · exact rlog_0 k h1 h2 w a c l hdl hfl hr hc hl h0
    by_cases h1' : l.length = 1
    · exact rlog_1 k h1 h2 w a c l hdl hfl hr hc hl h1'
    match N, hN with
    | 0, hN => omega
    | N + 1, hN => exact rlog_2 k h1 h2 w a c l hdl hfl hr hc hl (by omega) _ rfl (fun a' m' c' l' w' hlt hm' hd hf hr hc hl => rlog_any k h1 h2 N a' m' c' l' w' (by omega) hm' hd hf hr hc hl)
end Go.Proofs.YtcdponddgnkecaaDoor
