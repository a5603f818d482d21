import Derived.Test.YtcappcjogcekkaaDoorMt3
import Derived.Test.YtcappcjogcekkaaDoorProg
set_option linter.unusedVariables false
set_option linter.unusedSimpArgs false
namespace Go.Proofs.YtcappcjogcekkaaDoor
open Go.Sx Go.Ps
theorem nodeI_len {k : Nat} {l r : List UInt8} (h2 : k ≤ 32) (hll : l.length = 32) (hrl : r.length = 32) : (nodeI k l r).length ≤ 65 := by
  simp only [nodeI, List.length_append, List.length_take, hll, hrl, List.length_cons, List.length_nil]; omega

theorem rnd_any (k : Nat) (h1 : 1 ≤ k) (h2 : k ≤ 32) (l r : List UInt8) (hll : l.length = 32) (hrl : r.length = 32) (w : World) : Calls Tryd.prog 37 #[vInt (k : Int), .agg ((l).map vU8).toArray, .agg ((r).map vU8).toArray] w fun e w' => ∃ v, e = .returned v ∧ v = .agg ((nd k l r).map vU8).toArray ∧ Mem w [] [] w' := by
  have hnI := nodeI_len (k := k) h2 hll hrl
  refine calls_of_sw (vs := [vInt (k : Int), .agg ((l).map vU8).toArray, .agg ((r).map vU8).toArray]) Tryd.func37 rfl Tryd.ntmps37 rfl (SW.begin ?_)
  refine sw_seq ?_
  refine sw_region ?_
  refine ow_new (acts_box rfl) rfl (fun b4 hb4 => ?_)   -- 4
  refine ow_new (acts_box rfl) rfl (fun b5 hb5 => ?_)   -- 5
  refine ow_new (acts_alloc zD) rfl (fun b6 hb6 => ?_)   -- 6
  refine ow_nil (into ?_)
  refine sw_seq ?_
  refine sw_region ?_
  refine ow_val (val_move rfl) rfl ?_   -- 7
  refine ow_val (val_move rfl) rfl ?_   -- 8
  refine ow_val (val_load_all 2 rfl rfl Tryd.isAgg43 Tryd.sizeOf43 (by show (List.map vU8 l).length = _; rw [List.length_map]; exact hll)) rfl ?_   -- 9
  refine ow_val (val_load_all 1 rfl rfl Tryd.isAgg43 Tryd.sizeOf43 (by show (List.map vU8 r).length = _; rw [List.length_map]; exact hrl)) rfl ?_   -- 10
  refine ow_call_row (E := 5) (size := 1) (k := (nodeI k l r).length) (xs := (nodeI k l r).map vU8) (callsTo Tryd.func53 rfl (by kernel_rfl) rfl) rfl (fun w hm => rnodeI_any w k (by omega) (by omega) l r hll hrl) (fun a11 c11 e11 hr11 => ?_)   -- 11
  refine ow_call_pure (v := .agg ((nd k l r).map vU8).toArray) (callsTo Tryd.func48 rfl (by kernel_rfl) rfl) rfl (fun w hm => rcut_any k (by omega) w a11 ((nodeI k l r).length) _ (nodeI k l r) rfl (hr11.rdAt hm (i := 0) rfl) hr11.le (by omega)) ?_   -- 12
  refine ow_do_eq (does_store_all 1 rfl rfl rfl (one_u8s _) Tryd.sizeOf43 (by show (List.map vU8 (nd k l r)).length = _; rw [List.length_map]; exact (nd_len _ _ _ h2)) (by show (List.map vU8 zeros32).length = _; rw [List.length_map]; exact zeros32_len)) ?_
  refine ow_nil (into ?_)
  exact sw_ret (fun w hm => ret_cell 1 rfl rfl hm rfl Tryd.isAgg43 Tryd.sizeOf43 (by rw [List.length_map]; exact nd_len _ _ _ h2) ⟨rfl, hm.forgetAll⟩)

theorem rbelow_any (n : UInt64) (hn2 : 2 ≤ n.toNat) (w : World) : Calls Tryd.prog 57 #[vU64 n] w fun e w' => ∃ v, e = .returned v ∧ v = vU64 (splitU n) ∧ Mem w [] [] w' := by
  refine calls_of_sw (vs := [vU64 n]) Tryd.func57 rfl Tryd.ntmps57 rfl (SW.begin ?_)
  refine sw_seq ?_
  refine sw_region ?_
  refine ow_val (val_assign rfl) rfl ?_   -- 2
  refine ow_nil (into ?_)
  refine sw_seq ?_
  refine sw_region ?_
  refine ow_val (val_assign rfl) rfl ?_   -- 3
  refine ow_nil (into ?_)
  refine sw_seq ?_
  refine sw_block ?_
  refine sw_loop (σ := UInt64) (fun v => (∃ j, v.toNat = 2 ^ j) ∧ v.toNat < n.toNat) (fun v => [(3, vU64 v), (0, vU64 n)]) (fun _ => Mem w [] []) (fun v => n.toNat - v.toNat) (UInt64.ofNat (Int.toNat 1)) ⟨⟨0, rfl⟩, (show 1 < n.toNat by omega)⟩ ⟨rfl, rfl, trivial⟩ (fun w hm => hm) ?_
  rintro v ⟨⟨j, hj⟩, hv⟩
  have hnl := n.toNat_lt
  have hvp : 1 ≤ v.toNat := by rw [hj]; exact Nat.one_le_two_pow
  refine sw_seq ?_
  refine sw_seq ?_
  refine sw_region ?_
  refine ow_val (val_move rfl) rfl ?_   -- 4
  refine ow_val (val_move rfl) rfl ?_   -- 5
  refine ow_val (val_sub_u64 rfl rfl) rfl ?_   -- 6
  refine ow_val (val_quo_u64 rfl rfl (by decide)) rfl ?_   -- 7
  refine ow_val (val_leq_u64 rfl rfl) rfl ?_   -- 8
  refine ow_nil (into ?_)
  refine sw_if rfl (fun h0 => ?_) (fun h0 => ?_)
  · -- then
    have hdv : ((n - UInt64.ofNat (Int.toNat 1)) / UInt64.ofNat (Int.toNat 2)).toNat = (n.toNat - 1) / 2 := by
      rw [UInt64.toNat_div, UInt64.toNat_sub_of_le _ _ (UInt64.le_iff_toNat_le.2 (show (UInt64.ofNat (Int.toNat 1)).toNat ≤ n.toNat from (show 1 ≤ n.toNat by omega)))]; rfl
    have hlt : 2 * v.toNat < n.toNat := by
      have h3 := UInt64.le_iff_toNat_le.1 h0
      rw [hdv] at h3
      omega
    have hm2 : (v * UInt64.ofNat (Int.toNat 2)).toNat = v.toNat * 2 := by
      rw [UInt64.toNat_mul]; show v.toNat * 2 % 2 ^ 64 = _; omega
    refine sw_skip (into ?_)
    refine sw_block ?_
    refine sw_region ?_
    refine ow_val (val_move rfl) rfl ?_   -- 9
    refine ow_val (val_mul_u64 rfl rfl) rfl ?_   -- 10
    refine ow_val (val_assign rfl) rfl ?_   -- 3
    exact ow_nil (fun w hm => ⟨v * UInt64.ofNat (Int.toNat 2), ⟨⟨j + 1, by rw [hm2, hj, Nat.pow_succ]⟩, by rw [hm2]; omega⟩, by rw [hm2]; omega, ⟨rfl, rfl, trivial⟩, hm⟩)
  · -- else
    have hdv : ((n - UInt64.ofNat (Int.toNat 1)) / UInt64.ofNat (Int.toNat 2)).toNat = (n.toNat - 1) / 2 := by
      rw [UInt64.toNat_div, UInt64.toNat_sub_of_le _ _ (UInt64.le_iff_toNat_le.2 (show (UInt64.ofNat (Int.toNat 1)).toNat ≤ n.toNat from (show 1 ≤ n.toNat by omega)))]; rfl
    have hge : n.toNat ≤ 2 * v.toNat := Nat.le_of_not_lt fun h3 => h0 (UInt64.le_iff_toNat_le.2 (by rw [hdv]; omega))
    refine sw_exit (into ?_)
    refine sw_seq ?_
    refine sw_region ?_
    refine ow_val (val_move rfl) rfl ?_   -- 11
    refine ow_val (val_assign rfl) rfl ?_   -- 2
    refine ow_nil (into ?_)
    exact sw_ret (fun w hm => ret_one _ rfl rfl ⟨by rw [splitU_eq hj hv hge], hm⟩)

theorem rlog_0 (k : Nat) (h1 : 1 ≤ k) (h2 : k ≤ 32) (w : World) (a : Option Addr) (c : Nat) (l : List (List UInt8)) (hdl : ∀ d ∈ l, d.length = 32) (hfl : ∀ d ∈ l, fm (k : Int) d = true) (hr : Rd w a (l.flatMap fun d => d.map vU8)) (hc : l.length ≤ c) (hl : l.length < 9223372036854775808) (h0 : l.length = 0) : Calls Tryd.prog 46 #[vInt (k : Int), .slice a l.length c] w fun e w' => ∃ v, e = .returned v ∧ v = .agg ((lg k l).map vU8).toArray ∧ Mem w [] [] w' := by
  refine calls_of_sw (vs := [vInt (k : Int), .slice a l.length c]) Tryd.func46 rfl Tryd.ntmps46 rfl (SW.begin ?_)
  refine sw_seq ?_
  refine sw_region ?_
  refine ow_new (acts_alloc zD) rfl (fun b4 hb4 => ?_)   -- 4
  refine ow_nil (into ?_)
  refine sw_seq ?_
  refine sw_seq ?_
  refine sw_region ?_
  refine ow_val (val_move rfl) rfl ?_   -- 6
  refine ow_val (val_len rfl Tryd.underlying32) rfl ?_   -- 7
  refine ow_nil (into ?_)
  refine sw_block ?_
  refine sw_seq ?_
  refine sw_region ?_
  refine ow_val ((val_eql_int rfl rfl).to (congrArg Value.bool (decide_eq_true (by omega)))) rfl ?_   -- 9
  refine ow_val (val_assign rfl) rfl ?_   -- 8
  refine ow_nil (into ?_)
  refine sw_true rfl rfl ?_
  refine sw_seq ?_
  refine sw_region ?_
  refine ow_val (val_move rfl) rfl ?_   -- 10
  refine ow_call_pure (v := .agg ((dig k []).map vU8).toArray) (callsTo Tryd.func28 rfl (by kernel_rfl) rfl) rfl (fun w hm => rnolog_any w k (by omega) (by omega)) ?_   -- 11
  refine ow_do_eq (does_store_all 0 rfl rfl rfl (one_u8s _) Tryd.sizeOf43 (by show (List.map vU8 (dig k [])).length = _; rw [List.length_map]; exact (dig_len _ h2)) (by show (List.map vU8 zeros32).length = _; rw [List.length_map]; exact zeros32_len)) ?_
  refine ow_nil (into ?_)
  refine sw_ret (fun w hm => ?_)
  try dsimp only [thenP, blockP, Nat.beq, cond]
  exact ret_cell 0 rfl rfl hm rfl Tryd.isAgg43 Tryd.sizeOf43 (by rw [List.length_map]; exact dig_len _ h2) ⟨by rw [List.length_eq_zero_iff.1 h0, lg_nil], hm.forgetAll⟩

theorem log_one {k : Nat} {l : List (List UInt8)} (h : l.length = 1) : l.getD 0 default = lg k l := by
  match l, h with
  | [d], _ => rw [lg_one]; rfl

theorem rlog_1 (k : Nat) (h1 : 1 ≤ k) (h2 : k ≤ 32) (w : World) (a : Option Addr) (c : Nat) (l : List (List UInt8)) (hdl : ∀ d ∈ l, d.length = 32) (hfl : ∀ d ∈ l, fm (k : Int) d = true) (hr : Rd w a (l.flatMap fun d => d.map vU8)) (hc : l.length ≤ c) (hl : l.length < 9223372036854775808) (h1' : l.length = 1) : Calls Tryd.prog 46 #[vInt (k : Int), .slice a l.length c] w fun e w' => ∃ v, e = .returned v ∧ v = .agg ((lg k l).map vU8).toArray ∧ Mem w [] [] w' := by
  obtain ⟨ba, oa, rfl⟩ := hr.addr (by rw [flatMap_size l (n := 32) (fun y hy => by rw [List.length_map]; exact hdl y hy)]; omega)
  refine calls_of_sw (vs := [vInt (k : Int), .slice (some ⟨ba, oa, none⟩) l.length c]) Tryd.func46 rfl Tryd.ntmps46 rfl (SW.begin ?_)
  refine sw_seq ?_
  refine sw_region ?_
  refine ow_new (acts_alloc zD) rfl (fun b4 hb4 => ?_)   -- 4
  refine ow_nil (into ?_)
  refine sw_seq ?_
  refine sw_seq ?_
  refine sw_region ?_
  refine ow_val (val_move rfl) rfl ?_   -- 6
  refine ow_val (val_len rfl Tryd.underlying32) rfl ?_   -- 7
  refine ow_nil (into ?_)
  refine sw_block ?_
  refine sw_seq ?_
  refine sw_region ?_
  refine ow_val ((val_eql_int rfl rfl).to (congrArg Value.bool (decide_eq_false (by omega)))) rfl ?_   -- 9
  refine ow_val (val_assign rfl) rfl ?_   -- 8
  refine ow_nil (into ?_)
  refine sw_false rfl rfl ?_
  refine sw_seq ?_
  refine sw_region ?_
  refine ow_val ((val_eql_int rfl rfl).to (congrArg Value.bool (decide_eq_true (by omega)))) rfl ?_   -- 13
  refine ow_val (val_assign rfl) rfl ?_   -- 12
  refine ow_nil (into ?_)
  refine sw_true rfl rfl ?_
  refine sw_seq ?_
  refine sw_region ?_
  refine ow_val (val_move rfl) rfl ?_   -- 14
  refine ow_val (val_indexAddr_slice 0 oa rfl rfl Tryd.underlying32 Tryd.sizeOf43 (by omega) (by omega) (by omega)) rfl ?_   -- 15
  refine ow_val ((val_load_elem (cells := fun d => d.map vU8) (l := l) (o := oa) (i := 0) rfl Tryd.isAgg43 Tryd.sizeOf43 (fun x hx => by rw [List.length_map]; exact hdl x hx) (by omega) (by omega) (fun w' hm => hr.mem hm)).to (v' := .agg ((lg k l).map vU8).toArray) (by rw [log_one h1'])) rfl ?_   -- 16
  refine ow_do_eq (does_store_all 0 rfl rfl rfl (one_u8s _) Tryd.sizeOf43 (by show (List.map vU8 (lg k l)).length = _; rw [List.length_map]; exact (lg_len h2 _ rfl hdl)) (by show (List.map vU8 zeros32).length = _; rw [List.length_map]; exact zeros32_len)) ?_
  refine ow_nil (into ?_)
  refine sw_ret (fun w hm => ?_)
  try dsimp only [thenP, blockP, Nat.beq, cond]
  exact ret_cell 0 rfl rfl hm rfl Tryd.isAgg43 Tryd.sizeOf43 (by rw [List.length_map]; exact lg_len h2 _ rfl hdl) ⟨rfl, hm.forgetAll⟩

theorem rlog_2 (k : Nat) (h1 : 1 ≤ k) (h2 : k ≤ 32) (w : World) (a : Option Addr) (c : Nat) (l : List (List UInt8)) (hdl : ∀ d ∈ l, d.length = 32) (hfl : ∀ d ∈ l, fm (k : Int) d = true) (hr : Rd w a (l.flatMap fun d => d.map vU8)) (hc : l.length ≤ c) (hl : l.length < 9223372036854775808) (h2l : 2 ≤ l.length) (q : Nat) (hq : splitN l.length = q) (ih : ∀ (a' : Option Addr) (m' c' : Nat) (l' : List (List UInt8)) (w' : World), l'.length < l.length → l'.length = m' → (∀ d ∈ l', d.length = 32) → (∀ d ∈ l', fm (k : Int) d = true) → Rd w' a' (l'.flatMap fun d => d.map vU8) → m' ≤ c' → m' < 9223372036854775808 → Calls Tryd.prog 46 #[vInt (k : Int), .slice a' m' c'] w' fun en w'' => ∃ v, en = .returned v ∧ v = .agg ((lg k l').map vU8).toArray ∧ Mem w' [] [] w'') : Calls Tryd.prog 46 #[vInt (k : Int), .slice a l.length c] w fun e w' => ∃ v, e = .returned v ∧ v = .agg ((lg k l).map vU8).toArray ∧ Mem w [] [] w' := by
  have hpart : nd k (lg k (l.take q)) (lg k (l.drop q)) = lg k l := by rw [← hq]; exact (lg_two k h2l).symm
  have hs1 := splitN_lt h2l
  have hs2 := splitN_pos l.length
  have hof : (UInt64.ofNat l.length).toNat = l.length := of_nat (by omega)
  have hsu : splitU (UInt64.ofNat l.length) = UInt64.ofNat q := by rw [splitU, hof, hq]
  refine calls_of_sw (vs := [vInt (k : Int), .slice a l.length c]) Tryd.func46 rfl Tryd.ntmps46 rfl (SW.begin ?_)
  refine sw_seq ?_
  refine sw_region ?_
  refine ow_new (acts_alloc zD) rfl (fun b4 hb4 => ?_)   -- 4
  refine ow_nil (into ?_)
  refine sw_seq ?_
  refine sw_seq ?_
  refine sw_region ?_
  refine ow_val (val_move rfl) rfl ?_   -- 6
  refine ow_val (val_len rfl Tryd.underlying32) rfl ?_   -- 7
  refine ow_nil (into ?_)
  refine sw_block ?_
  refine sw_seq ?_
  refine sw_region ?_
  refine ow_val ((val_eql_int rfl rfl).to (congrArg Value.bool (decide_eq_false (by omega)))) rfl ?_   -- 9
  refine ow_val (val_assign rfl) rfl ?_   -- 8
  refine ow_nil (into ?_)
  refine sw_false rfl rfl ?_
  refine sw_seq ?_
  refine sw_region ?_
  refine ow_val ((val_eql_int rfl rfl).to (congrArg Value.bool (decide_eq_false (by omega)))) rfl ?_   -- 13
  refine ow_val (val_assign rfl) rfl ?_   -- 12
  refine ow_nil (into ?_)
  refine sw_false rfl rfl ?_
  refine sw_skip (into ?_)
  refine sw_seq ?_
  refine sw_region ?_
  refine ow_val (val_move rfl) rfl ?_   -- 17
  refine ow_val (val_len rfl Tryd.underlying32) rfl ?_   -- 18
  refine ow_val (val_conv_n_u64 l.length Tryd.underlying3 Tryd.underlying46 rfl rfl) rfl ?_   -- 19
  refine ow_call_pure (v := vU64 (UInt64.ofNat q)) (callsTo Tryd.func57 rfl (by kernel_rfl) rfl) rfl (fun w hm => (by have h := rbelow_any (UInt64.ofNat l.length) (by rw [hof]; exact h2l) w; rw [hsu] at h; exact h)) ?_   -- 20
  refine ow_val (val_assign rfl) rfl ?_   -- 5
  refine ow_nil (into ?_)
  refine sw_seq ?_
  refine sw_region_lex _ [12] [(0, 0), (1, 0), (2, 0), (3, 0), (4, 0), (6, 0), (7, 0), (8, 0), (9, 0), (5, 2), (10, 2), (11, 2), (12, 2)] (by kernel_rfl) (by kernel_rfl) (fun _ _ _ h => h) (fun _ h => h) (fun _ h => h.drawn _) ?_
  refine lw_pure rfl (val_move rfl) rfl ?_   -- 21
  refine lw_pure rfl (val_move rfl) rfl ?_   -- 22
  refine lw_pure rfl (val_move rfl) rfl ?_   -- 23
  refine lw_pure rfl (val_move rfl) rfl ?_   -- 24
  refine lw_pure rfl (val_slice_hi q rfl rfl Tryd.underlying32 Tryd.sizeOf43 (by rw [of_nat (by omega)]) (by omega)) rfl ?_   -- 25
  refine lw_pure rfl (val_move rfl) rfl ?_   -- 27
  refine lw_pure rfl (val_move rfl) rfl ?_   -- 28
  refine lw_pure rfl (val_move rfl) rfl ?_   -- 29
  refine lw_pure rfl (val_slice_from q rfl rfl Tryd.underlying32 Tryd.sizeOf43 (by rw [of_nat (by omega)]) (by omega) (by omega)) rfl ?_   -- 30
  refine lw_call_pure rfl (callsTo Tryd.func46 rfl (by kernel_rfl) rfl) rfl (fun w hm => ih a (q) c (l.take q) w (by rw [List.length_take]; omega) (by rw [List.length_take] <;> omega) (fun d hd => hdl d (List.mem_of_mem_take hd)) (fun d hd => hfl d (List.mem_of_mem_take hd)) (rdTakeD (hr.mem hm) q) (by omega) (by omega)) ?_   -- 26
  refine lw_call_pure rfl (callsTo Tryd.func46 rfl (by kernel_rfl) rfl) rfl (fun w hm => ih (Sx.cut a c q 32) (l.length - q) (c - q) (l.drop q) w (by rw [List.length_drop]; omega) (by rw [List.length_drop] <;> omega) (fun d hd => hdl d (List.mem_of_mem_drop hd)) (fun d hd => hfl d (List.mem_of_mem_drop hd)) (rdCutD (hr.mem hm) hdl hc) (by omega) (by omega)) ?_   -- 31
  refine lw_call_pure (v := .agg ((lg k l).map vU8).toArray) rfl (callsTo Tryd.func37 rfl (by kernel_rfl) rfl) rfl (fun w hm => (by have h := rnd_any k h1 h2 ((lg k (l.take q))) ((lg k (l.drop q))) (lg_len h2 _ rfl (fun d hd => hdl d (List.mem_of_mem_take hd))) (lg_len h2 _ rfl (fun d hd => hdl d (List.mem_of_mem_drop hd))) w; rw [hpart] at h; exact h)) ?_   -- 32
  refine lw_do rfl (does_store_all 0 rfl rfl rfl (one_u8s _) Tryd.sizeOf43 (by show (List.map vU8 (lg k l)).length = _; rw [List.length_map]; exact (lg_len h2 _ rfl hdl)) (by show (List.map vU8 zeros32).length = _; rw [List.length_map]; exact zeros32_len)) (fun h => nomatch h) (fun _ _ => ?_)
  refine lw_nil (into ?_)
  exact sw_ret (fun w hm => ret_cell 0 rfl rfl hm rfl Tryd.isAgg43 Tryd.sizeOf43 (by rw [List.length_map]; exact lg_len h2 _ rfl hdl) ⟨rfl, hm.forgetAll⟩)

theorem rlog_any (k : Nat) (h1 : 1 ≤ k) (h2 : k ≤ 32) : ∀ (N : Nat) (a : Option Addr) (m c : Nat) (l : List (List UInt8)) (w : World), l.length ≤ N → l.length = m → (∀ d ∈ l, d.length = 32) → (∀ d ∈ l, fm (k : Int) d = true) → Rd w a (l.flatMap fun d => d.map vU8) → m ≤ c → m < 9223372036854775808 → Calls Tryd.prog 46 #[vInt (k : Int), .slice a m c] w fun e w' => ∃ v, e = .returned v ∧ v = .agg ((lg k l).map vU8).toArray ∧ Mem w [] [] w'
  | N, a, m, c, l, w, hN, hlm, hdl, hfl, hr, hc, hl => by
    subst hlm
    by_cases h0 : l.length = 0
    · exact rlog_0 k h1 h2 w a c l hdl hfl hr hc hl h0
    by_cases h1' : l.length = 1
    · exact rlog_1 k h1 h2 w a c l hdl hfl hr hc hl h1'
    match N, hN with
    | 0, hN => omega
    | N + 1, hN => exact rlog_2 k h1 h2 w a c l hdl hfl hr hc hl (by omega) _ rfl (fun a' m' c' l' w' hlt hm' hd hf hr hc hl => rlog_any k h1 h2 N a' m' c' l' w' (by omega) hm' hd hf hr hc hl)

theorem rrange_gt (k : Nat) (h1 : 1 ≤ k) (h2 : k ≤ 32) (lo hi : UInt64) (w : World) (a : Option Addr) (c : Nat) (l : List (List UInt8)) (hdl : ∀ d ∈ l, d.length = 32) (hfl : ∀ d ∈ l, fm (k : Int) d = true) (hr : Rd w a (l.flatMap fun d => d.map vU8)) (hc : l.length ≤ c) (hl : l.length < 9223372036854775808) (hgt : hi < lo) : Calls Tryd.prog 20 #[vInt (k : Int), .slice a l.length c, vU64 lo, vU64 hi] w fun e w' => ∃ v, e = .returned v ∧ v = .tuple #[.agg (((rngO k l lo hi).1).map vU8).toArray, vInt (((rngO k l lo hi).2 : Nat) : Int)] ∧ Mem w [] [] w' := by
  have hlen : (UInt64.ofNat l.length).toNat = l.length := of_nat (by omega)
  refine calls_of_sw (vs := [vInt (k : Int), .slice a l.length c, vU64 lo, vU64 hi]) Tryd.func20 rfl Tryd.ntmps20 rfl (SW.begin ?_)
  refine sw_seq ?_
  refine sw_region ?_
  refine ow_new (acts_alloc zD) rfl (fun b8 hb8 => ?_)   -- 8
  refine ow_val (val_assign rfl) rfl ?_   -- 9
  refine ow_nil (into ?_)
  refine sw_seq ?_
  refine sw_seq ?_
  refine sw_region ?_
  refine ow_val (val_move rfl) rfl ?_   -- 10
  refine ow_val (val_move rfl) rfl ?_   -- 11
  refine ow_val ((val_gtr_u64 rfl rfl).to (v' := .bool true) (congrArg Value.bool (decide_eq_true hgt))) rfl ?_   -- 12
  refine ow_val (val_move rfl) rfl ?_   -- 13
  first | refine ow_guard_no rfl rfl rfl rfl rfl ?_ | refine ow_guard_none rfl rfl rfl rfl rfl ?_
  first | refine ow_guard_no rfl rfl rfl rfl rfl ?_ | refine ow_guard_none rfl rfl rfl rfl rfl ?_
  first | refine ow_guard_no rfl rfl rfl rfl rfl ?_ | refine ow_guard_none rfl rfl rfl rfl rfl ?_
  first | refine ow_guard_no rfl rfl rfl rfl rfl ?_ | refine ow_guard_none rfl rfl rfl rfl rfl ?_
  first | refine ow_guard_no rfl rfl rfl rfl rfl ?_ | refine ow_guard_none rfl rfl rfl rfl rfl ?_
  refine ow_val (val_pick_true rfl rfl) rfl ?_   -- 19
  refine ow_nil (into ?_)
  refine sw_true rfl rfl ?_
  refine sw_seq ?_
  refine sw_region ?_
  refine ow_val (val_build' (cs := zeros32.map vU8) rfl (by kernel_rfl)) rfl ?_   -- 20
  refine ow_do_eq (does_store_all 0 rfl rfl rfl (one_u8s _) Tryd.sizeOf43 (by show (List.map vU8 zeros32).length = _; rw [List.length_map]; exact zeros32_len) (by show (List.map vU8 zeros32).length = _; rw [List.length_map]; exact zeros32_len)) ?_
  refine ow_val (val_assign rfl) rfl ?_   -- 9
  refine ow_nil (into ?_)
  refine sw_ret (fun w hm => ?_)
  try dsimp only [thenP, blockP, Nat.beq, cond]
  exact ret_cell_two 0 rfl rfl rfl hm rfl Tryd.isAgg43 Tryd.sizeOf43 (by show (List.map vU8 zeros32).length = _; rw [List.length_map]; exact zeros32_len) ⟨by rw [rngO, if_pos (.inl hgt)] <;> rfl, hm.forgetAll⟩

theorem rrange_sz (k : Nat) (h1 : 1 ≤ k) (h2 : k ≤ 32) (lo hi : UInt64) (w : World) (a : Option Addr) (c : Nat) (l : List (List UInt8)) (hdl : ∀ d ∈ l, d.length = 32) (hfl : ∀ d ∈ l, fm (k : Int) d = true) (hr : Rd w a (l.flatMap fun d => d.map vU8)) (hc : l.length ≤ c) (hl : l.length < 9223372036854775808) (hgt : ¬ hi < lo) (hsz : UInt64.ofNat l.length < hi) : Calls Tryd.prog 20 #[vInt (k : Int), .slice a l.length c, vU64 lo, vU64 hi] w fun e w' => ∃ v, e = .returned v ∧ v = .tuple #[.agg (((rngO k l lo hi).1).map vU8).toArray, vInt (((rngO k l lo hi).2 : Nat) : Int)] ∧ Mem w [] [] w' := by
  have hlen : (UInt64.ofNat l.length).toNat = l.length := of_nat (by omega)
  refine calls_of_sw (vs := [vInt (k : Int), .slice a l.length c, vU64 lo, vU64 hi]) Tryd.func20 rfl Tryd.ntmps20 rfl (SW.begin ?_)
  refine sw_seq ?_
  refine sw_region ?_
  refine ow_new (acts_alloc zD) rfl (fun b8 hb8 => ?_)   -- 8
  refine ow_val (val_assign rfl) rfl ?_   -- 9
  refine ow_nil (into ?_)
  refine sw_seq ?_
  refine sw_seq ?_
  refine sw_region ?_
  refine ow_val (val_move rfl) rfl ?_   -- 10
  refine ow_val (val_move rfl) rfl ?_   -- 11
  refine ow_val ((val_gtr_u64 rfl rfl).to (v' := .bool false) (congrArg Value.bool (decide_eq_false hgt))) rfl ?_   -- 12
  refine ow_val (val_move rfl) rfl ?_   -- 13
  refine ow_guard_yes rfl rfl rfl ?_
  refine ow_val (val_move rfl) rfl ?_   -- 14
  refine ow_guard_yes rfl rfl rfl ?_
  refine ow_val (val_move rfl) rfl ?_   -- 15
  refine ow_guard_yes rfl rfl rfl ?_
  refine ow_val (val_len rfl Tryd.underlying32) rfl ?_   -- 16
  refine ow_guard_yes rfl rfl rfl ?_
  refine ow_val (val_conv_n_u64 l.length Tryd.underlying3 Tryd.underlying46 rfl rfl) rfl ?_   -- 17
  refine ow_guard_yes rfl rfl rfl ?_
  refine ow_val ((val_gtr_u64 rfl rfl).to (v' := .bool true) (congrArg Value.bool (decide_eq_true hsz))) rfl ?_   -- 18
  refine ow_val (val_pick_false rfl rfl) rfl ?_   -- 19
  refine ow_nil (into ?_)
  refine sw_true rfl rfl ?_
  refine sw_seq ?_
  refine sw_region ?_
  refine ow_val (val_build' (cs := zeros32.map vU8) rfl (by kernel_rfl)) rfl ?_   -- 20
  refine ow_do_eq (does_store_all 0 rfl rfl rfl (one_u8s _) Tryd.sizeOf43 (by show (List.map vU8 zeros32).length = _; rw [List.length_map]; exact zeros32_len) (by show (List.map vU8 zeros32).length = _; rw [List.length_map]; exact zeros32_len)) ?_
  refine ow_val (val_assign rfl) rfl ?_   -- 9
  refine ow_nil (into ?_)
  refine sw_ret (fun w hm => ?_)
  try dsimp only [thenP, blockP, Nat.beq, cond]
  exact ret_cell_two 0 rfl rfl rfl hm rfl Tryd.isAgg43 Tryd.sizeOf43 (by show (List.map vU8 zeros32).length = _; rw [List.length_map]; exact zeros32_len) ⟨by rw [rngO, if_pos (.inr (by have h9 := UInt64.lt_iff_toNat_lt.1 hsz; omega))] <;> rfl, hm.forgetAll⟩

theorem rrange_go (k : Nat) (h1 : 1 ≤ k) (h2 : k ≤ 32) (lo hi : UInt64) (w : World) (a : Option Addr) (c : Nat) (l : List (List UInt8)) (hdl : ∀ d ∈ l, d.length = 32) (hfl : ∀ d ∈ l, fm (k : Int) d = true) (hr : Rd w a (l.flatMap fun d => d.map vU8)) (hc : l.length ≤ c) (hl : l.length < 9223372036854775808) (hgt : ¬ hi < lo) (hsz : ¬ UInt64.ofNat l.length < hi) : Calls Tryd.prog 20 #[vInt (k : Int), .slice a l.length c, vU64 lo, vU64 hi] w fun e w' => ∃ v, e = .returned v ∧ v = .tuple #[.agg (((rngO k l lo hi).1).map vU8).toArray, vInt (((rngO k l lo hi).2 : Nat) : Int)] ∧ Mem w [] [] w' := by
  have hlen : (UInt64.ofNat l.length).toNat = l.length := of_nat (by omega)
  have hle := Nat.le_of_not_lt (mt UInt64.lt_iff_toNat_lt.2 hgt)
  have hls := Nat.le_of_not_lt (mt UInt64.lt_iff_toNat_lt.2 hsz)
  have hel : ∀ d ∈ ((l.drop lo.toNat).take (hi.toNat - lo.toNat)), d.length = 32 := fun d hd => hdl d (List.mem_of_mem_drop (List.mem_of_mem_take hd))
  refine calls_of_sw (vs := [vInt (k : Int), .slice a l.length c, vU64 lo, vU64 hi]) Tryd.func20 rfl Tryd.ntmps20 rfl (SW.begin ?_)
  refine sw_seq ?_
  refine sw_region ?_
  refine ow_new (acts_alloc zD) rfl (fun b8 hb8 => ?_)   -- 8
  refine ow_val (val_assign rfl) rfl ?_   -- 9
  refine ow_nil (into ?_)
  refine sw_seq ?_
  refine sw_seq ?_
  refine sw_region ?_
  refine ow_val (val_move rfl) rfl ?_   -- 10
  refine ow_val (val_move rfl) rfl ?_   -- 11
  refine ow_val ((val_gtr_u64 rfl rfl).to (v' := .bool false) (congrArg Value.bool (decide_eq_false hgt))) rfl ?_   -- 12
  refine ow_val (val_move rfl) rfl ?_   -- 13
  refine ow_guard_yes rfl rfl rfl ?_
  refine ow_val (val_move rfl) rfl ?_   -- 14
  refine ow_guard_yes rfl rfl rfl ?_
  refine ow_val (val_move rfl) rfl ?_   -- 15
  refine ow_guard_yes rfl rfl rfl ?_
  refine ow_val (val_len rfl Tryd.underlying32) rfl ?_   -- 16
  refine ow_guard_yes rfl rfl rfl ?_
  refine ow_val (val_conv_n_u64 l.length Tryd.underlying3 Tryd.underlying46 rfl rfl) rfl ?_   -- 17
  refine ow_guard_yes rfl rfl rfl ?_
  refine ow_val ((val_gtr_u64 rfl rfl).to (v' := .bool false) (congrArg Value.bool (decide_eq_false hsz))) rfl ?_   -- 18
  refine ow_val (val_pick_false rfl rfl) rfl ?_   -- 19
  refine ow_nil (into ?_)
  refine sw_false rfl rfl ?_
  refine sw_skip (into ?_)
  refine sw_seq ?_
  refine sw_region ?_
  refine ow_val (val_move rfl) rfl ?_   -- 21
  refine ow_val (val_move rfl) rfl ?_   -- 22
  refine ow_val (val_move rfl) rfl ?_   -- 23
  refine ow_val (val_move rfl) rfl ?_   -- 24
  refine ow_val (val_slice_cut lo.toNat hi.toNat rfl rfl rfl Tryd.underlying32 Tryd.sizeOf43 rfl rfl (by omega) (by omega)) rfl ?_   -- 25
  refine ow_call_pure (callsTo Tryd.func46 rfl (by kernel_rfl) rfl) rfl (fun w hm => rlog_any k h1 h2 _ (Sx.cut a c lo.toNat 32) (hi.toNat - lo.toNat) (c - lo.toNat) ((l.drop lo.toNat).take (hi.toNat - lo.toNat)) w (Nat.le_refl _) (by rw [List.length_take, List.length_drop]; omega) hel (fun d hd => hfl d (List.mem_of_mem_drop (List.mem_of_mem_take hd))) (rdTakeD (rdCutD (hr.mem hm) hdl hc) _) (by omega) (by omega)) ?_   -- 26
  refine ow_do_eq (does_store_all 0 rfl rfl rfl (one_u8s _) Tryd.sizeOf43 (by show (List.map vU8 (lg k ((l.drop lo.toNat).take (hi.toNat - lo.toNat)))).length = _; rw [List.length_map]; exact (lg_len h2 _ rfl hel)) (by show (List.map vU8 zeros32).length = _; rw [List.length_map]; exact zeros32_len)) ?_
  refine ow_val (val_assign rfl) rfl ?_   -- 9
  refine ow_nil (into ?_)
  exact sw_ret (fun w hm => ret_cell_two 0 rfl rfl rfl hm rfl Tryd.isAgg43 Tryd.sizeOf43 (by show (List.map vU8 (lg k ((l.drop lo.toNat).take (hi.toNat - lo.toNat)))).length = _; rw [List.length_map]; exact (lg_len h2 _ rfl hel)) ⟨by rw [rngO, if_neg (fun h => h.elim hgt (fun h => hsz (UInt64.lt_iff_toNat_lt.2 (by omega))))] <;> rfl, hm.forgetAll⟩)

theorem rrange_any (k : Nat) (h1 : 1 ≤ k) (h2 : k ≤ 32) (lo hi : UInt64) (w : World) (a : Option Addr) (m c : Nat) (l : List (List UInt8)) (hlm : l.length = m) (hdl : ∀ d ∈ l, d.length = 32) (hfl : ∀ d ∈ l, fm (k : Int) d = true) (hr : Rd w a (l.flatMap fun d => d.map vU8)) (hc : m ≤ c) (hl : m < 9223372036854775808) : Calls Tryd.prog 20 #[vInt (k : Int), .slice a m c, vU64 lo, vU64 hi] w fun e w' => ∃ v, e = .returned v ∧ v = .tuple #[.agg (((rngO k l lo hi).1).map vU8).toArray, vInt (((rngO k l lo hi).2 : Nat) : Int)] ∧ Mem w [] [] w' := by
  subst hlm
  by_cases hgt : hi < lo
  · exact rrange_gt k h1 h2 lo hi w a c l hdl hfl hr hc hl hgt
  by_cases hsz : UInt64.ofNat l.length < hi
  · exact rrange_sz k h1 h2 lo hi w a c l hdl hfl hr hc hl hgt hsz
  · exact rrange_go k h1 h2 lo hi w a c l hdl hfl hr hc hl hgt hsz

theorem rleaf_no (i : UInt64) (w : World) (a : Option Addr) (c : Nat) (l : List (List UInt8)) (hdl : ∀ d ∈ l, d.length = 32) (hr : Rd w a (l.flatMap fun d => d.map vU8)) (hc : l.length ≤ c) (hl : l.length < 9223372036854775808) (hi : UInt64.ofNat l.length ≤ i) : Calls Tryd.prog 23 #[.slice a l.length c, vU64 i] w fun e w' => ∃ v, e = .returned v ∧ v = .tuple #[.agg (((leafO l i).1).map vU8).toArray, vInt (((leafO l i).2 : Nat) : Int)] ∧ Mem w [] [] w' := by
  have hlen : (UInt64.ofNat l.length).toNat = l.length := of_nat (by omega)
  refine calls_of_sw (vs := [.slice a l.length c, vU64 i]) Tryd.func23 rfl Tryd.ntmps23 rfl (SW.begin ?_)
  refine sw_seq ?_
  refine sw_region ?_
  refine ow_new (acts_alloc zD) rfl (fun b4 hb4 => ?_)   -- 4
  refine ow_val (val_assign rfl) rfl ?_   -- 5
  refine ow_nil (into ?_)
  refine sw_seq ?_
  refine sw_seq ?_
  refine sw_region ?_
  refine ow_val (val_move rfl) rfl ?_   -- 6
  refine ow_val (val_move rfl) rfl ?_   -- 7
  refine ow_val (val_len rfl Tryd.underlying32) rfl ?_   -- 8
  refine ow_val (val_conv_n_u64 l.length Tryd.underlying3 Tryd.underlying46 rfl rfl) rfl ?_   -- 9
  refine ow_val ((val_geq_u64 rfl rfl).to (v' := .bool true) (congrArg Value.bool (decide_eq_true hi))) rfl ?_   -- 10
  refine ow_nil (into ?_)
  refine sw_true rfl rfl ?_
  refine sw_seq ?_
  refine sw_region ?_
  refine ow_val (val_build' (cs := zeros32.map vU8) rfl (by kernel_rfl)) rfl ?_   -- 11
  refine ow_do_eq (does_store_all 0 rfl rfl rfl (one_u8s _) Tryd.sizeOf43 (by show (List.map vU8 zeros32).length = _; rw [List.length_map]; exact zeros32_len) (by show (List.map vU8 zeros32).length = _; rw [List.length_map]; exact zeros32_len)) ?_
  refine ow_val (val_assign rfl) rfl ?_   -- 5
  refine ow_nil (into ?_)
  refine sw_ret (fun w hm => ?_)
  try dsimp only [thenP, blockP, Nat.beq, cond]
  exact ret_cell_two 0 rfl rfl rfl hm rfl Tryd.isAgg43 Tryd.sizeOf43 (by show (List.map vU8 zeros32).length = _; rw [List.length_map]; exact zeros32_len) ⟨by rw [leafO, if_pos (by have h9 := UInt64.le_iff_toNat_le.1 hi; omega)] <;> rfl, hm.forgetAll⟩

theorem rleaf_yes (i : UInt64) (w : World) (a : Option Addr) (c : Nat) (l : List (List UInt8)) (hdl : ∀ d ∈ l, d.length = 32) (hr : Rd w a (l.flatMap fun d => d.map vU8)) (hc : l.length ≤ c) (hl : l.length < 9223372036854775808) (hi : ¬ UInt64.ofNat l.length ≤ i) : Calls Tryd.prog 23 #[.slice a l.length c, vU64 i] w fun e w' => ∃ v, e = .returned v ∧ v = .tuple #[.agg (((leafO l i).1).map vU8).toArray, vInt (((leafO l i).2 : Nat) : Int)] ∧ Mem w [] [] w' := by
  have hlen : (UInt64.ofNat l.length).toNat = l.length := of_nat (by omega)
  have hil := Nat.lt_of_not_le (mt UInt64.le_iff_toNat_le.2 hi)
  have hgl : (l.getD i.toNat default).length = 32 := hdl _ (getD_mem (by omega))
  obtain ⟨ba, oa, rfl⟩ := hr.addr (by rw [flatMap_size l (n := 32) (fun y hy => by rw [List.length_map]; exact hdl y hy)]; omega)
  refine calls_of_sw (vs := [.slice (some ⟨ba, oa, none⟩) l.length c, vU64 i]) Tryd.func23 rfl Tryd.ntmps23 rfl (SW.begin ?_)
  refine sw_seq ?_
  refine sw_region ?_
  refine ow_new (acts_alloc zD) rfl (fun b4 hb4 => ?_)   -- 4
  refine ow_val (val_assign rfl) rfl ?_   -- 5
  refine ow_nil (into ?_)
  refine sw_seq ?_
  refine sw_seq ?_
  refine sw_region ?_
  refine ow_val (val_move rfl) rfl ?_   -- 6
  refine ow_val (val_move rfl) rfl ?_   -- 7
  refine ow_val (val_len rfl Tryd.underlying32) rfl ?_   -- 8
  refine ow_val (val_conv_n_u64 l.length Tryd.underlying3 Tryd.underlying46 rfl rfl) rfl ?_   -- 9
  refine ow_val ((val_geq_u64 rfl rfl).to (v' := .bool false) (congrArg Value.bool (decide_eq_false hi))) rfl ?_   -- 10
  refine ow_nil (into ?_)
  refine sw_false rfl rfl ?_
  refine sw_skip (into ?_)
  refine sw_seq ?_
  refine sw_region ?_
  refine ow_val (val_move rfl) rfl ?_   -- 12
  refine ow_val (val_move rfl) rfl ?_   -- 13
  refine ow_val (val_indexAddr_slice i.toNat (oa + i.toNat * 32) rfl rfl Tryd.underlying32 Tryd.sizeOf43 rfl (by omega) rfl) rfl ?_   -- 14
  refine ow_val (val_load_elem (cells := fun d => d.map vU8) (l := l) (o := oa) (i := i.toNat) rfl Tryd.isAgg43 Tryd.sizeOf43 (fun x hx => by rw [List.length_map]; exact hdl x hx) (by omega) rfl (fun w' hm => hr.mem hm)) rfl ?_   -- 15
  refine ow_do_eq (does_store_all 0 rfl rfl rfl (one_u8s _) Tryd.sizeOf43 (by show (List.map vU8 (l.getD i.toNat default)).length = _; rw [List.length_map]; exact hgl) (by show (List.map vU8 zeros32).length = _; rw [List.length_map]; exact zeros32_len)) ?_
  refine ow_val (val_assign rfl) rfl ?_   -- 5
  refine ow_nil (into ?_)
  exact sw_ret (fun w hm => ret_cell_two 0 rfl rfl rfl hm rfl Tryd.isAgg43 Tryd.sizeOf43 (by show (List.map vU8 (l.getD i.toNat default)).length = _; rw [List.length_map]; exact hgl) ⟨by rw [leafO, if_neg (by omega)] <;> rfl, hm.forgetAll⟩)

theorem rleaf_any (i : UInt64) (w : World) (a : Option Addr) (m c : Nat) (l : List (List UInt8)) (hlm : l.length = m) (hdl : ∀ d ∈ l, d.length = 32) (hr : Rd w a (l.flatMap fun d => d.map vU8)) (hc : m ≤ c) (hl : m < 9223372036854775808) : Calls Tryd.prog 23 #[.slice a m c, vU64 i] w fun e w' => ∃ v, e = .returned v ∧ v = .tuple #[.agg (((leafO l i).1).map vU8).toArray, vInt (((leafO l i).2 : Nat) : Int)] ∧ Mem w [] [] w' := by
  subst hlm
  by_cases hi : UInt64.ofNat l.length ≤ i
  · exact rleaf_no i w a c l hdl hr hc hl hi
  · exact rleaf_yes i w a c l hdl hr hc hl hi

theorem rnew_yes (v0 : Int) (hw : wd v0 = true) (w : World) : Calls Tryd.prog 14 #[vInt v0] w fun e w' => ∃ v, e = .returned v ∧ v = vInt ((0 : Nat) : Int) ∧ Mem w [] [] w' := by
  refine calls_of_sw (vs := [vInt v0]) Tryd.func14 rfl Tryd.ntmps14 rfl (SW.begin ?_)
  refine sw_seq ?_
  refine sw_region ?_
  refine ow_val (val_assign rfl) rfl ?_   -- 2
  refine ow_nil (into ?_)
  refine sw_seq ?_
  refine sw_seq ?_
  refine sw_region ?_
  refine ow_val (val_move rfl) rfl ?_   -- 3
  refine ow_call_pure (v := .bool true) (callsTo Tryd.func26 rfl (by kernel_rfl) rfl) rfl (fun w hm => rwidth_is hw w) ?_   -- 4
  refine ow_val (val_not rfl) rfl ?_   -- 5
  refine ow_nil (into ?_)
  refine sw_false rfl rfl ?_
  refine sw_skip (into ?_)
  refine sw_seq ?_
  refine sw_region ?_
  refine ow_val (val_assign rfl) rfl ?_   -- 2
  refine ow_nil (into ?_)
  exact sw_ret (fun w hm => ret_one _ rfl rfl ⟨rfl, hm.forgetAll⟩)

theorem rnew_no (v0 : Int) (hw : wd v0 = false) (w : World) : Calls Tryd.prog 14 #[vInt v0] w fun e w' => ∃ v, e = .returned v ∧ v = vInt ((1 : Nat) : Int) ∧ Mem w [] [] w' := by
  refine calls_of_sw (vs := [vInt v0]) Tryd.func14 rfl Tryd.ntmps14 rfl (SW.begin ?_)
  refine sw_seq ?_
  refine sw_region ?_
  refine ow_val (val_assign rfl) rfl ?_   -- 2
  refine ow_nil (into ?_)
  refine sw_seq ?_
  refine sw_seq ?_
  refine sw_region ?_
  refine ow_val (val_move rfl) rfl ?_   -- 3
  refine ow_call_pure (v := .bool false) (callsTo Tryd.func26 rfl (by kernel_rfl) rfl) rfl (fun w hm => rwidth_is hw w) ?_   -- 4
  refine ow_val (val_not rfl) rfl ?_   -- 5
  refine ow_nil (into ?_)
  refine sw_true rfl rfl ?_
  refine sw_seq ?_
  refine sw_region ?_
  refine ow_val (val_assign rfl) rfl ?_   -- 2
  refine ow_nil (into ?_)
  refine sw_ret (fun w hm => ?_)
  try dsimp only [thenP, blockP, Nat.beq, cond]
  exact ret_one _ rfl rfl ⟨rfl, hm.forgetAll⟩
end Go.Proofs.YtcappcjogcekkaaDoor
