import Derived.Test.YtcappcjogcekkaaDoorMt7
import Derived.Test.YtcappcjogcekkaaDoorProg
set_option linter.unusedVariables false
set_option linter.unusedSimpArgs false
namespace Go.Proofs.YtcappcjogcekkaaDoor
open Go.Sx Go.Ps
/-- The leaves from lo up to hi. -/
def seg (l : List (List UInt8)) (lo hi : Nat) : List (List UInt8) := (l.drop lo).take (hi - lo)
theorem seg_all {P : List UInt8 → Prop} {l : List (List UInt8)} (h : ∀ d ∈ l, P d) {lo hi : Nat} : ∀ d ∈ seg l lo hi, P d := fun d hd => h d (List.mem_of_mem_drop (List.mem_of_mem_take hd))
theorem rngO_nat (k : Nat) {l : List (List UInt8)} {lo hi : Nat} (h1 : lo ≤ hi) (h2 : hi ≤ l.length) (h3 : l.length < 9223372036854775808) : rngO k l (UInt64.ofNat lo) (UInt64.ofNat hi) = (lg k (seg l lo hi), 0) := by
  have e1 : (UInt64.ofNat lo).toNat = lo := of_nat (by omega)
  have e2 : (UInt64.ofNat hi).toNat = hi := of_nat (by omega)
  rw [rngO, if_neg, e1, e2]; · rfl
  rw [UInt64.lt_iff_toNat_lt, e1, e2]; omega
theorem rngO_root (k : Nat) {l : List (List UInt8)} {hi : Nat} (h2 : hi ≤ l.length) (h3 : l.length < 9223372036854775808) : rngO k l 0 (UInt64.ofNat hi) = (lg k (seg l 0 hi), 0) := rngO_nat k (lo := 0) (Nat.zero_le _) h2 h3
theorem leafO_nat {l : List (List UInt8)} {i : Nat} (h : i < l.length) (h3 : l.length < 9223372036854775808) : leafO l (UInt64.ofNat i) = (l.getD i default, 0) := by
  rw [leafO, of_nat (by omega), if_neg (by omega)]
theorem lg_one' (k : Nat) {l : List (List UInt8)} {lo hi : Nat} (h : hi = lo + 1) (h2 : hi ≤ l.length) : lg k (seg l lo hi) = l.getD lo default := by
  subst h; rw [seg, Nat.add_sub_cancel_left, take_one (by omega)]
theorem lg_none (k : Nat) {l : List (List UInt8)} {lo hi : Nat} (h : hi ≤ lo) : lg k (seg l lo hi) = dig k [] := by
  rw [seg, show hi - lo = 0 by omega, List.take_zero, lg_nil]
theorem lg_halves (k : Nat) {l : List (List UInt8)} {lo hi m : Nat} (h2 : lo + 2 ≤ hi) (hn : hi ≤ l.length) (hm : splitN (hi - lo) = m) : lg k (seg l lo hi) = nd k (lg k (seg l lo (lo + m))) (lg k (seg l (lo + m) hi)) := by
  have h := lg_part k (l := l) (lo := lo) (n := hi - lo) (by omega) (by omega)
  rw [hm] at h
  rw [seg, h, seg, seg, Nat.add_sub_cancel_left, show hi - (lo + m) = hi - lo - m by omega]
theorem of_quo {a b : Nat} (ha : a < 18446744073709551616) (hb : b < 18446744073709551616) : UInt64.ofNat a / UInt64.ofNat b = UInt64.ofNat (a / b) := by
  apply UInt64.toNat.inj
  have h9 := Nat.div_le_self a b
  rw [UInt64.toNat_div, of_nat ha, of_nat hb, of_nat (by omega)]
theorem of_add {a b : Nat} (h : a + b < 18446744073709551616) : UInt64.ofNat a + UInt64.ofNat b = UInt64.ofNat (a + b) := by
  apply UInt64.toNat.inj
  rw [UInt64.toNat_add, of_nat (by omega), of_nat (by omega), of_nat h, Nat.mod_eq_of_lt h]
theorem dbl_lt {v : UInt64} {n : Nat} (hn : n < 4611686018427387904) (hv : v.toNat < n) : UInt64.ofNat (Int.toNat 2) * v < UInt64.ofNat n ↔ 2 * v.toNat < n := by
  have h2 : (UInt64.ofNat (Int.toNat 2)).toNat = 2 := rfl
  rw [UInt64.lt_iff_toNat_lt, UInt64.toNat_mul, h2, of_nat (by omega), Nat.mod_eq_of_lt (by omega)]
theorem pw_eq {v : UInt64} {n j : Nat} (hj : v.toNat = 2 ^ j) (hv : v.toNat < n) (hge : n ≤ 2 * v.toNat) : v = UInt64.ofNat (splitN n) := by
  rw [splitN_eq (j := j) rfl (by omega) (by omega), ← hj, UInt64.ofNat_toNat]
theorem seg_app {l m : List (List UInt8)} {i : Nat} (h : i ≤ l.length) : seg (l ++ m) 0 i = seg l 0 i := by
  rw [seg, seg, List.drop_zero, List.drop_zero, Nat.sub_zero, List.take_append_of_le_length h]
theorem getD_app {l m : List (List UInt8)} {i : Nat} : (l ++ m).getD (l.length + i) default = m.getD i default := by
  rw [List.getD_eq_getElem?_getD, List.getD_eq_getElem?_getD, List.getElem?_append_right (by omega), Nat.add_sub_cancel_left]
theorem getD_app1 {l m : List (List UInt8)} {i : Nat} (h : i < l.length) : (l ++ m).getD i default = l.getD i default := by
  rw [List.getD_eq_getElem?_getD, List.getD_eq_getElem?_getD, List.getElem?_append_left h]

theorem rooted_any (k : Nat) (h1 : 1 ≤ k) (h2 : k ≤ 32) (w : World) (hK : KW w) (b : Nat) (l : List (List UInt8)) (ht : TreeIs 95 75 k w b l) (hdl : ∀ d ∈ l, d.length = 32) (hfl : ∀ d ∈ l, fm (k : Int) d = true) (n : Nat) (hn : n ≤ l.length) (hl : l.length < 9223372036854775808) : Calls Tryd.prog 31 #[vPtr b, vInt (n : Int)] w fun e w' => ∃ v, e = .returned v ∧ v = .tuple #[.agg ((lg k (seg l 0 n)).map vU8).toArray, .bool true] ∧ Mem w [] [] w' := by
  refine calls_of_sw (vs := [vPtr b, vInt (n : Int)]) Tryd.func31 rfl Tryd.ntmps31 rfl (SW.begin ?_)
  refine sw_seq ?_
  refine sw_region ?_
  refine ow_new (acts_alloc zD) rfl (fun b4 hb4 => ?_)   -- 4
  refine ow_val (val_assign rfl) rfl ?_   -- 5
  refine ow_nil (into ?_)
  refine sw_seq ?_
  refine sw_region ?_
  refine ow_val (val_move rfl) rfl ?_   -- 9
  refine ow_val (val_move rfl) rfl ?_   -- 10
  refine ow_val (val_conv_n_u64 n Tryd.underlying3 Tryd.underlying46 rfl rfl) rfl ?_   -- 11
  refine ow_call_pure (v := .tuple #[.agg ((lg k (seg l 0 n)).map vU8).toArray, vInt ((0 : Nat) : Int)]) (callsTo Tryd.func21 rfl (by kernel_rfl) rfl) rfl (fun w hm => (by have h := root_any k h1 h2 b l (by assumption) (by assumption) (UInt64.ofNat n) w (hK.mem0 hm) (ht.mem hm) (by omega); rw [rngO_root k (by omega) (by omega)] at h; exact h)) ?_   -- 12
  refine ow_val (val_move rfl) rfl ?_   -- 8
  refine ow_val (val_extract rfl rfl) rfl ?_   -- 13
  refine ow_val (val_extract rfl rfl) rfl ?_   -- 14
  refine ow_new (acts_alloc zD) rfl (fun b6 hb6 => ?_)   -- 6
  refine ow_do_eq (does_store_all 0 rfl rfl rfl (one_u8s _) Tryd.sizeOf43 (by show (List.map vU8 (lg k (seg l 0 n))).length = _; rw [List.length_map]; exact (lg_len h2 _ rfl (seg_all (by assumption)))) (by show (List.map vU8 zeros32).length = _; rw [List.length_map]; exact zeros32_len)) ?_
  refine ow_val (val_assign rfl) rfl ?_   -- 7
  refine ow_nil (into ?_)
  refine sw_seq ?_
  refine sw_region ?_
  refine ow_val (val_load_all 0 rfl rfl Tryd.isAgg43 Tryd.sizeOf43 (by show (List.map vU8 (lg k (seg l 0 n))).length = _; rw [List.length_map]; exact (lg_len h2 _ rfl (seg_all (by assumption))))) rfl ?_   -- 15
  refine ow_val (val_move rfl) rfl ?_   -- 16
  refine ow_val ((val_eql_int rfl rfl).to (v' := .bool true) (congrArg Value.bool (decide_eq_true (by simp)))) rfl ?_   -- 17
  refine ow_do_eq (does_store_all 1 rfl rfl rfl (one_u8s _) Tryd.sizeOf43 (by show (List.map vU8 (lg k (seg l 0 n))).length = _; rw [List.length_map]; exact (lg_len h2 _ rfl (seg_all (by assumption)))) (by show (List.map vU8 zeros32).length = _; rw [List.length_map]; exact zeros32_len)) ?_
  refine ow_val (val_assign rfl) rfl ?_   -- 5
  refine ow_nil (into ?_)
  exact sw_ret (fun w hm => ret_cell_two 1 rfl rfl rfl hm rfl Tryd.isAgg43 Tryd.sizeOf43 (by show (List.map vU8 (lg k (seg l 0 n))).length = _; rw [List.length_map]; exact (lg_len h2 _ rfl (seg_all (by assumption)))) ⟨rfl, hm.forgetAll⟩)

theorem splits_none (v0 : Int) (w : World) (hK : KW w) (a : Option Addr) (c : Nat) (l : List (List UInt8)) (hdl : ∀ d ∈ l, d.length = 32) (hr : Rd w a (l.flatMap fun d => d.map vU8)) (hc : l.length ≤ c) (hl : l.length < 9223372036854775808) (ax : Option Addr) (cx : Nat) (xs : List Int) (hx : Rd w ax (xs.map vInt)) (hxc : xs.length ≤ cx) (hxl : xs.length < 9223372036854775808) (hno : ¬ (l.length ≤ 400 ∧ fitO v0 l = true)) : Calls Tryd.prog 7 #[vInt v0, .slice a l.length c, .slice ax xs.length cx] w fun e w' => ∃ v, e = .returned v ∧ v = .bool true ∧ Mem w [] [] w' := by
  refine calls_of_sw (vs := [vInt v0, .slice a l.length c, .slice ax xs.length cx]) Tryd.func7 rfl Tryd.ntmps7 rfl (SW.begin ?_)
  refine sw_seq ?_
  refine sw_region ?_
  refine ow_val (val_assign rfl) rfl ?_   -- 6
  refine ow_nil (into ?_)
  refine sw_seq ?_
  refine sw_seq ?_
  refine sw_region ?_
  refine ow_call_pure (v := .bool true) (callsTo Tryd.func12 rfl (by kernel_rfl) rfl) rfl (fun w hm => awake_any w (hK.mem0 hm)) ?_   -- 21
  refine ow_val (val_not rfl) rfl ?_   -- 22
  refine ow_nil (into ?_)
  refine sw_false rfl rfl ?_
  refine sw_skip (into ?_)
  refine sw_seq ?_
  refine sw_region ?_
  refine ow_val (val_move rfl) rfl ?_   -- 24
  refine ow_val (val_move rfl) rfl ?_   -- 25
  refine ow_call_pure (v := .tuple #[.pointer none, .bool false]) (callsTo Tryd.func18 rfl (by kernel_rfl) rfl) rfl (fun w hm => grown_none v0 5 w a l.length c l rfl hdl (hr.mem hm) (by omega) (by omega) hno) ?_   -- 26
  refine ow_val (val_move rfl) rfl ?_   -- 23
  refine ow_val (val_extract rfl rfl) rfl ?_   -- 27
  refine ow_val (val_extract rfl rfl) rfl ?_   -- 28
  refine ow_val (val_assign rfl) rfl ?_   -- 7
  refine ow_val (val_assign rfl) rfl ?_   -- 8
  refine ow_nil (into ?_)
  refine sw_seq ?_
  refine sw_seq ?_
  refine sw_region_lex _ [] [(0, 0), (1, 0), (2, 0), (3, 0), (4, 0), (5, 0), (6, 0), (7, 0), (8, 0), (9, 0), (10, 0), (11, 0), (12, 0), (13, 0), (14, 0), (15, 0), (16, 0), (17, 0), (18, 0), (19, 0), (20, 0), (21, 0), (22, 0), (23, 0), (24, 0), (25, 0), (26, 0), (27, 0), (28, 0), (29, 0)] (by kernel_rfl) (by kernel_rfl) (fun _ _ _ h => h) (fun _ h => h) (fun _ h => h.drawn _) ?_
  refine lw_pure rfl (val_move rfl) rfl ?_   -- 29
  refine lw_pure rfl (val_not rfl) rfl ?_   -- 30
  refine lw_pure rfl (val_move rfl) rfl ?_   -- 31
  first | refine lwg_no rfl (ng1 rfl rfl) rfl ?_ | refine lwg_no rfl (ng2 rfl rfl) rfl ?_   -- 32
  first | refine lwg_no rfl (ng1 rfl rfl) rfl ?_ | refine lwg_no rfl (ng2 rfl rfl) rfl ?_   -- 33
  first | refine lwg_no rfl (ng1 rfl rfl) rfl ?_ | refine lwg_no rfl (ng2 rfl rfl) rfl ?_   -- 34
  refine lw_pure rfl (val_pick_true rfl rfl) rfl ?_   -- 35
  refine lw_pure rfl (val_move rfl) rfl ?_   -- 36
  first | refine lwg_no rfl (ng1 rfl rfl) rfl ?_ | refine lwg_no rfl (ng2 rfl rfl) rfl ?_   -- 37
  first | refine lwg_no rfl (ng1 rfl rfl) rfl ?_ | refine lwg_no rfl (ng2 rfl rfl) rfl ?_   -- 38
  first | refine lwg_no rfl (ng1 rfl rfl) rfl ?_ | refine lwg_no rfl (ng2 rfl rfl) rfl ?_   -- 39
  first | refine lwg_no rfl (ng1 rfl rfl) rfl ?_ | refine lwg_no rfl (ng2 rfl rfl) rfl ?_   -- 40
  refine lw_pure rfl (val_pick_true rfl rfl) rfl ?_   -- 41
  refine lw_pure rfl (val_move rfl) rfl ?_   -- 42
  first | refine lwg_no rfl (ng1 rfl rfl) rfl ?_ | refine lwg_no rfl (ng2 rfl rfl) rfl ?_   -- 43
  first | refine lwg_no rfl (ng1 rfl rfl) rfl ?_ | refine lwg_no rfl (ng2 rfl rfl) rfl ?_   -- 44
  first | refine lwg_no rfl (ng1 rfl rfl) rfl ?_ | refine lwg_no rfl (ng2 rfl rfl) rfl ?_   -- 45
  first | refine lwg_no rfl (ng1 rfl rfl) rfl ?_ | refine lwg_no rfl (ng2 rfl rfl) rfl ?_   -- 46
  first | refine lwg_no rfl (ng1 rfl rfl) rfl ?_ | refine lwg_no rfl (ng2 rfl rfl) rfl ?_   -- 47
  first | refine lwg_no rfl (ng1 rfl rfl) rfl ?_ | refine lwg_no rfl (ng2 rfl rfl) rfl ?_   -- 48
  first | refine lwg_no rfl (ng1 rfl rfl) rfl ?_ | refine lwg_no rfl (ng2 rfl rfl) rfl ?_   -- 49
  refine lw_pure rfl (val_pick_true rfl rfl) rfl ?_   -- 50
  refine lw_pure rfl (val_move rfl) rfl ?_   -- 51
  first | refine lwg_no rfl (ng1 rfl rfl) rfl ?_ | refine lwg_no rfl (ng2 rfl rfl) rfl ?_   -- 52
  first | refine lwg_no rfl (ng1 rfl rfl) rfl ?_ | refine lwg_no rfl (ng2 rfl rfl) rfl ?_   -- 53
  first | refine lwg_no rfl (ng1 rfl rfl) rfl ?_ | refine lwg_no rfl (ng2 rfl rfl) rfl ?_   -- 54
  first | refine lwg_no rfl (ng1 rfl rfl) rfl ?_ | refine lwg_no rfl (ng2 rfl rfl) rfl ?_   -- 55
  first | refine lwg_no rfl (ng1 rfl rfl) rfl ?_ | refine lwg_no rfl (ng2 rfl rfl) rfl ?_   -- 56
  first | refine lwg_no rfl (ng1 rfl rfl) rfl ?_ | refine lwg_no rfl (ng2 rfl rfl) rfl ?_   -- 57
  refine lw_pure rfl (val_pick_true rfl rfl) rfl ?_   -- 58
  refine lw_nil (into ?_)
  refine sw_true rfl rfl ?_
  refine sw_seq ?_
  refine sw_region ?_
  refine ow_val (val_assign rfl) rfl ?_   -- 6
  refine ow_nil (into ?_)
  refine sw_ret (fun w hm => ?_)
  try dsimp only [thenP, blockP, Nat.beq, cond]
  exact ret_one _ rfl rfl ⟨rfl, hm.forgetAll⟩

theorem splits_a (k : Nat) (h1 : 1 ≤ k) (h2 : k ≤ 32) (w : World) (hK : KW w) (a : Option Addr) (c : Nat) (l : List (List UInt8)) (hdl : ∀ d ∈ l, d.length = 32) (hr : Rd w a (l.flatMap fun d => d.map vU8)) (hc : l.length ≤ c) (hl : l.length < 9223372036854775808) (hfl : ∀ d ∈ l, fm (k : Int) d = true) (ax : Option Addr) (cx : Nat) (xs : List Int) (hx : Rd w ax (xs.map vInt)) (hxc : xs.length ≤ cx) (hxl : xs.length < 9223372036854775808) (h4 : l.length ≤ 400) (h5 : xs.length < 2) : Calls Tryd.prog 7 #[vInt (k : Int), .slice a l.length c, .slice ax xs.length cx] w fun e w' => ∃ v, e = .returned v ∧ v = .bool true ∧ Mem w [] [] w' := by
  refine calls_of_sw (vs := [vInt (k : Int), .slice a l.length c, .slice ax xs.length cx]) Tryd.func7 rfl Tryd.ntmps7 rfl (SW.begin ?_)
  refine sw_seq ?_
  refine sw_region ?_
  refine ow_val (val_assign rfl) rfl ?_   -- 6
  refine ow_nil (into ?_)
  refine sw_seq ?_
  refine sw_seq ?_
  refine sw_region ?_
  refine ow_call_pure (v := .bool true) (callsTo Tryd.func12 rfl (by kernel_rfl) rfl) rfl (fun w hm => awake_any w (hK.mem0 hm)) ?_   -- 21
  refine ow_val (val_not rfl) rfl ?_   -- 22
  refine ow_nil (into ?_)
  refine sw_false rfl rfl ?_
  refine sw_skip (into ?_)
  refine sw_seq ?_
  refine sw_region ?_
  refine ow_val (val_move rfl) rfl ?_   -- 24
  refine ow_val (val_move rfl) rfl ?_   -- 25
  refine ow_call_tail (σ := Nat × List Ent) (fun q9 => .tuple #[vPtr q9.1, .bool true]) (fun q9 => q9.2) (fun q9 => TrOn 95 75 k q9.2 q9.1 l) (callsTo Tryd.func18 rfl (by kernel_rfl) rfl) rfl (fun w hm => grown_any k h1 h2 5 (by omega) (by omega) w (hK.mem0 hm) a l.length c l rfl hdl (hr.mem hm) (by omega) (by omega) (by omega) (by assumption)) ?_   -- 26
  rintro ⟨b26, es26⟩ htr26
  simp only at htr26 ⊢
  refine ow_val (val_move rfl) rfl ?_   -- 23
  refine ow_val (val_extract rfl rfl) rfl ?_   -- 27
  refine ow_val (val_extract rfl rfl) rfl ?_   -- 28
  refine ow_val (val_assign rfl) rfl ?_   -- 7
  refine ow_val (val_assign rfl) rfl ?_   -- 8
  refine ow_nil (into ?_)
  refine sw_seq ?_
  refine sw_seq ?_
  refine sw_region_lex _ [] [(0, 0), (1, 0), (2, 0), (3, 0), (4, 0), (5, 0), (6, 0), (7, 0), (8, 0), (9, 0), (10, 0), (11, 0), (12, 0), (13, 0), (14, 0), (15, 0), (16, 0), (17, 0), (18, 0), (19, 0), (20, 0), (21, 0), (22, 0), (23, 0), (24, 0), (25, 0), (26, 0), (27, 0), (28, 0), (29, 0)] (by kernel_rfl) (by kernel_rfl) (fun _ _ _ h => h) (fun _ h => h) (fun _ h => h.drawn _) ?_
  refine lw_pure rfl (val_move rfl) rfl ?_   -- 29
  refine lw_pure rfl (val_not rfl) rfl ?_   -- 30
  refine lw_pure rfl (val_move rfl) rfl ?_   -- 31
  refine lwg_pure rfl (wg rfl rfl) (val_move rfl) rfl ?_   -- 32
  refine lwg_pure rfl (wg rfl rfl) (val_len rfl Tryd.underlying59) rfl ?_   -- 33
  refine lwg_pure rfl (wg rfl rfl) ((val_lss_int rfl rfl).to (congrArg Value.bool (decide_eq_true (by omega)))) rfl ?_   -- 34
  refine lw_pure rfl (val_pick_false rfl rfl) rfl ?_   -- 35
  refine lw_pure rfl (val_move rfl) rfl ?_   -- 36
  first | refine lwg_no rfl (ng1 rfl rfl) rfl ?_ | refine lwg_no rfl (ng2 rfl rfl) rfl ?_   -- 37
  first | refine lwg_no rfl (ng1 rfl rfl) rfl ?_ | refine lwg_no rfl (ng2 rfl rfl) rfl ?_   -- 38
  first | refine lwg_no rfl (ng1 rfl rfl) rfl ?_ | refine lwg_no rfl (ng2 rfl rfl) rfl ?_   -- 39
  first | refine lwg_no rfl (ng1 rfl rfl) rfl ?_ | refine lwg_no rfl (ng2 rfl rfl) rfl ?_   -- 40
  refine lw_pure rfl (val_pick_true rfl rfl) rfl ?_   -- 41
  refine lw_pure rfl (val_move rfl) rfl ?_   -- 42
  first | refine lwg_no rfl (ng1 rfl rfl) rfl ?_ | refine lwg_no rfl (ng2 rfl rfl) rfl ?_   -- 43
  first | refine lwg_no rfl (ng1 rfl rfl) rfl ?_ | refine lwg_no rfl (ng2 rfl rfl) rfl ?_   -- 44
  first | refine lwg_no rfl (ng1 rfl rfl) rfl ?_ | refine lwg_no rfl (ng2 rfl rfl) rfl ?_   -- 45
  first | refine lwg_no rfl (ng1 rfl rfl) rfl ?_ | refine lwg_no rfl (ng2 rfl rfl) rfl ?_   -- 46
  first | refine lwg_no rfl (ng1 rfl rfl) rfl ?_ | refine lwg_no rfl (ng2 rfl rfl) rfl ?_   -- 47
  first | refine lwg_no rfl (ng1 rfl rfl) rfl ?_ | refine lwg_no rfl (ng2 rfl rfl) rfl ?_   -- 48
  first | refine lwg_no rfl (ng1 rfl rfl) rfl ?_ | refine lwg_no rfl (ng2 rfl rfl) rfl ?_   -- 49
  refine lw_pure rfl (val_pick_true rfl rfl) rfl ?_   -- 50
  refine lw_pure rfl (val_move rfl) rfl ?_   -- 51
  first | refine lwg_no rfl (ng1 rfl rfl) rfl ?_ | refine lwg_no rfl (ng2 rfl rfl) rfl ?_   -- 52
  first | refine lwg_no rfl (ng1 rfl rfl) rfl ?_ | refine lwg_no rfl (ng2 rfl rfl) rfl ?_   -- 53
  first | refine lwg_no rfl (ng1 rfl rfl) rfl ?_ | refine lwg_no rfl (ng2 rfl rfl) rfl ?_   -- 54
  first | refine lwg_no rfl (ng1 rfl rfl) rfl ?_ | refine lwg_no rfl (ng2 rfl rfl) rfl ?_   -- 55
  first | refine lwg_no rfl (ng1 rfl rfl) rfl ?_ | refine lwg_no rfl (ng2 rfl rfl) rfl ?_   -- 56
  first | refine lwg_no rfl (ng1 rfl rfl) rfl ?_ | refine lwg_no rfl (ng2 rfl rfl) rfl ?_   -- 57
  refine lw_pure rfl (val_pick_true rfl rfl) rfl ?_   -- 58
  refine lw_nil (into ?_)
  refine sw_true rfl rfl ?_
  refine sw_seq ?_
  refine sw_region ?_
  refine ow_val (val_assign rfl) rfl ?_   -- 6
  refine ow_nil (into ?_)
  refine sw_ret (fun w hm => ?_)
  try dsimp only [thenP, blockP, Nat.beq, cond]
  exact ret_one _ rfl rfl ⟨rfl, hm.forgetAll⟩

theorem splits_b (k : Nat) (h1 : 1 ≤ k) (h2 : k ≤ 32) (w : World) (hK : KW w) (a : Option Addr) (c : Nat) (l : List (List UInt8)) (hdl : ∀ d ∈ l, d.length = 32) (hr : Rd w a (l.flatMap fun d => d.map vU8)) (hc : l.length ≤ c) (hl : l.length < 9223372036854775808) (hfl : ∀ d ∈ l, fm (k : Int) d = true) (ax : Option Addr) (cx : Nat) (xs : List Int) (hx : Rd w ax (xs.map vInt)) (hxc : xs.length ≤ cx) (hxl : xs.length < 9223372036854775808) (h4 : l.length ≤ 400) (h5 : ¬ xs.length < 2) (h6 : xs.getD 0 default < 0) : Calls Tryd.prog 7 #[vInt (k : Int), .slice a l.length c, .slice ax xs.length cx] w fun e w' => ∃ v, e = .returned v ∧ v = .bool true ∧ Mem w [] [] w' := by
  obtain ⟨bx, ox, rfl⟩ := hx.addr (by rw [List.length_map]; omega)
  refine calls_of_sw (vs := [vInt (k : Int), .slice a l.length c, .slice (some ⟨bx, ox, none⟩) xs.length cx]) Tryd.func7 rfl Tryd.ntmps7 rfl (SW.begin ?_)
  refine sw_seq ?_
  refine sw_region ?_
  refine ow_val (val_assign rfl) rfl ?_   -- 6
  refine ow_nil (into ?_)
  refine sw_seq ?_
  refine sw_seq ?_
  refine sw_region ?_
  refine ow_call_pure (v := .bool true) (callsTo Tryd.func12 rfl (by kernel_rfl) rfl) rfl (fun w hm => awake_any w (hK.mem0 hm)) ?_   -- 21
  refine ow_val (val_not rfl) rfl ?_   -- 22
  refine ow_nil (into ?_)
  refine sw_false rfl rfl ?_
  refine sw_skip (into ?_)
  refine sw_seq ?_
  refine sw_region ?_
  refine ow_val (val_move rfl) rfl ?_   -- 24
  refine ow_val (val_move rfl) rfl ?_   -- 25
  refine ow_call_tail (σ := Nat × List Ent) (fun q9 => .tuple #[vPtr q9.1, .bool true]) (fun q9 => q9.2) (fun q9 => TrOn 95 75 k q9.2 q9.1 l) (callsTo Tryd.func18 rfl (by kernel_rfl) rfl) rfl (fun w hm => grown_any k h1 h2 5 (by omega) (by omega) w (hK.mem0 hm) a l.length c l rfl hdl (hr.mem hm) (by omega) (by omega) (by omega) (by assumption)) ?_   -- 26
  rintro ⟨b26, es26⟩ htr26
  simp only at htr26 ⊢
  refine ow_val (val_move rfl) rfl ?_   -- 23
  refine ow_val (val_extract rfl rfl) rfl ?_   -- 27
  refine ow_val (val_extract rfl rfl) rfl ?_   -- 28
  refine ow_val (val_assign rfl) rfl ?_   -- 7
  refine ow_val (val_assign rfl) rfl ?_   -- 8
  refine ow_nil (into ?_)
  refine sw_seq ?_
  refine sw_seq ?_
  refine sw_region_lex _ [] [(0, 0), (1, 0), (2, 0), (3, 0), (4, 0), (5, 0), (6, 0), (7, 0), (8, 0), (9, 0), (10, 1), (11, 0), (12, 0), (13, 0), (14, 0), (15, 0), (16, 0), (17, 0), (18, 0), (19, 0), (20, 0), (21, 0), (22, 0), (23, 0), (24, 0), (25, 0), (26, 0), (27, 0), (28, 0), (29, 0)] (by kernel_rfl) (by kernel_rfl) (fun _ _ _ h => h) (fun _ h => h) (fun _ h => h.drawn _) ?_
  refine lw_pure rfl (val_move rfl) rfl ?_   -- 29
  refine lw_pure rfl (val_not rfl) rfl ?_   -- 30
  refine lw_pure rfl (val_move rfl) rfl ?_   -- 31
  refine lwg_pure rfl (wg rfl rfl) (val_move rfl) rfl ?_   -- 32
  refine lwg_pure rfl (wg rfl rfl) (val_len rfl Tryd.underlying59) rfl ?_   -- 33
  refine lwg_pure rfl (wg rfl rfl) ((val_lss_int rfl rfl).to (congrArg Value.bool (decide_eq_false (by omega)))) rfl ?_   -- 34
  refine lw_pure rfl (val_pick_false rfl rfl) rfl ?_   -- 35
  refine lw_pure rfl (val_move rfl) rfl ?_   -- 36
  refine lwg_pure rfl (wg rfl rfl) (val_move rfl) rfl ?_   -- 37
  refine lwg_pure rfl (wg rfl rfl) (val_indexAddr_slice (0) (ox) rfl rfl Tryd.underlying59 Tryd.sizeOf3 (by omega) (by omega) (by omega)) rfl ?_   -- 38
  refine lwg_held rfl (wg rfl rfl) (val_load rfl Tryd.isAgg3 (fun w' hm => Rd.get (p := xs) (k := 0) (hx.mem hm) (by omega) (by omega))) rfl ?_   -- 39
  refine lwg_pure rfl (wg rfl rfl) ((val_lss_int rfl rfl).to (congrArg Value.bool (decide_eq_true (by omega)))) rfl ?_   -- 40
  refine lw_pure rfl (val_pick_false rfl rfl) rfl ?_   -- 41
  refine lw_pure rfl (val_move rfl) rfl ?_   -- 42
  first | refine lwg_no rfl (ng1 rfl rfl) rfl ?_ | refine lwg_no rfl (ng2 rfl rfl) rfl ?_   -- 43
  first | refine lwg_no rfl (ng1 rfl rfl) rfl ?_ | refine lwg_no rfl (ng2 rfl rfl) rfl ?_   -- 44
  first | refine lwg_no rfl (ng1 rfl rfl) rfl ?_ | refine lwg_no rfl (ng2 rfl rfl) rfl ?_   -- 45
  first | refine lwg_no rfl (ng1 rfl rfl) rfl ?_ | refine lwg_no rfl (ng2 rfl rfl) rfl ?_   -- 46
  first | refine lwg_no rfl (ng1 rfl rfl) rfl ?_ | refine lwg_no rfl (ng2 rfl rfl) rfl ?_   -- 47
  first | refine lwg_no rfl (ng1 rfl rfl) rfl ?_ | refine lwg_no rfl (ng2 rfl rfl) rfl ?_   -- 48
  first | refine lwg_no rfl (ng1 rfl rfl) rfl ?_ | refine lwg_no rfl (ng2 rfl rfl) rfl ?_   -- 49
  refine lw_pure rfl (val_pick_true rfl rfl) rfl ?_   -- 50
  refine lw_pure rfl (val_move rfl) rfl ?_   -- 51
  first | refine lwg_no rfl (ng1 rfl rfl) rfl ?_ | refine lwg_no rfl (ng2 rfl rfl) rfl ?_   -- 52
  first | refine lwg_no rfl (ng1 rfl rfl) rfl ?_ | refine lwg_no rfl (ng2 rfl rfl) rfl ?_   -- 53
  first | refine lwg_no rfl (ng1 rfl rfl) rfl ?_ | refine lwg_no rfl (ng2 rfl rfl) rfl ?_   -- 54
  first | refine lwg_no rfl (ng1 rfl rfl) rfl ?_ | refine lwg_no rfl (ng2 rfl rfl) rfl ?_   -- 55
  first | refine lwg_no rfl (ng1 rfl rfl) rfl ?_ | refine lwg_no rfl (ng2 rfl rfl) rfl ?_   -- 56
  first | refine lwg_no rfl (ng1 rfl rfl) rfl ?_ | refine lwg_no rfl (ng2 rfl rfl) rfl ?_   -- 57
  refine lw_pure rfl (val_pick_true rfl rfl) rfl ?_   -- 58
  refine lw_nil (into ?_)
  refine sw_true rfl rfl ?_
  refine sw_seq ?_
  refine sw_region ?_
  refine ow_val (val_assign rfl) rfl ?_   -- 6
  refine ow_nil (into ?_)
  refine sw_ret (fun w hm => ?_)
  try dsimp only [thenP, blockP, Nat.beq, cond]
  exact ret_one _ rfl rfl ⟨rfl, hm.forgetAll⟩

theorem splits_c (k : Nat) (h1 : 1 ≤ k) (h2 : k ≤ 32) (w : World) (hK : KW w) (a : Option Addr) (c : Nat) (l : List (List UInt8)) (hdl : ∀ d ∈ l, d.length = 32) (hr : Rd w a (l.flatMap fun d => d.map vU8)) (hc : l.length ≤ c) (hl : l.length < 9223372036854775808) (hfl : ∀ d ∈ l, fm (k : Int) d = true) (ax : Option Addr) (cx : Nat) (xs : List Int) (hx : Rd w ax (xs.map vInt)) (hxc : xs.length ≤ cx) (hxl : xs.length < 9223372036854775808) (h4 : l.length ≤ 400) (h5 : ¬ xs.length < 2) (h6 : ¬ xs.getD 0 default < 0) (h7 : xs.getD 1 default < xs.getD 0 default) : Calls Tryd.prog 7 #[vInt (k : Int), .slice a l.length c, .slice ax xs.length cx] w fun e w' => ∃ v, e = .returned v ∧ v = .bool true ∧ Mem w [] [] w' := by
  obtain ⟨bx, ox, rfl⟩ := hx.addr (by rw [List.length_map]; omega)
  refine calls_of_sw (vs := [vInt (k : Int), .slice a l.length c, .slice (some ⟨bx, ox, none⟩) xs.length cx]) Tryd.func7 rfl Tryd.ntmps7 rfl (SW.begin ?_)
  refine sw_seq ?_
  refine sw_region ?_
  refine ow_val (val_assign rfl) rfl ?_   -- 6
  refine ow_nil (into ?_)
  refine sw_seq ?_
  refine sw_seq ?_
  refine sw_region ?_
  refine ow_call_pure (v := .bool true) (callsTo Tryd.func12 rfl (by kernel_rfl) rfl) rfl (fun w hm => awake_any w (hK.mem0 hm)) ?_   -- 21
  refine ow_val (val_not rfl) rfl ?_   -- 22
  refine ow_nil (into ?_)
  refine sw_false rfl rfl ?_
  refine sw_skip (into ?_)
  refine sw_seq ?_
  refine sw_region ?_
  refine ow_val (val_move rfl) rfl ?_   -- 24
  refine ow_val (val_move rfl) rfl ?_   -- 25
  refine ow_call_tail (σ := Nat × List Ent) (fun q9 => .tuple #[vPtr q9.1, .bool true]) (fun q9 => q9.2) (fun q9 => TrOn 95 75 k q9.2 q9.1 l) (callsTo Tryd.func18 rfl (by kernel_rfl) rfl) rfl (fun w hm => grown_any k h1 h2 5 (by omega) (by omega) w (hK.mem0 hm) a l.length c l rfl hdl (hr.mem hm) (by omega) (by omega) (by omega) (by assumption)) ?_   -- 26
  rintro ⟨b26, es26⟩ htr26
  simp only at htr26 ⊢
  refine ow_val (val_move rfl) rfl ?_   -- 23
  refine ow_val (val_extract rfl rfl) rfl ?_   -- 27
  refine ow_val (val_extract rfl rfl) rfl ?_   -- 28
  refine ow_val (val_assign rfl) rfl ?_   -- 7
  refine ow_val (val_assign rfl) rfl ?_   -- 8
  refine ow_nil (into ?_)
  refine sw_seq ?_
  refine sw_seq ?_
  refine sw_region_lex _ [] [(0, 0), (1, 0), (2, 0), (3, 0), (4, 0), (5, 0), (6, 0), (7, 0), (8, 0), (9, 0), (10, 1), (11, 0), (12, 0), (13, 0), (14, 0), (15, 0), (17, 0), (18, 0), (16, 1), (19, 1), (20, 0), (21, 0), (22, 0), (23, 0), (24, 0), (25, 0), (26, 0), (27, 0), (28, 0), (29, 0)] (by kernel_rfl) (by kernel_rfl) (fun _ _ _ h => h) (fun _ h => h) (fun _ h => h.drawn _) ?_
  refine lw_pure rfl (val_move rfl) rfl ?_   -- 29
  refine lw_pure rfl (val_not rfl) rfl ?_   -- 30
  refine lw_pure rfl (val_move rfl) rfl ?_   -- 31
  refine lwg_pure rfl (wg rfl rfl) (val_move rfl) rfl ?_   -- 32
  refine lwg_pure rfl (wg rfl rfl) (val_len rfl Tryd.underlying59) rfl ?_   -- 33
  refine lwg_pure rfl (wg rfl rfl) ((val_lss_int rfl rfl).to (congrArg Value.bool (decide_eq_false (by omega)))) rfl ?_   -- 34
  refine lw_pure rfl (val_pick_false rfl rfl) rfl ?_   -- 35
  refine lw_pure rfl (val_move rfl) rfl ?_   -- 36
  refine lwg_pure rfl (wg rfl rfl) (val_move rfl) rfl ?_   -- 37
  refine lwg_pure rfl (wg rfl rfl) (val_indexAddr_slice (0) (ox) rfl rfl Tryd.underlying59 Tryd.sizeOf3 (by omega) (by omega) (by omega)) rfl ?_   -- 38
  refine lwg_held rfl (wg rfl rfl) (val_load rfl Tryd.isAgg3 (fun w' hm => Rd.get (p := xs) (k := 0) (hx.mem hm) (by omega) (by omega))) rfl ?_   -- 39
  refine lwg_pure rfl (wg rfl rfl) ((val_lss_int rfl rfl).to (congrArg Value.bool (decide_eq_false (by omega)))) rfl ?_   -- 40
  refine lw_pure rfl (val_pick_false rfl rfl) rfl ?_   -- 41
  refine lw_pure rfl (val_move rfl) rfl ?_   -- 42
  refine lwg_pure rfl (wg rfl rfl) (val_move rfl) rfl ?_   -- 43
  refine lwg_pure rfl (wg rfl rfl) (val_indexAddr_slice (0) (ox) rfl rfl Tryd.underlying59 Tryd.sizeOf3 (by omega) (by omega) (by omega)) rfl ?_   -- 44
  refine lwg_pure rfl (wg rfl rfl) (val_move rfl) rfl ?_   -- 46
  refine lwg_pure rfl (wg rfl rfl) (val_indexAddr_slice (1) (ox + 1) rfl rfl Tryd.underlying59 Tryd.sizeOf3 (by omega) (by omega) (by omega)) rfl ?_   -- 47
  refine lwg_held rfl (wg rfl rfl) (val_load rfl Tryd.isAgg3 (fun w' hm => Rd.get (p := xs) (k := 0) (hx.mem hm) (by omega) (by omega))) rfl ?_   -- 45
  refine lwg_held rfl (wg rfl rfl) (val_load rfl Tryd.isAgg3 (fun w' hm => Rd.get (p := xs) (k := 1) (hx.mem hm) (by omega) (by omega))) rfl ?_   -- 48
  refine lwg_pure rfl (wg rfl rfl) ((val_gtr_int rfl rfl).to (congrArg Value.bool (decide_eq_true (by omega)))) rfl ?_   -- 49
  refine lw_pure rfl (val_pick_false rfl rfl) rfl ?_   -- 50
  refine lw_pure rfl (val_move rfl) rfl ?_   -- 51
  first | refine lwg_no rfl (ng1 rfl rfl) rfl ?_ | refine lwg_no rfl (ng2 rfl rfl) rfl ?_   -- 52
  first | refine lwg_no rfl (ng1 rfl rfl) rfl ?_ | refine lwg_no rfl (ng2 rfl rfl) rfl ?_   -- 53
  first | refine lwg_no rfl (ng1 rfl rfl) rfl ?_ | refine lwg_no rfl (ng2 rfl rfl) rfl ?_   -- 54
  first | refine lwg_no rfl (ng1 rfl rfl) rfl ?_ | refine lwg_no rfl (ng2 rfl rfl) rfl ?_   -- 55
  first | refine lwg_no rfl (ng1 rfl rfl) rfl ?_ | refine lwg_no rfl (ng2 rfl rfl) rfl ?_   -- 56
  first | refine lwg_no rfl (ng1 rfl rfl) rfl ?_ | refine lwg_no rfl (ng2 rfl rfl) rfl ?_   -- 57
  refine lw_pure rfl (val_pick_true rfl rfl) rfl ?_   -- 58
  refine lw_nil (into ?_)
  refine sw_true rfl rfl ?_
  refine sw_seq ?_
  refine sw_region ?_
  refine ow_val (val_assign rfl) rfl ?_   -- 6
  refine ow_nil (into ?_)
  refine sw_ret (fun w hm => ?_)
  try dsimp only [thenP, blockP, Nat.beq, cond]
  exact ret_one _ rfl rfl ⟨rfl, hm.forgetAll⟩

theorem splits_d (k : Nat) (h1 : 1 ≤ k) (h2 : k ≤ 32) (w : World) (hK : KW w) (a : Option Addr) (c : Nat) (l : List (List UInt8)) (hdl : ∀ d ∈ l, d.length = 32) (hr : Rd w a (l.flatMap fun d => d.map vU8)) (hc : l.length ≤ c) (hl : l.length < 9223372036854775808) (hfl : ∀ d ∈ l, fm (k : Int) d = true) (ax : Option Addr) (cx : Nat) (xs : List Int) (hx : Rd w ax (xs.map vInt)) (hxc : xs.length ≤ cx) (hxl : xs.length < 9223372036854775808) (h4 : l.length ≤ 400) (h5 : ¬ xs.length < 2) (h6 : ¬ xs.getD 0 default < 0) (h7 : ¬ xs.getD 1 default < xs.getD 0 default) (h8 : (l.length : Int) < xs.getD 1 default) : Calls Tryd.prog 7 #[vInt (k : Int), .slice a l.length c, .slice ax xs.length cx] w fun e w' => ∃ v, e = .returned v ∧ v = .bool true ∧ Mem w [] [] w' := by
  obtain ⟨bx, ox, rfl⟩ := hx.addr (by rw [List.length_map]; omega)
  refine calls_of_sw (vs := [vInt (k : Int), .slice a l.length c, .slice (some ⟨bx, ox, none⟩) xs.length cx]) Tryd.func7 rfl Tryd.ntmps7 rfl (SW.begin ?_)
  refine sw_seq ?_
  refine sw_region ?_
  refine ow_val (val_assign rfl) rfl ?_   -- 6
  refine ow_nil (into ?_)
  refine sw_seq ?_
  refine sw_seq ?_
  refine sw_region ?_
  refine ow_call_pure (v := .bool true) (callsTo Tryd.func12 rfl (by kernel_rfl) rfl) rfl (fun w hm => awake_any w (hK.mem0 hm)) ?_   -- 21
  refine ow_val (val_not rfl) rfl ?_   -- 22
  refine ow_nil (into ?_)
  refine sw_false rfl rfl ?_
  refine sw_skip (into ?_)
  refine sw_seq ?_
  refine sw_region ?_
  refine ow_val (val_move rfl) rfl ?_   -- 24
  refine ow_val (val_move rfl) rfl ?_   -- 25
  refine ow_call_tail (σ := Nat × List Ent) (fun q9 => .tuple #[vPtr q9.1, .bool true]) (fun q9 => q9.2) (fun q9 => TrOn 95 75 k q9.2 q9.1 l) (callsTo Tryd.func18 rfl (by kernel_rfl) rfl) rfl (fun w hm => grown_any k h1 h2 5 (by omega) (by omega) w (hK.mem0 hm) a l.length c l rfl hdl (hr.mem hm) (by omega) (by omega) (by omega) (by assumption)) ?_   -- 26
  rintro ⟨b26, es26⟩ htr26
  simp only at htr26 ⊢
  refine ow_val (val_move rfl) rfl ?_   -- 23
  refine ow_val (val_extract rfl rfl) rfl ?_   -- 27
  refine ow_val (val_extract rfl rfl) rfl ?_   -- 28
  refine ow_val (val_assign rfl) rfl ?_   -- 7
  refine ow_val (val_assign rfl) rfl ?_   -- 8
  refine ow_nil (into ?_)
  refine sw_seq ?_
  refine sw_seq ?_
  refine sw_region_lex _ [] [(0, 0), (1, 0), (2, 0), (3, 0), (4, 0), (5, 0), (6, 0), (7, 0), (8, 0), (9, 0), (10, 1), (11, 0), (12, 0), (13, 0), (14, 0), (15, 0), (17, 0), (18, 0), (16, 1), (19, 1), (20, 0), (21, 0), (22, 0), (23, 0), (24, 0), (26, 0), (27, 0), (25, 1), (28, 0), (29, 0)] (by kernel_rfl) (by kernel_rfl) (fun _ _ _ h => h) (fun _ h => h) (fun _ h => h.drawn _) ?_
  refine lw_pure rfl (val_move rfl) rfl ?_   -- 29
  refine lw_pure rfl (val_not rfl) rfl ?_   -- 30
  refine lw_pure rfl (val_move rfl) rfl ?_   -- 31
  refine lwg_pure rfl (wg rfl rfl) (val_move rfl) rfl ?_   -- 32
  refine lwg_pure rfl (wg rfl rfl) (val_len rfl Tryd.underlying59) rfl ?_   -- 33
  refine lwg_pure rfl (wg rfl rfl) ((val_lss_int rfl rfl).to (congrArg Value.bool (decide_eq_false (by omega)))) rfl ?_   -- 34
  refine lw_pure rfl (val_pick_false rfl rfl) rfl ?_   -- 35
  refine lw_pure rfl (val_move rfl) rfl ?_   -- 36
  refine lwg_pure rfl (wg rfl rfl) (val_move rfl) rfl ?_   -- 37
  refine lwg_pure rfl (wg rfl rfl) (val_indexAddr_slice (0) (ox) rfl rfl Tryd.underlying59 Tryd.sizeOf3 (by omega) (by omega) (by omega)) rfl ?_   -- 38
  refine lwg_held rfl (wg rfl rfl) (val_load rfl Tryd.isAgg3 (fun w' hm => Rd.get (p := xs) (k := 0) (hx.mem hm) (by omega) (by omega))) rfl ?_   -- 39
  refine lwg_pure rfl (wg rfl rfl) ((val_lss_int rfl rfl).to (congrArg Value.bool (decide_eq_false (by omega)))) rfl ?_   -- 40
  refine lw_pure rfl (val_pick_false rfl rfl) rfl ?_   -- 41
  refine lw_pure rfl (val_move rfl) rfl ?_   -- 42
  refine lwg_pure rfl (wg rfl rfl) (val_move rfl) rfl ?_   -- 43
  refine lwg_pure rfl (wg rfl rfl) (val_indexAddr_slice (0) (ox) rfl rfl Tryd.underlying59 Tryd.sizeOf3 (by omega) (by omega) (by omega)) rfl ?_   -- 44
  refine lwg_pure rfl (wg rfl rfl) (val_move rfl) rfl ?_   -- 46
  refine lwg_pure rfl (wg rfl rfl) (val_indexAddr_slice (1) (ox + 1) rfl rfl Tryd.underlying59 Tryd.sizeOf3 (by omega) (by omega) (by omega)) rfl ?_   -- 47
  refine lwg_held rfl (wg rfl rfl) (val_load rfl Tryd.isAgg3 (fun w' hm => Rd.get (p := xs) (k := 0) (hx.mem hm) (by omega) (by omega))) rfl ?_   -- 45
  refine lwg_held rfl (wg rfl rfl) (val_load rfl Tryd.isAgg3 (fun w' hm => Rd.get (p := xs) (k := 1) (hx.mem hm) (by omega) (by omega))) rfl ?_   -- 48
  refine lwg_pure rfl (wg rfl rfl) ((val_gtr_int rfl rfl).to (congrArg Value.bool (decide_eq_false (by omega)))) rfl ?_   -- 49
  refine lw_pure rfl (val_pick_false rfl rfl) rfl ?_   -- 50
  refine lw_pure rfl (val_move rfl) rfl ?_   -- 51
  refine lwg_pure rfl (wg rfl rfl) (val_move rfl) rfl ?_   -- 52
  refine lwg_pure rfl (wg rfl rfl) (val_indexAddr_slice (1) (ox + 1) rfl rfl Tryd.underlying59 Tryd.sizeOf3 (by omega) (by omega) (by omega)) rfl ?_   -- 53
  refine lwg_pure rfl (wg rfl rfl) (val_move rfl) rfl ?_   -- 55
  refine lwg_pure rfl (wg rfl rfl) (val_len rfl Tryd.underlying32) rfl ?_   -- 56
  refine lwg_held rfl (wg rfl rfl) (val_load rfl Tryd.isAgg3 (fun w' hm => Rd.get (p := xs) (k := 1) (hx.mem hm) (by omega) (by omega))) rfl ?_   -- 54
  refine lwg_pure rfl (wg rfl rfl) ((val_gtr_int rfl rfl).to (congrArg Value.bool (decide_eq_true (by omega)))) rfl ?_   -- 57
  refine lw_pure rfl (val_pick_false rfl rfl) rfl ?_   -- 58
  refine lw_nil (into ?_)
  refine sw_true rfl rfl ?_
  refine sw_seq ?_
  refine sw_region ?_
  refine ow_val (val_assign rfl) rfl ?_   -- 6
  refine ow_nil (into ?_)
  refine sw_ret (fun w hm => ?_)
  try dsimp only [thenP, blockP, Nat.beq, cond]
  exact ret_one _ rfl rfl ⟨rfl, hm.forgetAll⟩

theorem splits_main (k : Nat) (h1 : 1 ≤ k) (h2 : k ≤ 32) (w : World) (hK : KW w) (a : Option Addr) (c : Nat) (l : List (List UInt8)) (hdl : ∀ d ∈ l, d.length = 32) (hr : Rd w a (l.flatMap fun d => d.map vU8)) (hc : l.length ≤ c) (hl : l.length < 9223372036854775808) (hfl : ∀ d ∈ l, fm (k : Int) d = true) (ax : Option Addr) (cx : Nat) (xs : List Int) (hx : Rd w ax (xs.map vInt)) (hxc : xs.length ≤ cx) (hxl : xs.length < 9223372036854775808) (h4 : l.length ≤ 400) (lo hi : Nat) (hxl2 : ¬ xs.length < 2) (hx0 : xs.getD 0 default = (lo : Int)) (hx1 : xs.getD 1 default = (hi : Int)) (hle : lo ≤ hi) (hhi : hi ≤ l.length) : Calls Tryd.prog 7 #[vInt (k : Int), .slice a l.length c, .slice ax xs.length cx] w fun e w' => ∃ v, e = .returned v ∧ v = .bool true ∧ Mem w [] [] w' := by
  obtain ⟨bx, ox, rfl⟩ := hx.addr (by rw [List.length_map]; omega)
  have hsub : UInt64.ofNat hi - UInt64.ofNat lo = UInt64.ofNat (hi - lo) := at_sub0 hle (by omega)
  refine calls_of_sw (vs := [vInt (k : Int), .slice a l.length c, .slice (some ⟨bx, ox, none⟩) xs.length cx]) Tryd.func7 rfl Tryd.ntmps7 rfl (SW.begin ?_)
  refine sw_seq ?_
  refine sw_region ?_
  refine ow_val (val_assign rfl) rfl ?_   -- 6
  refine ow_nil (into ?_)
  refine sw_seq ?_
  refine sw_seq ?_
  refine sw_region ?_
  refine ow_call_pure (v := .bool true) (callsTo Tryd.func12 rfl (by kernel_rfl) rfl) rfl (fun w hm => awake_any w (hK.mem0 hm)) ?_   -- 21
  refine ow_val (val_not rfl) rfl ?_   -- 22
  refine ow_nil (into ?_)
  refine sw_false rfl rfl ?_
  refine sw_skip (into ?_)
  refine sw_seq ?_
  refine sw_region ?_
  refine ow_val (val_move rfl) rfl ?_   -- 24
  refine ow_val (val_move rfl) rfl ?_   -- 25
  refine ow_call_tail (σ := Nat × List Ent) (fun q9 => .tuple #[vPtr q9.1, .bool true]) (fun q9 => q9.2) (fun q9 => TrOn 95 75 k q9.2 q9.1 l) (callsTo Tryd.func18 rfl (by kernel_rfl) rfl) rfl (fun w hm => grown_any k h1 h2 5 (by omega) (by omega) w (hK.mem0 hm) a l.length c l rfl hdl (hr.mem hm) (by omega) (by omega) (by omega) (by assumption)) ?_   -- 26
  rintro ⟨b26, es26⟩ htr26
  simp only at htr26 ⊢
  refine ow_val (val_move rfl) rfl ?_   -- 23
  refine ow_val (val_extract rfl rfl) rfl ?_   -- 27
  refine ow_val (val_extract rfl rfl) rfl ?_   -- 28
  refine ow_val (val_assign rfl) rfl ?_   -- 7
  refine ow_val (val_assign rfl) rfl ?_   -- 8
  refine ow_nil (into ?_)
  refine sw_seq ?_
  refine sw_seq ?_
  refine sw_region_lex _ [] [(0, 0), (1, 0), (2, 0), (3, 0), (4, 0), (5, 0), (6, 0), (7, 0), (8, 0), (9, 0), (10, 1), (11, 0), (12, 0), (13, 0), (14, 0), (15, 0), (17, 0), (18, 0), (16, 1), (19, 1), (20, 0), (21, 0), (22, 0), (23, 0), (24, 0), (26, 0), (27, 0), (25, 1), (28, 0), (29, 0)] (by kernel_rfl) (by kernel_rfl) (fun _ _ _ h => h) (fun _ h => h) (fun _ h => h.drawn _) ?_
  refine lw_pure rfl (val_move rfl) rfl ?_   -- 29
  refine lw_pure rfl (val_not rfl) rfl ?_   -- 30
  refine lw_pure rfl (val_move rfl) rfl ?_   -- 31
  refine lwg_pure rfl (wg rfl rfl) (val_move rfl) rfl ?_   -- 32
  refine lwg_pure rfl (wg rfl rfl) (val_len rfl Tryd.underlying59) rfl ?_   -- 33
  refine lwg_pure rfl (wg rfl rfl) ((val_lss_int rfl rfl).to (congrArg Value.bool (decide_eq_false (by omega)))) rfl ?_   -- 34
  refine lw_pure rfl (val_pick_false rfl rfl) rfl ?_   -- 35
  refine lw_pure rfl (val_move rfl) rfl ?_   -- 36
  refine lwg_pure rfl (wg rfl rfl) (val_move rfl) rfl ?_   -- 37
  refine lwg_pure rfl (wg rfl rfl) (val_indexAddr_slice (0) (ox) rfl rfl Tryd.underlying59 Tryd.sizeOf3 (by omega) (by omega) (by omega)) rfl ?_   -- 38
  refine lwg_held rfl (wg rfl rfl) ((val_load rfl Tryd.isAgg3 (fun w' hm => Rd.get (p := xs) (k := 0) (hx.mem hm) (by omega) (by omega))).to (v' := vInt (lo : Int)) (by rw [hx0])) rfl ?_   -- 39
  refine lwg_pure rfl (wg rfl rfl) ((val_lss_int rfl rfl).to (congrArg Value.bool (decide_eq_false (by omega)))) rfl ?_   -- 40
  refine lw_pure rfl (val_pick_false rfl rfl) rfl ?_   -- 41
  refine lw_pure rfl (val_move rfl) rfl ?_   -- 42
  refine lwg_pure rfl (wg rfl rfl) (val_move rfl) rfl ?_   -- 43
  refine lwg_pure rfl (wg rfl rfl) (val_indexAddr_slice (0) (ox) rfl rfl Tryd.underlying59 Tryd.sizeOf3 (by omega) (by omega) (by omega)) rfl ?_   -- 44
  refine lwg_pure rfl (wg rfl rfl) (val_move rfl) rfl ?_   -- 46
  refine lwg_pure rfl (wg rfl rfl) (val_indexAddr_slice (1) (ox + 1) rfl rfl Tryd.underlying59 Tryd.sizeOf3 (by omega) (by omega) (by omega)) rfl ?_   -- 47
  refine lwg_held rfl (wg rfl rfl) ((val_load rfl Tryd.isAgg3 (fun w' hm => Rd.get (p := xs) (k := 0) (hx.mem hm) (by omega) (by omega))).to (v' := vInt (lo : Int)) (by rw [hx0])) rfl ?_   -- 45
  refine lwg_held rfl (wg rfl rfl) ((val_load rfl Tryd.isAgg3 (fun w' hm => Rd.get (p := xs) (k := 1) (hx.mem hm) (by omega) (by omega))).to (v' := vInt (hi : Int)) (by rw [hx1])) rfl ?_   -- 48
  refine lwg_pure rfl (wg rfl rfl) ((val_gtr_int rfl rfl).to (congrArg Value.bool (decide_eq_false (by omega)))) rfl ?_   -- 49
  refine lw_pure rfl (val_pick_false rfl rfl) rfl ?_   -- 50
  refine lw_pure rfl (val_move rfl) rfl ?_   -- 51
  refine lwg_pure rfl (wg rfl rfl) (val_move rfl) rfl ?_   -- 52
  refine lwg_pure rfl (wg rfl rfl) (val_indexAddr_slice (1) (ox + 1) rfl rfl Tryd.underlying59 Tryd.sizeOf3 (by omega) (by omega) (by omega)) rfl ?_   -- 53
  refine lwg_pure rfl (wg rfl rfl) (val_move rfl) rfl ?_   -- 55
  refine lwg_pure rfl (wg rfl rfl) (val_len rfl Tryd.underlying32) rfl ?_   -- 56
  refine lwg_held rfl (wg rfl rfl) ((val_load rfl Tryd.isAgg3 (fun w' hm => Rd.get (p := xs) (k := 1) (hx.mem hm) (by omega) (by omega))).to (v' := vInt (hi : Int)) (by rw [hx1])) rfl ?_   -- 54
  refine lwg_pure rfl (wg rfl rfl) ((val_gtr_int rfl rfl).to (congrArg Value.bool (decide_eq_false (by omega)))) rfl ?_   -- 57
  refine lw_pure rfl (val_pick_false rfl rfl) rfl ?_   -- 58
  refine lw_nil (into ?_)
  refine sw_false rfl rfl ?_
  refine sw_skip (into ?_)
  refine sw_seq ?_
  refine sw_region_lex _ [] [(0, 0), (1, 0), (4, 0), (5, 0), (2, 1), (3, 0), (8, 0), (6, 1), (7, 0), (9, 0)] (by kernel_rfl) (by kernel_rfl) (fun _ _ _ h => h) (fun _ h => h) (fun _ h => h.drawn _) ?_
  refine lw_pure rfl (val_move rfl) rfl ?_   -- 59
  refine lw_pure rfl (val_indexAddr_slice (0) (ox) rfl rfl Tryd.underlying59 Tryd.sizeOf3 (by omega) (by omega) (by omega)) rfl ?_   -- 60
  refine lw_pure rfl (val_move rfl) rfl ?_   -- 63
  refine lw_pure rfl (val_indexAddr_slice (1) (ox + 1) rfl rfl Tryd.underlying59 Tryd.sizeOf3 (by omega) (by omega) (by omega)) rfl ?_   -- 64
  refine lw_held rfl ((val_load rfl Tryd.isAgg3 (fun w' hm => Rd.get (p := xs) (k := 0) (hx.mem hm) (by omega) (by omega))).to (v' := vInt (lo : Int)) (by rw [hx0])) rfl ?_   -- 61
  refine lw_pure rfl (val_conv_n_u64 lo Tryd.underlying3 Tryd.underlying46 rfl rfl) rfl ?_   -- 62
  refine lw_pure rfl (val_assign rfl) rfl ?_   -- 9
  refine lw_held rfl ((val_load rfl Tryd.isAgg3 (fun w' hm => Rd.get (p := xs) (k := 1) (hx.mem hm) (by omega) (by omega))).to (v' := vInt (hi : Int)) (by rw [hx1])) rfl ?_   -- 65
  refine lw_pure rfl (val_conv_n_u64 hi Tryd.underlying3 Tryd.underlying46 rfl rfl) rfl ?_   -- 66
  refine lw_pure rfl (val_assign rfl) rfl ?_   -- 10
  refine lw_nil (into ?_)
  refine sw_seq ?_
  refine sw_region ?_
  refine ow_val (val_move rfl) rfl ?_   -- 68
  refine ow_val (val_move rfl) rfl ?_   -- 69
  refine ow_val (val_move rfl) rfl ?_   -- 70
  refine ow_call_pure (v := .tuple #[.agg ((lg k (seg l lo hi)).map vU8).toArray, vInt ((0 : Nat) : Int)]) (callsTo Tryd.func19 rfl (by kernel_rfl) rfl) rfl (fun w hm => (by have h := range_any k h1 h2 b26 l (by assumption) (by assumption) (UInt64.ofNat lo) (UInt64.ofNat hi) w (hK.mem0 hm) (htr26.is (hm.heldSub (List.Sublist.refl _))) (by omega); rw [rngO_nat k (by omega) (by omega) (by omega)] at h; exact h)) ?_   -- 71
  refine ow_val (val_move rfl) rfl ?_   -- 67
  refine ow_val (val_extract rfl rfl) rfl ?_   -- 72
  refine ow_val (val_extract rfl rfl) rfl ?_   -- 73
  refine ow_new (acts_alloc zD) rfl (fun b11 hb11 => ?_)   -- 11
  refine ow_do_eq (does_store_all 0 rfl rfl rfl (one_u8s _) Tryd.sizeOf43 (by show (List.map vU8 (lg k (seg l lo hi))).length = _; rw [List.length_map]; exact (lg_len h2 _ rfl (seg_all (by assumption)))) (by show (List.map vU8 zeros32).length = _; rw [List.length_map]; exact zeros32_len)) ?_
  refine ow_val (val_assign rfl) rfl ?_   -- 12
  refine ow_nil (into ?_)
  refine sw_seq ?_
  refine sw_seq ?_
  refine sw_region ?_
  refine ow_val (val_move rfl) rfl ?_   -- 74
  refine ow_val ((val_neq_int rfl rfl).to (v' := .bool false) (congrArg Value.bool (decide_eq_false (fun h => h (by simp))))) rfl ?_   -- 75
  refine ow_nil (into ?_)
  refine sw_false rfl rfl ?_
  refine sw_skip (into ?_)
  refine sw_seq ?_
  refine sw_seq ?_
  refine sw_region ?_
  refine ow_val (val_move rfl) rfl ?_   -- 76
  refine ow_val (val_move rfl) rfl ?_   -- 77
  refine ow_val ((val_sub_u64 rfl rfl).to (congrArg vU64 hsub)) rfl ?_   -- 78
  by_cases h2s : hi - lo < 2
  · -- yes
    refine ow_val ((val_lss_u64 rfl rfl).to (congrArg Value.bool (decide_eq_true ((at_lt (b := 2) (by omega) (by omega)).2 h2s)))) rfl ?_   -- 79
    refine ow_nil (into ?_)
    refine sw_true rfl rfl ?_
    refine sw_seq ?_
    refine sw_region ?_
    refine ow_val (val_move rfl) rfl ?_   -- 81
    refine ow_call_pure (v := .tuple #[.agg ((dig k []).map vU8).toArray, vInt ((0 : Nat) : Int)]) (callsTo Tryd.func27 rfl (by kernel_rfl) rfl) rfl (fun w hm => (by have h := nolog_any (k : Int) w (hK.mem0 hm); rw [digO_yes h1 h2] at h; exact h)) ?_   -- 82
    refine ow_val (val_move rfl) rfl ?_   -- 80
    refine ow_val (val_extract rfl rfl) rfl ?_   -- 83
    refine ow_val (val_extract rfl rfl) rfl ?_   -- 84
    refine ow_new (acts_alloc zD) rfl (fun b13 hb13 => ?_)   -- 13
    refine ow_do_eq (does_store_all 0 rfl rfl rfl (one_u8s _) Tryd.sizeOf43 (by show (List.map vU8 (dig k [])).length = _; rw [List.length_map]; exact (dig_len _ (by omega))) (by show (List.map vU8 zeros32).length = _; rw [List.length_map]; exact zeros32_len)) ?_
    refine ow_val (val_assign rfl) rfl ?_   -- 14
    refine ow_nil (into ?_)
    refine sw_seq ?_
    refine sw_seq ?_
    refine sw_region ?_
    refine ow_val (val_move rfl) rfl ?_   -- 85
    refine ow_val (val_move rfl) rfl ?_   -- 86
    by_cases h3s : lo < hi
    · -- yes
      refine ow_val ((val_gtr_u64 rfl rfl).to (congrArg Value.bool (decide_eq_true ((at_lt (by omega) (by omega)).2 h3s)))) rfl ?_   -- 87
      refine ow_nil (into ?_)
      refine sw_true rfl rfl ?_
      refine sw_region ?_
      refine ow_val (val_move rfl) rfl ?_   -- 89
      refine ow_val (val_move rfl) rfl ?_   -- 90
      refine ow_call_pure (v := .tuple #[.agg ((l.getD lo default).map vU8).toArray, vInt ((0 : Nat) : Int)]) (callsTo Tryd.func22 rfl (by kernel_rfl) rfl) rfl (fun w hm => (by have h := tleaf_any k h1 h2 b26 l (by assumption) (UInt64.ofNat lo) w (htr26.is (hm.heldSub (.cons _ (.cons _ (List.Sublist.refl _))))) (by omega); rw [leafO_nat (by omega) (by omega)] at h; exact h)) ?_   -- 91
      refine ow_val (val_move rfl) rfl ?_   -- 88
      refine ow_val (val_extract rfl rfl) rfl ?_   -- 92
      refine ow_val (val_extract rfl rfl) rfl ?_   -- 93
      refine ow_do_eq (does_store_all 0 rfl rfl rfl (one_u8s _) Tryd.sizeOf43 (by show (List.map vU8 (l.getD lo default)).length = _; rw [List.length_map]; exact (hdl _ (getD_mem (by omega)))) (by show (List.map vU8 (dig k [])).length = _; rw [List.length_map]; exact (dig_len _ (by omega)))) ?_
      refine ow_val (val_assign rfl) rfl ?_   -- 14
      refine ow_nil (into ?_)
      refine sw_seq ?_
      refine sw_region ?_
      refine ow_val (val_move rfl) rfl ?_   -- 94
      refine ow_val ((val_eql_int rfl rfl).to (v' := .bool true) (congrArg Value.bool (decide_eq_true (by simp)))) rfl ?_   -- 95
      refine ow_val (val_move rfl) rfl ?_   -- 96
      refine ow_guard_yes rfl rfl rfl ?_
      refine ow_val (val_load_all 1 rfl rfl Tryd.isAgg43 Tryd.sizeOf43 (by show (List.map vU8 (lg k (seg l lo hi))).length = _; rw [List.length_map]; exact (lg_len h2 _ rfl (seg_all (by assumption))))) rfl ?_   -- 97
      refine ow_guard_yes rfl rfl rfl ?_
      refine ow_val (val_load_all 0 rfl rfl Tryd.isAgg43 Tryd.sizeOf43 (by show (List.map vU8 (l.getD lo default)).length = _; rw [List.length_map]; exact (hdl _ (getD_mem (by omega))))) rfl ?_   -- 98
      refine ow_guard_yes rfl rfl rfl ?_
      refine ow_val ((val_eql_u8s rfl rfl Tryd.eqGuardType43 Tryd.underlying43 Tryd.underlying5 Tryd.sizeOf5 Tryd.isAgg5 (lg_len h2 _ rfl (seg_all (by assumption))) (hdl _ (getD_mem (by omega)))).to (congrArg Value.bool (decide_eq_true ((by first | exact lg_one' k (by omega) (by omega) | exact lg_none k (by omega)))))) rfl ?_   -- 99
      refine ow_val (val_pick_true rfl rfl) rfl ?_   -- 100
      refine ow_val (val_assign rfl) rfl ?_   -- 6
      refine ow_nil (into ?_)
      refine sw_ret (fun w hm => ?_)
      try dsimp only [thenP, blockP, Nat.beq, cond]
      exact ret_one _ rfl rfl ⟨rfl, hm.forgetAll⟩
    · -- no
      refine ow_val ((val_gtr_u64 rfl rfl).to (congrArg Value.bool (decide_eq_false (mt (at_lt (by omega) (by omega)).1 h3s)))) rfl ?_   -- 87
      refine ow_nil (into ?_)
      refine sw_false rfl rfl ?_
      refine sw_skip (into ?_)
      refine sw_seq ?_
      refine sw_region ?_
      refine ow_val (val_move rfl) rfl ?_   -- 94
      refine ow_val ((val_eql_int rfl rfl).to (v' := .bool true) (congrArg Value.bool (decide_eq_true (by simp)))) rfl ?_   -- 95
      refine ow_val (val_move rfl) rfl ?_   -- 96
      refine ow_guard_yes rfl rfl rfl ?_
      refine ow_val (val_load_all 1 rfl rfl Tryd.isAgg43 Tryd.sizeOf43 (by show (List.map vU8 (lg k (seg l lo hi))).length = _; rw [List.length_map]; exact (lg_len h2 _ rfl (seg_all (by assumption))))) rfl ?_   -- 97
      refine ow_guard_yes rfl rfl rfl ?_
      refine ow_val (val_load_all 0 rfl rfl Tryd.isAgg43 Tryd.sizeOf43 (by show (List.map vU8 (dig k [])).length = _; rw [List.length_map]; exact (dig_len _ (by omega)))) rfl ?_   -- 98
      refine ow_guard_yes rfl rfl rfl ?_
      refine ow_val ((val_eql_u8s rfl rfl Tryd.eqGuardType43 Tryd.underlying43 Tryd.underlying5 Tryd.sizeOf5 Tryd.isAgg5 (lg_len h2 _ rfl (seg_all (by assumption))) (dig_len _ (by omega))).to (congrArg Value.bool (decide_eq_true ((by first | exact lg_one' k (by omega) (by omega) | exact lg_none k (by omega)))))) rfl ?_   -- 99
      refine ow_val (val_pick_true rfl rfl) rfl ?_   -- 100
      refine ow_val (val_assign rfl) rfl ?_   -- 6
      refine ow_nil (into ?_)
      refine sw_ret (fun w hm => ?_)
      try dsimp only [thenP, blockP, Nat.beq, cond]
      exact ret_one _ rfl rfl ⟨rfl, hm.forgetAll⟩
  · -- no
    refine ow_val ((val_lss_u64 rfl rfl).to (congrArg Value.bool (decide_eq_false (mt (at_lt (b := 2) (by omega) (by omega)).1 h2s)))) rfl ?_   -- 79
    refine ow_nil (into ?_)
    refine sw_false rfl rfl ?_
    refine sw_skip (into ?_)
    refine sw_seq ?_
    refine sw_region ?_
    refine ow_val (val_assign rfl) rfl ?_   -- 15
    refine ow_nil (into ?_)
    refine sw_seq ?_
    refine sw_block ?_
    refine sw_loop (σ := UInt64) (fun v => (∃ j, v.toNat = 2 ^ j) ∧ v.toNat < hi - lo) (fun v => [(15, vU64 v), (10, vU64 (UInt64.ofNat hi)), (9, vU64 (UInt64.ofNat lo)), (7, vPtr b26), (0, vInt (k : Int)), (11, .pointer (some ⟨b11, 0, none⟩))]) (fun _ => Mem w [] (some (b11, blk ((lg k (seg l lo hi)).map vU8) 43) :: es26)) (fun v => hi - lo - v.toNat) (UInt64.ofNat (Int.toNat 1)) ⟨⟨0, rfl⟩, (show 1 < hi - lo by omega)⟩ ⟨rfl, rfl, rfl, rfl, rfl, rfl, trivial⟩ (fun w hm => hm.only (.cons_cons _ (List.Sublist.refl _))) ?_
    rintro v ⟨⟨j, hj⟩, hv⟩
    have hvp : 1 ≤ v.toNat := by rw [hj]; exact Nat.one_le_two_pow
    refine sw_seq ?_
    refine sw_seq ?_
    refine sw_region ?_
    refine ow_val (val_move rfl) rfl ?_   -- 101
    refine ow_val (val_mul_u64 rfl rfl) rfl ?_   -- 102
    refine ow_val (val_move rfl) rfl ?_   -- 103
    refine ow_val (val_move rfl) rfl ?_   -- 104
    refine ow_val ((val_sub_u64 rfl rfl).to (congrArg vU64 hsub)) rfl ?_   -- 105
    refine ow_val (val_lss_u64 rfl rfl) rfl ?_   -- 106
    refine ow_nil (into ?_)
    refine sw_if rfl (fun h0 => ?_) (fun h0 => ?_)
    · -- then
      have hlt : 2 * v.toNat < hi - lo := (dbl_lt (by omega) hv).1 h0
      have hm2 : (v * UInt64.ofNat (Int.toNat 2)).toNat = v.toNat * 2 := by
        rw [UInt64.toNat_mul]; show v.toNat * 2 % 2 ^ 64 = _; omega
      refine sw_skip (into ?_)
      refine sw_block ?_
      refine sw_region ?_
      refine ow_val (val_move rfl) rfl ?_   -- 107
      refine ow_val (val_mul_u64 rfl rfl) rfl ?_   -- 108
      refine ow_val (val_assign rfl) rfl ?_   -- 15
      exact ow_nil (fun w hm => ⟨v * UInt64.ofNat (Int.toNat 2), ⟨⟨j + 1, by rw [hm2, hj, Nat.pow_succ]⟩, by rw [hm2]; omega⟩, by rw [hm2]; omega, ⟨rfl, rfl, rfl, rfl, rfl, rfl, trivial⟩, hm⟩)
    · -- else
      have hge : hi - lo ≤ 2 * v.toNat := Nat.le_of_not_lt fun h3 => h0 ((dbl_lt (by omega) hv).2 h3)
      obtain rfl := pw_eq hj hv hge
      obtain ⟨m, hm⟩ : ∃ m, splitN (hi - lo) = m := ⟨_, rfl⟩
      rw [hm]
      have hs1 := splitN_lt (n := hi - lo) (by omega)
      have hs2 := splitN_pos (hi - lo)
      rw [hm] at hs1 hs2
      refine sw_exit (into ?_)
      refine sw_seq ?_
      refine sw_region ?_
      refine ow_val (val_move rfl) rfl ?_   -- 110
      refine ow_val (val_move rfl) rfl ?_   -- 111
      refine ow_val (val_move rfl) rfl ?_   -- 112
      refine ow_val (val_move rfl) rfl ?_   -- 113
      refine ow_val ((val_add_u64 rfl rfl).to (congrArg vU64 (of_add (by omega)))) rfl ?_   -- 114
      refine ow_call_pure (v := .tuple #[.agg ((lg k (seg l lo (lo + m))).map vU8).toArray, vInt ((0 : Nat) : Int)]) (callsTo Tryd.func19 rfl (by kernel_rfl) rfl) rfl (fun w hm => (by have h := range_any k h1 h2 b26 l (by assumption) (by assumption) (UInt64.ofNat lo) (UInt64.ofNat (lo + m)) w (hK.mem0 hm) (htr26.is (hm.heldSub (.cons _ (List.Sublist.refl _)))) (by omega); rw [rngO_nat k (by omega) (by omega) (by omega)] at h; exact h)) ?_   -- 115
      refine ow_val (val_move rfl) rfl ?_   -- 109
      refine ow_val (val_extract rfl rfl) rfl ?_   -- 116
      refine ow_val (val_extract rfl rfl) rfl ?_   -- 117
      refine ow_new (acts_alloc zD) rfl (fun b16 hb16 => ?_)   -- 16
      refine ow_do_eq (does_store_all 0 rfl rfl rfl (one_u8s _) Tryd.sizeOf43 (by show (List.map vU8 (lg k (seg l lo (lo + m)))).length = _; rw [List.length_map]; exact (lg_len h2 _ rfl (seg_all (by assumption)))) (by show (List.map vU8 zeros32).length = _; rw [List.length_map]; exact zeros32_len)) ?_
      refine ow_val (val_assign rfl) rfl ?_   -- 12
      refine ow_nil (into ?_)
      refine sw_seq ?_
      refine sw_region ?_
      refine ow_val (val_move rfl) rfl ?_   -- 119
      refine ow_val (val_move rfl) rfl ?_   -- 120
      refine ow_val (val_move rfl) rfl ?_   -- 121
      refine ow_val ((val_add_u64 rfl rfl).to (congrArg vU64 (of_add (by omega)))) rfl ?_   -- 122
      refine ow_val (val_move rfl) rfl ?_   -- 123
      refine ow_call_pure (v := .tuple #[.agg ((lg k (seg l (lo + m) hi)).map vU8).toArray, vInt ((0 : Nat) : Int)]) (callsTo Tryd.func19 rfl (by kernel_rfl) rfl) rfl (fun w hm => (by have h := range_any k h1 h2 b26 l (by assumption) (by assumption) (UInt64.ofNat (lo + m)) (UInt64.ofNat hi) w (hK.mem0 hm) (htr26.is (hm.heldSub (.cons _ (.cons _ (List.Sublist.refl _))))) (by omega); rw [rngO_nat k (by omega) (by omega) (by omega)] at h; exact h)) ?_   -- 124
      refine ow_val (val_move rfl) rfl ?_   -- 118
      refine ow_val (val_extract rfl rfl) rfl ?_   -- 125
      refine ow_val (val_extract rfl rfl) rfl ?_   -- 126
      refine ow_new (acts_alloc zD) rfl (fun b17 hb17 => ?_)   -- 17
      refine ow_do_eq (does_store_all 0 rfl rfl rfl (one_u8s _) Tryd.sizeOf43 (by show (List.map vU8 (lg k (seg l (lo + m) hi))).length = _; rw [List.length_map]; exact (lg_len h2 _ rfl (seg_all (by assumption)))) (by show (List.map vU8 zeros32).length = _; rw [List.length_map]; exact zeros32_len)) ?_
      refine ow_val (val_assign rfl) rfl ?_   -- 18
      refine ow_nil (into ?_)
      refine sw_seq ?_
      refine sw_region ?_
      refine ow_val (val_move rfl) rfl ?_   -- 128
      refine ow_val (val_load_all 1 rfl rfl Tryd.isAgg43 Tryd.sizeOf43 (by show (List.map vU8 (lg k (seg l lo (lo + m)))).length = _; rw [List.length_map]; exact (lg_len h2 _ rfl (seg_all (by assumption))))) rfl ?_   -- 129
      refine ow_val (val_load_all 0 rfl rfl Tryd.isAgg43 Tryd.sizeOf43 (by show (List.map vU8 (lg k (seg l (lo + m) hi))).length = _; rw [List.length_map]; exact (lg_len h2 _ rfl (seg_all (by assumption))))) rfl ?_   -- 130
      refine ow_call_pure (v := .tuple #[.agg ((nd k ((lg k (seg l lo (lo + m)))) ((lg k (seg l (lo + m) hi)))).map vU8).toArray, vInt ((0 : Nat) : Int)]) (callsTo Tryd.func30 rfl (by kernel_rfl) rfl) rfl (fun w hm => (by have h := node_any w (hK.mem0 hm) (k : Int) ((lg k (seg l lo (lo + m)))) ((lg k (seg l (lo + m) hi))) (lg_len h2 _ rfl (seg_all (by assumption))) (lg_len h2 _ rfl (seg_all (by assumption))); rw [digO_node h1 h2 (lg_fm h1 h2 (seg_all (by assumption))) (lg_fm h1 h2 (seg_all (by assumption)))] at h; exact h)) ?_   -- 131
      refine ow_val (val_move rfl) rfl ?_   -- 127
      refine ow_val (val_extract rfl rfl) rfl ?_   -- 132
      refine ow_val (val_extract rfl rfl) rfl ?_   -- 133
      refine ow_new (acts_alloc zD) rfl (fun b19 hb19 => ?_)   -- 19
      refine ow_do_eq (does_store_all 0 rfl rfl rfl (one_u8s _) Tryd.sizeOf43 (by show (List.map vU8 (nd k ((lg k (seg l lo (lo + m)))) ((lg k (seg l (lo + m) hi))))).length = _; rw [List.length_map]; exact (nd_len _ _ _ h2)) (by show (List.map vU8 zeros32).length = _; rw [List.length_map]; exact zeros32_len)) ?_
      refine ow_val (val_assign rfl) rfl ?_   -- 20
      refine ow_nil (into ?_)
      refine sw_seq ?_
      refine sw_region ?_
      refine ow_val (val_move rfl) rfl ?_   -- 134
      refine ow_val ((val_eql_int rfl rfl).to (v' := .bool true) (congrArg Value.bool (decide_eq_true (by simp)))) rfl ?_   -- 135
      refine ow_val (val_move rfl) rfl ?_   -- 136
      refine ow_guard_yes rfl rfl rfl ?_
      refine ow_val (val_move rfl) rfl ?_   -- 137
      refine ow_guard_yes rfl rfl rfl ?_
      refine ow_val ((val_eql_int rfl rfl).to (v' := .bool true) (congrArg Value.bool (decide_eq_true (by simp)))) rfl ?_   -- 138
      refine ow_val (val_pick_true rfl rfl) rfl ?_   -- 139
      refine ow_val (val_move rfl) rfl ?_   -- 140
      refine ow_guard_yes rfl rfl rfl ?_
      refine ow_val (val_move rfl) rfl ?_   -- 141
      refine ow_guard_yes rfl rfl rfl ?_
      refine ow_val ((val_eql_int rfl rfl).to (v' := .bool true) (congrArg Value.bool (decide_eq_true (by simp)))) rfl ?_   -- 142
      refine ow_val (val_pick_true rfl rfl) rfl ?_   -- 143
      refine ow_val (val_move rfl) rfl ?_   -- 144
      refine ow_guard_yes rfl rfl rfl ?_
      refine ow_val (val_load_all 0 rfl rfl Tryd.isAgg43 Tryd.sizeOf43 (by show (List.map vU8 (nd k ((lg k (seg l lo (lo + m)))) ((lg k (seg l (lo + m) hi))))).length = _; rw [List.length_map]; exact (nd_len _ _ _ h2))) rfl ?_   -- 145
      refine ow_guard_yes rfl rfl rfl ?_
      refine ow_val (val_load_all 3 rfl rfl Tryd.isAgg43 Tryd.sizeOf43 (by show (List.map vU8 (lg k (seg l lo hi))).length = _; rw [List.length_map]; exact (lg_len h2 _ rfl (seg_all (by assumption))))) rfl ?_   -- 146
      refine ow_guard_yes rfl rfl rfl ?_
      refine ow_val ((val_eql_u8s rfl rfl Tryd.eqGuardType43 Tryd.underlying43 Tryd.underlying5 Tryd.sizeOf5 Tryd.isAgg5 (nd_len _ _ _ h2) (lg_len h2 _ rfl (seg_all (by assumption)))).to (congrArg Value.bool (decide_eq_true ((lg_halves k (by omega) (by omega) hm).symm)))) rfl ?_   -- 147
      refine ow_val (val_pick_true rfl rfl) rfl ?_   -- 148
      refine ow_val (val_assign rfl) rfl ?_   -- 6
      refine ow_nil (into ?_)
      refine sw_ret (fun w hm => ?_)
      try dsimp only [thenP, blockP, Nat.beq, cond]
      exact ret_one _ rfl rfl ⟨rfl, hm.forgetAll⟩

theorem splits_go (k : Nat) (h1 : 1 ≤ k) (h2 : k ≤ 32) (w : World) (hK : KW w) (a : Option Addr) (c : Nat) (l : List (List UInt8)) (hdl : ∀ d ∈ l, d.length = 32) (hr : Rd w a (l.flatMap fun d => d.map vU8)) (hc : l.length ≤ c) (hl : l.length < 9223372036854775808) (hfl : ∀ d ∈ l, fm (k : Int) d = true) (ax : Option Addr) (cx : Nat) (xs : List Int) (hx : Rd w ax (xs.map vInt)) (hxc : xs.length ≤ cx) (hxl : xs.length < 9223372036854775808) (h4 : l.length ≤ 400) : Calls Tryd.prog 7 #[vInt (k : Int), .slice a l.length c, .slice ax xs.length cx] w fun e w' => ∃ v, e = .returned v ∧ v = .bool true ∧ Mem w [] [] w' := by
  by_cases h5 : xs.length < 2
  · exact splits_a k h1 h2 w hK a c l hdl hr hc hl hfl ax cx xs hx hxc hxl h4 h5
  by_cases h6 : xs.getD 0 default < 0
  · exact splits_b k h1 h2 w hK a c l hdl hr hc hl hfl ax cx xs hx hxc hxl h4 h5 h6
  by_cases h7 : xs.getD 1 default < xs.getD 0 default
  · exact splits_c k h1 h2 w hK a c l hdl hr hc hl hfl ax cx xs hx hxc hxl h4 h5 h6 h7
  by_cases h8 : (l.length : Int) < xs.getD 1 default
  · exact splits_d k h1 h2 w hK a c l hdl hr hc hl hfl ax cx xs hx hxc hxl h4 h5 h6 h7 h8
  · obtain ⟨lo, hlo⟩ : ∃ n : Nat, xs.getD 0 default = (n : Int) := ⟨(xs.getD 0 default).toNat, by omega⟩
    obtain ⟨hi, hhi⟩ : ∃ n : Nat, xs.getD 1 default = (n : Int) := ⟨(xs.getD 1 default).toNat, by omega⟩
    exact splits_main k h1 h2 w hK a c l hdl hr hc hl hfl ax cx xs hx hxc hxl h4 lo hi h5 hlo hhi (by omega) (by omega)
theorem mtreeSplits_any (v0 : Int) (w : World) (hK : KW w) (a : Option Addr) (c : Nat) (l : List (List UInt8)) (hdl : ∀ d ∈ l, d.length = 32) (hr : Rd w a (l.flatMap fun d => d.map vU8)) (hc : l.length ≤ c) (hl : l.length < 9223372036854775808) (ax : Option Addr) (cx : Nat) (xs : List Int) (hx : Rd w ax (xs.map vInt)) (hxc : xs.length ≤ cx) (hxl : xs.length < 9223372036854775808) : Calls Tryd.prog 7 #[vInt v0, .slice a l.length c, .slice ax xs.length cx] w fun e w' => ∃ v, e = .returned v ∧ v = .bool true ∧ Mem w [] [] w' := by
  by_cases hno : l.length ≤ 400 ∧ fitO v0 l = true
  · obtain ⟨h4, hf⟩ := hno
    obtain ⟨hwd, hfl⟩ := fitO_iff.1 hf
    have h9 := wd_iff.1 hwd
    obtain ⟨k, rfl⟩ : ∃ k : Nat, v0 = (k : Int) := ⟨v0.toNat, by omega⟩
    exact splits_go k (by omega) (by omega) w hK a c l hdl hr hc hl hfl ax cx xs hx hxc hxl h4
  · exact splits_none v0 w hK a c l hdl hr hc hl ax cx xs hx hxc hxl hno
end Go.Proofs.YtcappcjogcekkaaDoor
