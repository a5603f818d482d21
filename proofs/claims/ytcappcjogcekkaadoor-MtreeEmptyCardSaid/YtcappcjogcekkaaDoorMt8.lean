import Derived.Test.YtcappcjogcekkaaDoorMt7
import Derived.Test.YtcappcjogcekkaaDoorProg
set_option linter.unusedVariables false
set_option linter.unusedSimpArgs false
namespace Go.Proofs.YtcappcjogcekkaaDoor
open Go.Sx Go.Ps
/-- The leaves from lo up to hi. -/
def seg (l : List (List UInt8)) (lo hi : Nat) : List (List UInt8) := (l.drop lo).take (hi - lo)
theorem seg_all {P : List UInt8 → Prop} {l : List (List UInt8)} (h : ∀ d ∈ l, P d) {lo hi : Nat} : ∀ d ∈ seg l lo hi, P d := fun d hd => h d (List.mem_of_mem_drop (List.mem_of_mem_take hd))
theorem rngO_nat (k : Nat) {l : List (List UInt8)} {lo hi : Nat} (h1 : lo ≤ hi) (h2 : hi ≤ l.length) (h3 : l.length < 9223372036854775808) : rngO k l (UInt64.ofNat lo) (UInt64.ofNat hi) = (lg k (seg l lo hi), 0) := by
  have e1 : (UInt64.ofNat lo).toNat = lo := of_nat (by omega)
  have e2 : (UInt64.ofNat hi).toNat = hi := of_nat (by omega)
  rw [rngO, if_neg, e1, e2]; · rfl
  rw [UInt64.lt_iff_toNat_lt, e1, e2]; omega
theorem rngO_root (k : Nat) {l : List (List UInt8)} {hi : Nat} (h2 : hi ≤ l.length) (h3 : l.length < 9223372036854775808) : rngO k l 0 (UInt64.ofNat hi) = (lg k (seg l 0 hi), 0) := rngO_nat k (lo := 0) (Nat.zero_le _) h2 h3
theorem leafO_nat {l : List (List UInt8)} {i : Nat} (h : i < l.length) (h3 : l.length < 9223372036854775808) : leafO l (UInt64.ofNat i) = (l.getD i default, 0) := by
  rw [leafO, of_nat (by omega), if_neg (by omega)]
theorem lg_one' (k : Nat) {l : List (List UInt8)} {lo hi : Nat} (h : hi = lo + 1) (h2 : hi ≤ l.length) : lg k (seg l lo hi) = l.getD lo default := by
  subst h; rw [seg, Nat.add_sub_cancel_left, take_one (by omega)]
theorem lg_none (k : Nat) {l : List (List UInt8)} {lo hi : Nat} (h : hi ≤ lo) : lg k (seg l lo hi) = dig k [] := by
  rw [seg, show hi - lo = 0 by omega, List.take_zero, lg_nil]
theorem lg_halves (k : Nat) {l : List (List UInt8)} {lo hi m : Nat} (h2 : lo + 2 ≤ hi) (hn : hi ≤ l.length) (hm : splitN (hi - lo) = m) : lg k (seg l lo hi) = nd k (lg k (seg l lo (lo + m))) (lg k (seg l (lo + m) hi)) := by
  have h := lg_part k (l := l) (lo := lo) (n := hi - lo) (by omega) (by omega)
  rw [hm] at h
  rw [seg, h, seg, seg, Nat.add_sub_cancel_left, show hi - (lo + m) = hi - lo - m by omega]

theorem ranges_none (v0 : Int) (w : World) (hK : KW w) (a : Option Addr) (c : Nat) (l : List (List UInt8)) (hdl : ∀ d ∈ l, d.length = 32) (hr : Rd w a (l.flatMap fun d => d.map vU8)) (hc : l.length ≤ c) (hl : l.length < 9223372036854775808) (ax : Option Addr) (cx : Nat) (xs : List UInt64) (hx : Rd w ax (xs.map vU64)) (hxc : xs.length ≤ cx) (hxl : xs.length < 9223372036854775808) (hno : ¬ (l.length ≤ 400 ∧ fitO v0 l = true)) : Calls Tryd.prog 4 #[vInt v0, .slice a l.length c, .slice ax xs.length cx] w fun e w' => ∃ v, e = .returned v ∧ v = .bool true ∧ Mem w [] [] w' := by
  refine calls_of_sw (vs := [vInt v0, .slice a l.length c, .slice ax xs.length cx]) Tryd.func4 rfl Tryd.ntmps4 rfl (SW.begin ?_)
  refine sw_seq ?_
  refine sw_region ?_
  refine ow_val (val_assign rfl) rfl ?_   -- 6
  refine ow_nil (into ?_)
  refine sw_seq ?_
  refine sw_seq ?_
  refine sw_region ?_
  refine ow_call_pure (v := .bool true) (callsTo Tryd.func12 rfl (by kernel_rfl) rfl) rfl (fun w hm => awake_any w (hK.mem0 hm)) ?_   -- 13
  refine ow_val (val_not rfl) rfl ?_   -- 14
  refine ow_nil (into ?_)
  refine sw_false rfl rfl ?_
  refine sw_skip (into ?_)
  refine sw_seq ?_
  refine sw_region ?_
  refine ow_val (val_move rfl) rfl ?_   -- 16
  refine ow_val (val_move rfl) rfl ?_   -- 17
  refine ow_call_pure (v := .tuple #[.pointer none, .bool false]) (callsTo Tryd.func18 rfl (by kernel_rfl) rfl) rfl (fun w hm => grown_none v0 7 w a l.length c l rfl hdl (hr.mem hm) (by omega) (by omega) hno) ?_   -- 18
  refine ow_val (val_move rfl) rfl ?_   -- 15
  refine ow_val (val_extract rfl rfl) rfl ?_   -- 19
  refine ow_val (val_extract rfl rfl) rfl ?_   -- 20
  refine ow_val (val_assign rfl) rfl ?_   -- 7
  refine ow_val (val_assign rfl) rfl ?_   -- 8
  refine ow_nil (into ?_)
  refine sw_seq ?_
  refine sw_seq ?_
  refine sw_region ?_
  refine ow_val (val_move rfl) rfl ?_   -- 21
  refine ow_val (val_not rfl) rfl ?_   -- 22
  refine ow_val (val_move rfl) rfl ?_   -- 23
  first | refine ow_guard_no rfl rfl rfl rfl rfl ?_ | refine ow_guard_none rfl rfl rfl rfl rfl ?_
  first | refine ow_guard_no rfl rfl rfl rfl rfl ?_ | refine ow_guard_none rfl rfl rfl rfl rfl ?_
  first | refine ow_guard_no rfl rfl rfl rfl rfl ?_ | refine ow_guard_none rfl rfl rfl rfl rfl ?_
  refine ow_val (val_pick_true rfl rfl) rfl ?_   -- 27
  refine ow_nil (into ?_)
  refine sw_true rfl rfl ?_
  refine sw_seq ?_
  refine sw_region ?_
  refine ow_val (val_assign rfl) rfl ?_   -- 6
  refine ow_nil (into ?_)
  refine sw_ret (fun w hm => ?_)
  try dsimp only [thenP, blockP, Nat.beq, cond]
  exact ret_one _ rfl rfl ⟨rfl, hm.forgetAll⟩

theorem ranges_go (k : Nat) (h1 : 1 ≤ k) (h2 : k ≤ 32) (w : World) (hK : KW w) (a : Option Addr) (c : Nat) (l : List (List UInt8)) (hdl : ∀ d ∈ l, d.length = 32) (hr : Rd w a (l.flatMap fun d => d.map vU8)) (hc : l.length ≤ c) (hl : l.length < 9223372036854775808) (hfl : ∀ d ∈ l, fm (k : Int) d = true) (ax : Option Addr) (cx : Nat) (xs : List UInt64) (hx : Rd w ax (xs.map vU64)) (hxc : xs.length ≤ cx) (hxl : xs.length < 9223372036854775808) (h4 : l.length ≤ 400) : Calls Tryd.prog 4 #[vInt (k : Int), .slice a l.length c, .slice ax xs.length cx] w fun e w' => ∃ v, e = .returned v ∧ v = .bool true ∧ Mem w [] [] w' := by
  refine calls_of_sw (vs := [vInt (k : Int), .slice a l.length c, .slice ax xs.length cx]) Tryd.func4 rfl Tryd.ntmps4 rfl (SW.begin ?_)
  refine sw_seq ?_
  refine sw_region ?_
  refine ow_val (val_assign rfl) rfl ?_   -- 6
  refine ow_nil (into ?_)
  refine sw_seq ?_
  refine sw_seq ?_
  refine sw_region ?_
  refine ow_call_pure (v := .bool true) (callsTo Tryd.func12 rfl (by kernel_rfl) rfl) rfl (fun w hm => awake_any w (hK.mem0 hm)) ?_   -- 13
  refine ow_val (val_not rfl) rfl ?_   -- 14
  refine ow_nil (into ?_)
  refine sw_false rfl rfl ?_
  refine sw_skip (into ?_)
  refine sw_seq ?_
  refine sw_region ?_
  refine ow_val (val_move rfl) rfl ?_   -- 16
  refine ow_val (val_move rfl) rfl ?_   -- 17
  refine ow_call_tail (σ := Nat × List Ent) (fun q9 => .tuple #[vPtr q9.1, .bool true]) (fun q9 => q9.2) (fun q9 => TrOn 95 75 k q9.2 q9.1 l) (callsTo Tryd.func18 rfl (by kernel_rfl) rfl) rfl (fun w hm => grown_any k h1 h2 7 (by omega) (by omega) w (hK.mem0 hm) a l.length c l rfl hdl (hr.mem hm) (by omega) (by omega) (by omega) (by assumption)) ?_   -- 18
  rintro ⟨b18, es18⟩ htr18
  simp only at htr18 ⊢
  refine ow_val (val_move rfl) rfl ?_   -- 15
  refine ow_val (val_extract rfl rfl) rfl ?_   -- 19
  refine ow_val (val_extract rfl rfl) rfl ?_   -- 20
  refine ow_val (val_assign rfl) rfl ?_   -- 7
  refine ow_val (val_assign rfl) rfl ?_   -- 8
  refine ow_nil (into ?_)
  refine sw_seq ?_
  refine sw_seq ?_
  refine sw_region ?_
  refine ow_val (val_move rfl) rfl ?_   -- 21
  refine ow_val (val_not rfl) rfl ?_   -- 22
  refine ow_val (val_move rfl) rfl ?_   -- 23
  refine ow_guard_yes rfl rfl rfl ?_
  refine ow_val (val_move rfl) rfl ?_   -- 24
  refine ow_guard_yes rfl rfl rfl ?_
  refine ow_val (val_len rfl Tryd.underlying39) rfl ?_   -- 25
  by_cases hx2 : xs.length < 2
  · -- yes
    refine ow_guard_yes rfl rfl rfl ?_
    refine ow_val ((val_lss_int rfl rfl).to (congrArg Value.bool (decide_eq_true (by omega)))) rfl ?_   -- 26
    refine ow_val (val_pick_false rfl rfl) rfl ?_   -- 27
    refine ow_nil (into ?_)
    refine sw_true rfl rfl ?_
    refine sw_seq ?_
    refine sw_region ?_
    refine ow_val (val_assign rfl) rfl ?_   -- 6
    refine ow_nil (into ?_)
    refine sw_ret (fun w hm => ?_)
    try dsimp only [thenP, blockP, Nat.beq, cond]
    exact ret_one _ rfl rfl ⟨rfl, hm.forgetAll⟩
  · -- no
    obtain ⟨bx, ox, rfl⟩ := hx.addr (by rw [List.length_map]; omega)
    refine ow_guard_yes rfl rfl rfl ?_
    refine ow_val ((val_lss_int rfl rfl).to (congrArg Value.bool (decide_eq_false (by omega)))) rfl ?_   -- 26
    refine ow_val (val_pick_false rfl rfl) rfl ?_   -- 27
    refine ow_nil (into ?_)
    refine sw_false rfl rfl ?_
    refine sw_skip (into ?_)
    refine sw_seq ?_
    refine sw_region_tree (Mem w [] []) [] (.one 0 0 (.one 1 0 (.one 2 0 (.one 4 0 (.one 5 0 (.one 3 1 (.one 6 1 (.alt 7 (.one 8 0 (.one 9 0 (.one 10 0 (.one 11 2 (.one 12 2 (.one 13 0 .done)))))) (.alt 11 (.one 7 2 (.one 8 0 (.one 9 0 (.one 10 0 (.one 12 2 (.one 13 0 .done)))))) .stop))))))))) (by kernel_rfl) (by kernel_rfl) (fun _ _ _ h => h) (fun _ h => h.only (List.nil_sublist _)) (fun _ h => h.drawn _) ?_
    refine lt_pure rfl trivial (val_move rfl) rfl ?_   -- 29
    refine lt_pure rfl trivial (val_move rfl) rfl ?_   -- 30
    refine lt_pure rfl trivial (val_indexAddr_slice (0) (ox) rfl rfl Tryd.underlying39 Tryd.sizeOf46 (by omega) (by omega) (by omega)) rfl ?_   -- 31
    refine lt_pure rfl trivial (val_move rfl) rfl ?_   -- 33
    refine lt_pure rfl trivial (val_indexAddr_slice (1) (ox + 1) rfl rfl Tryd.underlying39 Tryd.sizeOf46 (by omega) (by omega) (by omega)) rfl ?_   -- 34
    refine lt_held rfl trivial (val_load rfl Tryd.isAgg46 (fun w' hm => Rd.get (p := xs) (k := 0) (hx.mem hm) (by omega) (by omega))) rfl ?_   -- 32
    refine lt_held rfl trivial (val_load rfl Tryd.isAgg46 (fun w' hm => Rd.get (p := xs) (k := 1) (hx.mem hm) (by omega) (by omega))) rfl ?_   -- 35
    refine lt_alt ?_ ?_
    · -- first 7
      refine lt_call_pure (v := .tuple #[.agg (((rngO k l (xs.getD 0 default) (xs.getD 1 default)).1).map vU8).toArray, vInt (((rngO k l (xs.getD 0 default) (xs.getD 1 default)).2 : Nat) : Int)]) rfl trivial (callsTo Tryd.func19 rfl (by kernel_rfl) rfl) rfl (fun w hm => range_any k h1 h2 b18 l (by assumption) (by assumption) (xs.getD 0 default) (xs.getD 1 default) w (hK.mem0 hm) (htr18.is (hm.heldSub (List.Sublist.refl _))) (by omega)) (fun _ _ h => h.only (List.nil_sublist _)) ?_   -- 36
      refine lt_pure rfl trivial (val_move rfl) rfl ?_   -- 28
      refine lt_pure rfl trivial (val_extract rfl rfl) rfl ?_   -- 37
      refine lt_pure rfl trivial (val_extract rfl rfl) rfl ?_   -- 38
      refine lt_make (fun b => .pointer (some ⟨b, 0, none⟩)) rfl trivial (acts_alloc zD) rfl (fun _ _ _ h => h.only (List.nil_sublist _)) (fun b9 hb9 => ?_)   -- 9
      refine lt_do rfl trivial (does_store_all 0 rfl rfl rfl (one_u8s _) Tryd.sizeOf43 (by show (List.map vU8 ((rngO k l (xs.getD 0 default) (xs.getD 1 default)).1)).length = _; rw [List.length_map]; exact (rngO_len h2 (by assumption))) (by show (List.map vU8 zeros32).length = _; rw [List.length_map]; exact zeros32_len)) (fun _ _ _ _ h => h.only (List.nil_sublist _)) (fun _ _ => ?_)
      refine lt_pure rfl trivial (val_assign rfl) rfl ?_   -- 10
      refine lt_done (into ?_)
      refine sw_seq ?_
      refine sw_region_tree (Mem w [] [some (b9, blk (((rngO k l (xs.getD 0 default) (xs.getD 1 default)).1).map vU8) 43)]) [] (.one 0 0 (.one 1 0 (.one 2 0 (.one 3 0 (.one 5 0 (.one 6 0 (.one 4 1 (.one 7 1 (.alt 8 (.one 9 0 (.one 10 0 (.one 11 0 (.one 12 2 (.one 13 2 (.one 14 0 .done)))))) (.alt 12 (.one 8 2 (.one 9 0 (.one 10 0 (.one 11 0 (.one 13 2 (.one 14 0 .done)))))) .stop)))))))))) (by kernel_rfl) (by kernel_rfl) (fun _ _ _ h => h) (fun _ h => h.only (.cons_cons _ (List.nil_sublist _))) (fun _ h => h.drawn _) ?_
      refine lt_pure rfl trivial (val_move rfl) rfl ?_   -- 40
      refine lt_pure rfl trivial (val_move rfl) rfl ?_   -- 41
      refine lt_pure rfl trivial (val_move rfl) rfl ?_   -- 42
      refine lt_pure rfl trivial (val_indexAddr_slice (0) (ox) rfl rfl Tryd.underlying39 Tryd.sizeOf46 (by omega) (by omega) (by omega)) rfl ?_   -- 43
      refine lt_pure rfl trivial (val_move rfl) rfl ?_   -- 45
      refine lt_pure rfl trivial (val_indexAddr_slice (1) (ox + 1) rfl rfl Tryd.underlying39 Tryd.sizeOf46 (by omega) (by omega) (by omega)) rfl ?_   -- 46
      refine lt_held rfl trivial (val_load rfl Tryd.isAgg46 (fun w' hm => Rd.get (p := xs) (k := 0) (hx.mem hm) (by omega) (by omega))) rfl ?_   -- 44
      refine lt_held rfl trivial (val_load rfl Tryd.isAgg46 (fun w' hm => Rd.get (p := xs) (k := 1) (hx.mem hm) (by omega) (by omega))) rfl ?_   -- 47
      refine lt_alt ?_ ?_
      · -- first 8
        refine lt_call_pure (v := .tuple #[.agg (((rngO k l (xs.getD 0 default) (xs.getD 1 default)).1).map vU8).toArray, vInt (((rngO k l (xs.getD 0 default) (xs.getD 1 default)).2 : Nat) : Int)]) rfl trivial (callsTo Tryd.func20 rfl (by kernel_rfl) rfl) rfl (fun w hm => rrange_any k h1 h2 (xs.getD 0 default) (xs.getD 1 default) w a l.length c l rfl hdl (by assumption) (hr.mem hm) (by omega) (by omega)) (fun _ _ h => h.only (.cons_cons _ (List.nil_sublist _))) ?_   -- 48
        refine lt_pure rfl trivial (val_move rfl) rfl ?_   -- 39
        refine lt_pure rfl trivial (val_extract rfl rfl) rfl ?_   -- 49
        refine lt_pure rfl trivial (val_extract rfl rfl) rfl ?_   -- 50
        refine lt_make (fun b => .pointer (some ⟨b, 0, none⟩)) rfl trivial (acts_alloc zD) rfl (fun _ _ _ h => h.only (.cons _ (.cons_cons _ (List.nil_sublist _)))) (fun b11 hb11 => ?_)   -- 11
        refine lt_do rfl trivial (does_store_all 0 rfl rfl rfl (one_u8s _) Tryd.sizeOf43 (by show (List.map vU8 ((rngO k l (xs.getD 0 default) (xs.getD 1 default)).1)).length = _; rw [List.length_map]; exact (rngO_len h2 (by assumption))) (by show (List.map vU8 zeros32).length = _; rw [List.length_map]; exact zeros32_len)) (fun _ _ _ _ h => h.only (.cons _ (.cons_cons _ (List.nil_sublist _)))) (fun _ _ => ?_)
        refine lt_pure rfl trivial (val_assign rfl) rfl ?_   -- 12
        refine lt_done (into ?_)
        refine sw_seq ?_
        refine sw_seq ?_
        refine sw_region ?_
        refine ow_val (val_load_all 1 rfl rfl Tryd.isAgg43 Tryd.sizeOf43 (by show (List.map vU8 ((rngO k l (xs.getD 0 default) (xs.getD 1 default)).1)).length = _; rw [List.length_map]; exact (rngO_len h2 (by assumption)))) rfl ?_   -- 51
        refine ow_val (val_load_all 0 rfl rfl Tryd.isAgg43 Tryd.sizeOf43 (by show (List.map vU8 ((rngO k l (xs.getD 0 default) (xs.getD 1 default)).1)).length = _; rw [List.length_map]; exact (rngO_len h2 (by assumption)))) rfl ?_   -- 52
        refine ow_val ((val_neq_u8s rfl rfl Tryd.eqGuardType43 Tryd.underlying43 Tryd.underlying5 Tryd.sizeOf5 Tryd.isAgg5 (rngO_len h2 (by assumption)) (rngO_len h2 (by assumption))).to (congrArg Value.bool (show _ = false by simp [txt]))) rfl ?_   -- 53
        refine ow_val (val_move rfl) rfl ?_   -- 54
        refine ow_guard_yes rfl rfl rfl ?_
        refine ow_val (val_move rfl) rfl ?_   -- 55
        refine ow_guard_yes rfl rfl rfl ?_
        refine ow_val (val_move rfl) rfl ?_   -- 56
        refine ow_guard_yes rfl rfl rfl ?_
        refine ow_val ((val_neq_int rfl rfl).to (v' := .bool false) (congrArg Value.bool (decide_eq_false (fun h => h rfl)))) rfl ?_   -- 57
        refine ow_val (val_pick_false rfl rfl) rfl ?_   -- 58
        refine ow_nil (into ?_)
        refine sw_false rfl rfl ?_
        refine sw_skip (into ?_)
        refine sw_seq ?_
        refine sw_region ?_
        refine ow_val (val_move rfl) rfl ?_   -- 60
        refine ow_val (val_move rfl) rfl ?_   -- 61
        refine ow_val (val_indexAddr_slice (1) (ox + 1) rfl rfl Tryd.underlying39 Tryd.sizeOf46 (by omega) (by omega) (by omega)) rfl ?_   -- 62
        refine ow_val (val_load rfl Tryd.isAgg46 (fun w' hm => Rd.get (p := xs) (k := 1) (hx.mem hm) (by omega) (by omega))) rfl ?_   -- 63
        refine ow_call_pure (v := .tuple #[.agg (((rngO k l 0 (xs.getD 1 default)).1).map vU8).toArray, vInt (((rngO k l 0 (xs.getD 1 default)).2 : Nat) : Int)]) (callsTo Tryd.func21 rfl (by kernel_rfl) rfl) rfl (fun w hm => root_any k h1 h2 b18 l (by assumption) (by assumption) (xs.getD 1 default) w (hK.mem0 hm) (htr18.is (hm.heldSub (.cons _ (.cons _ (List.Sublist.refl _))))) (by omega)) ?_   -- 64
        refine ow_val (val_move rfl) rfl ?_   -- 59
        refine ow_val (val_extract rfl rfl) rfl ?_   -- 65
        refine ow_val (val_extract rfl rfl) rfl ?_   -- 66
        refine ow_do_eq (does_store_all 1 rfl rfl rfl (one_u8s _) Tryd.sizeOf43 (by show (List.map vU8 ((rngO k l 0 (xs.getD 1 default)).1)).length = _; rw [List.length_map]; exact (rngO_len h2 (by assumption))) (by show (List.map vU8 ((rngO k l (xs.getD 0 default) (xs.getD 1 default)).1)).length = _; rw [List.length_map]; exact (rngO_len h2 (by assumption)))) ?_
        refine ow_val (val_assign rfl) rfl ?_   -- 10
        refine ow_nil (into ?_)
        refine sw_seq ?_
        refine sw_region ?_
        refine ow_val (val_move rfl) rfl ?_   -- 68
        refine ow_val (val_move rfl) rfl ?_   -- 69
        refine ow_val (val_move rfl) rfl ?_   -- 70
        refine ow_val (val_indexAddr_slice (1) (ox + 1) rfl rfl Tryd.underlying39 Tryd.sizeOf46 (by omega) (by omega) (by omega)) rfl ?_   -- 71
        refine ow_val (val_load rfl Tryd.isAgg46 (fun w' hm => Rd.get (p := xs) (k := 1) (hx.mem hm) (by omega) (by omega))) rfl ?_   -- 72
        refine ow_call_pure (v := .tuple #[.agg (((rngO k l 0 (xs.getD 1 default)).1).map vU8).toArray, vInt (((rngO k l 0 (xs.getD 1 default)).2 : Nat) : Int)]) (callsTo Tryd.func20 rfl (by kernel_rfl) rfl) rfl (fun w hm => rrange_any k h1 h2 0 (xs.getD 1 default) w a l.length c l rfl hdl (by assumption) (hr.mem hm) (by omega) (by omega)) ?_   -- 73
        refine ow_val (val_move rfl) rfl ?_   -- 67
        refine ow_val (val_extract rfl rfl) rfl ?_   -- 74
        refine ow_val (val_extract rfl rfl) rfl ?_   -- 75
        refine ow_do_eq (does_store_all 0 rfl rfl rfl (one_u8s _) Tryd.sizeOf43 (by show (List.map vU8 ((rngO k l 0 (xs.getD 1 default)).1)).length = _; rw [List.length_map]; exact (rngO_len h2 (by assumption))) (by show (List.map vU8 ((rngO k l (xs.getD 0 default) (xs.getD 1 default)).1)).length = _; rw [List.length_map]; exact (rngO_len h2 (by assumption)))) ?_
        refine ow_val (val_assign rfl) rfl ?_   -- 12
        refine ow_nil (into ?_)
        refine sw_seq ?_
        refine sw_seq ?_
        refine sw_region ?_
        refine ow_val (val_load_all 1 rfl rfl Tryd.isAgg43 Tryd.sizeOf43 (by show (List.map vU8 ((rngO k l 0 (xs.getD 1 default)).1)).length = _; rw [List.length_map]; exact (rngO_len h2 (by assumption)))) rfl ?_   -- 76
        refine ow_val (val_load_all 0 rfl rfl Tryd.isAgg43 Tryd.sizeOf43 (by show (List.map vU8 ((rngO k l 0 (xs.getD 1 default)).1)).length = _; rw [List.length_map]; exact (rngO_len h2 (by assumption)))) rfl ?_   -- 77
        refine ow_val ((val_neq_u8s rfl rfl Tryd.eqGuardType43 Tryd.underlying43 Tryd.underlying5 Tryd.sizeOf5 Tryd.isAgg5 (rngO_len h2 (by assumption)) (rngO_len h2 (by assumption))).to (congrArg Value.bool (show _ = false by simp [txt]))) rfl ?_   -- 78
        refine ow_val (val_move rfl) rfl ?_   -- 79
        refine ow_guard_yes rfl rfl rfl ?_
        refine ow_val (val_move rfl) rfl ?_   -- 80
        refine ow_guard_yes rfl rfl rfl ?_
        refine ow_val (val_move rfl) rfl ?_   -- 81
        refine ow_guard_yes rfl rfl rfl ?_
        refine ow_val ((val_neq_int rfl rfl).to (v' := .bool false) (congrArg Value.bool (decide_eq_false (fun h => h rfl)))) rfl ?_   -- 82
        refine ow_val (val_pick_false rfl rfl) rfl ?_   -- 83
        refine ow_nil (into ?_)
        refine sw_false rfl rfl ?_
        refine sw_skip (into ?_)
        refine sw_seq ?_
        refine sw_region ?_
        refine ow_val (val_move rfl) rfl ?_   -- 85
        refine ow_val (val_move rfl) rfl ?_   -- 86
        refine ow_val (val_indexAddr_slice (0) (ox) rfl rfl Tryd.underlying39 Tryd.sizeOf46 (by omega) (by omega) (by omega)) rfl ?_   -- 87
        refine ow_val (val_load rfl Tryd.isAgg46 (fun w' hm => Rd.get (p := xs) (k := 0) (hx.mem hm) (by omega) (by omega))) rfl ?_   -- 88
        refine ow_call_pure (v := .tuple #[.agg (((leafO l (xs.getD 0 default)).1).map vU8).toArray, vInt (((leafO l (xs.getD 0 default)).2 : Nat) : Int)]) (callsTo Tryd.func22 rfl (by kernel_rfl) rfl) rfl (fun w hm => tleaf_any k h1 h2 b18 l (by assumption) (xs.getD 0 default) w (htr18.is (hm.heldSub (.cons _ (.cons _ (List.Sublist.refl _))))) (by omega)) ?_   -- 89
        refine ow_val (val_move rfl) rfl ?_   -- 84
        refine ow_val (val_extract rfl rfl) rfl ?_   -- 90
        refine ow_val (val_extract rfl rfl) rfl ?_   -- 91
        refine ow_do_eq (does_store_all 1 rfl rfl rfl (one_u8s _) Tryd.sizeOf43 (by show (List.map vU8 ((leafO l (xs.getD 0 default)).1)).length = _; rw [List.length_map]; exact (leafO_len (by assumption))) (by show (List.map vU8 ((rngO k l 0 (xs.getD 1 default)).1)).length = _; rw [List.length_map]; exact (rngO_len h2 (by assumption)))) ?_
        refine ow_val (val_assign rfl) rfl ?_   -- 10
        refine ow_nil (into ?_)
        refine sw_seq ?_
        refine sw_region ?_
        refine ow_val (val_move rfl) rfl ?_   -- 93
        refine ow_val (val_move rfl) rfl ?_   -- 94
        refine ow_val (val_indexAddr_slice (0) (ox) rfl rfl Tryd.underlying39 Tryd.sizeOf46 (by omega) (by omega) (by omega)) rfl ?_   -- 95
        refine ow_val (val_load rfl Tryd.isAgg46 (fun w' hm => Rd.get (p := xs) (k := 0) (hx.mem hm) (by omega) (by omega))) rfl ?_   -- 96
        refine ow_call_pure (v := .tuple #[.agg (((leafO l (xs.getD 0 default)).1).map vU8).toArray, vInt (((leafO l (xs.getD 0 default)).2 : Nat) : Int)]) (callsTo Tryd.func23 rfl (by kernel_rfl) rfl) rfl (fun w hm => rleaf_any (xs.getD 0 default) w a l.length c l rfl hdl (hr.mem hm) (by omega) (by omega)) ?_   -- 97
        refine ow_val (val_move rfl) rfl ?_   -- 92
        refine ow_val (val_extract rfl rfl) rfl ?_   -- 98
        refine ow_val (val_extract rfl rfl) rfl ?_   -- 99
        refine ow_do_eq (does_store_all 0 rfl rfl rfl (one_u8s _) Tryd.sizeOf43 (by show (List.map vU8 ((leafO l (xs.getD 0 default)).1)).length = _; rw [List.length_map]; exact (leafO_len (by assumption))) (by show (List.map vU8 ((rngO k l 0 (xs.getD 1 default)).1)).length = _; rw [List.length_map]; exact (rngO_len h2 (by assumption)))) ?_
        refine ow_val (val_assign rfl) rfl ?_   -- 12
        refine ow_nil (into ?_)
        refine sw_seq ?_
        refine sw_region ?_
        refine ow_val (val_load_all 1 rfl rfl Tryd.isAgg43 Tryd.sizeOf43 (by show (List.map vU8 ((leafO l (xs.getD 0 default)).1)).length = _; rw [List.length_map]; exact (leafO_len (by assumption)))) rfl ?_   -- 100
        refine ow_val (val_load_all 0 rfl rfl Tryd.isAgg43 Tryd.sizeOf43 (by show (List.map vU8 ((leafO l (xs.getD 0 default)).1)).length = _; rw [List.length_map]; exact (leafO_len (by assumption)))) rfl ?_   -- 101
        refine ow_val ((val_eql_u8s rfl rfl Tryd.eqGuardType43 Tryd.underlying43 Tryd.underlying5 Tryd.sizeOf5 Tryd.isAgg5 (leafO_len (by assumption)) (leafO_len (by assumption))).to (congrArg Value.bool (show _ = true by simp [txt]))) rfl ?_   -- 102
        refine ow_val (val_move rfl) rfl ?_   -- 103
        refine ow_guard_yes rfl rfl rfl ?_
        refine ow_val (val_move rfl) rfl ?_   -- 104
        refine ow_guard_yes rfl rfl rfl ?_
        refine ow_val (val_move rfl) rfl ?_   -- 105
        refine ow_guard_yes rfl rfl rfl ?_
        refine ow_val ((val_eql_int rfl rfl).to (v' := .bool true) (congrArg Value.bool (decide_eq_true rfl))) rfl ?_   -- 106
        refine ow_val (val_pick_true rfl rfl) rfl ?_   -- 107
        refine ow_val (val_assign rfl) rfl ?_   -- 6
        refine ow_nil (into ?_)
        refine sw_ret (fun w hm => ?_)
        try dsimp only [thenP, blockP, Nat.beq, cond]
        exact ret_one _ rfl rfl ⟨rfl, hm.forgetAll⟩
      refine lt_alt ?_ ?_
      · -- first 12
        refine lt_make (fun b => .pointer (some ⟨b, 0, none⟩)) rfl trivial (acts_alloc zD) rfl (fun _ _ _ h => h.only (.cons _ (.cons_cons _ (List.nil_sublist _)))) (fun b11 hb11 => ?_)   -- 11
        refine lt_call_pure (v := .tuple #[.agg (((rngO k l (xs.getD 0 default) (xs.getD 1 default)).1).map vU8).toArray, vInt (((rngO k l (xs.getD 0 default) (xs.getD 1 default)).2 : Nat) : Int)]) rfl trivial (callsTo Tryd.func20 rfl (by kernel_rfl) rfl) rfl (fun w hm => rrange_any k h1 h2 (xs.getD 0 default) (xs.getD 1 default) w a l.length c l rfl hdl (by assumption) (hr.mem hm) (by omega) (by omega)) (fun _ _ h => h.only (.cons _ (.cons_cons _ (List.nil_sublist _)))) ?_   -- 48
        refine lt_pure rfl trivial (val_move rfl) rfl ?_   -- 39
        refine lt_pure rfl trivial (val_extract rfl rfl) rfl ?_   -- 49
        refine lt_pure rfl trivial (val_extract rfl rfl) rfl ?_   -- 50
        refine lt_do rfl trivial (does_store_all 0 rfl rfl rfl (one_u8s _) Tryd.sizeOf43 (by show (List.map vU8 ((rngO k l (xs.getD 0 default) (xs.getD 1 default)).1)).length = _; rw [List.length_map]; exact (rngO_len h2 (by assumption))) (by show (List.map vU8 zeros32).length = _; rw [List.length_map]; exact zeros32_len)) (fun _ _ _ _ h => h.only (.cons _ (.cons_cons _ (List.nil_sublist _)))) (fun _ _ => ?_)
        refine lt_pure rfl trivial (val_assign rfl) rfl ?_   -- 12
        refine lt_done (into ?_)
        refine sw_seq ?_
        refine sw_seq ?_
        refine sw_region ?_
        refine ow_val (val_load_all 1 rfl rfl Tryd.isAgg43 Tryd.sizeOf43 (by show (List.map vU8 ((rngO k l (xs.getD 0 default) (xs.getD 1 default)).1)).length = _; rw [List.length_map]; exact (rngO_len h2 (by assumption)))) rfl ?_   -- 51
        refine ow_val (val_load_all 0 rfl rfl Tryd.isAgg43 Tryd.sizeOf43 (by show (List.map vU8 ((rngO k l (xs.getD 0 default) (xs.getD 1 default)).1)).length = _; rw [List.length_map]; exact (rngO_len h2 (by assumption)))) rfl ?_   -- 52
        refine ow_val ((val_neq_u8s rfl rfl Tryd.eqGuardType43 Tryd.underlying43 Tryd.underlying5 Tryd.sizeOf5 Tryd.isAgg5 (rngO_len h2 (by assumption)) (rngO_len h2 (by assumption))).to (congrArg Value.bool (show _ = false by simp [txt]))) rfl ?_   -- 53
        refine ow_val (val_move rfl) rfl ?_   -- 54
        refine ow_guard_yes rfl rfl rfl ?_
        refine ow_val (val_move rfl) rfl ?_   -- 55
        refine ow_guard_yes rfl rfl rfl ?_
        refine ow_val (val_move rfl) rfl ?_   -- 56
        refine ow_guard_yes rfl rfl rfl ?_
        refine ow_val ((val_neq_int rfl rfl).to (v' := .bool false) (congrArg Value.bool (decide_eq_false (fun h => h rfl)))) rfl ?_   -- 57
        refine ow_val (val_pick_false rfl rfl) rfl ?_   -- 58
        refine ow_nil (into ?_)
        refine sw_false rfl rfl ?_
        refine sw_skip (into ?_)
        refine sw_seq ?_
        refine sw_region ?_
        refine ow_val (val_move rfl) rfl ?_   -- 60
        refine ow_val (val_move rfl) rfl ?_   -- 61
        refine ow_val (val_indexAddr_slice (1) (ox + 1) rfl rfl Tryd.underlying39 Tryd.sizeOf46 (by omega) (by omega) (by omega)) rfl ?_   -- 62
        refine ow_val (val_load rfl Tryd.isAgg46 (fun w' hm => Rd.get (p := xs) (k := 1) (hx.mem hm) (by omega) (by omega))) rfl ?_   -- 63
        refine ow_call_pure (v := .tuple #[.agg (((rngO k l 0 (xs.getD 1 default)).1).map vU8).toArray, vInt (((rngO k l 0 (xs.getD 1 default)).2 : Nat) : Int)]) (callsTo Tryd.func21 rfl (by kernel_rfl) rfl) rfl (fun w hm => root_any k h1 h2 b18 l (by assumption) (by assumption) (xs.getD 1 default) w (hK.mem0 hm) (htr18.is (hm.heldSub (.cons _ (.cons _ (List.Sublist.refl _))))) (by omega)) ?_   -- 64
        refine ow_val (val_move rfl) rfl ?_   -- 59
        refine ow_val (val_extract rfl rfl) rfl ?_   -- 65
        refine ow_val (val_extract rfl rfl) rfl ?_   -- 66
        refine ow_do_eq (does_store_all 1 rfl rfl rfl (one_u8s _) Tryd.sizeOf43 (by show (List.map vU8 ((rngO k l 0 (xs.getD 1 default)).1)).length = _; rw [List.length_map]; exact (rngO_len h2 (by assumption))) (by show (List.map vU8 ((rngO k l (xs.getD 0 default) (xs.getD 1 default)).1)).length = _; rw [List.length_map]; exact (rngO_len h2 (by assumption)))) ?_
        refine ow_val (val_assign rfl) rfl ?_   -- 10
        refine ow_nil (into ?_)
        refine sw_seq ?_
        refine sw_region ?_
        refine ow_val (val_move rfl) rfl ?_   -- 68
        refine ow_val (val_move rfl) rfl ?_   -- 69
        refine ow_val (val_move rfl) rfl ?_   -- 70
        refine ow_val (val_indexAddr_slice (1) (ox + 1) rfl rfl Tryd.underlying39 Tryd.sizeOf46 (by omega) (by omega) (by omega)) rfl ?_   -- 71
        refine ow_val (val_load rfl Tryd.isAgg46 (fun w' hm => Rd.get (p := xs) (k := 1) (hx.mem hm) (by omega) (by omega))) rfl ?_   -- 72
        refine ow_call_pure (v := .tuple #[.agg (((rngO k l 0 (xs.getD 1 default)).1).map vU8).toArray, vInt (((rngO k l 0 (xs.getD 1 default)).2 : Nat) : Int)]) (callsTo Tryd.func20 rfl (by kernel_rfl) rfl) rfl (fun w hm => rrange_any k h1 h2 0 (xs.getD 1 default) w a l.length c l rfl hdl (by assumption) (hr.mem hm) (by omega) (by omega)) ?_   -- 73
        refine ow_val (val_move rfl) rfl ?_   -- 67
        refine ow_val (val_extract rfl rfl) rfl ?_   -- 74
        refine ow_val (val_extract rfl rfl) rfl ?_   -- 75
        refine ow_do_eq (does_store_all 0 rfl rfl rfl (one_u8s _) Tryd.sizeOf43 (by show (List.map vU8 ((rngO k l 0 (xs.getD 1 default)).1)).length = _; rw [List.length_map]; exact (rngO_len h2 (by assumption))) (by show (List.map vU8 ((rngO k l (xs.getD 0 default) (xs.getD 1 default)).1)).length = _; rw [List.length_map]; exact (rngO_len h2 (by assumption)))) ?_
        refine ow_val (val_assign rfl) rfl ?_   -- 12
        refine ow_nil (into ?_)
        refine sw_seq ?_
        refine sw_seq ?_
        refine sw_region ?_
        refine ow_val (val_load_all 1 rfl rfl Tryd.isAgg43 Tryd.sizeOf43 (by show (List.map vU8 ((rngO k l 0 (xs.getD 1 default)).1)).length = _; rw [List.length_map]; exact (rngO_len h2 (by assumption)))) rfl ?_   -- 76
        refine ow_val (val_load_all 0 rfl rfl Tryd.isAgg43 Tryd.sizeOf43 (by show (List.map vU8 ((rngO k l 0 (xs.getD 1 default)).1)).length = _; rw [List.length_map]; exact (rngO_len h2 (by assumption)))) rfl ?_   -- 77
        refine ow_val ((val_neq_u8s rfl rfl Tryd.eqGuardType43 Tryd.underlying43 Tryd.underlying5 Tryd.sizeOf5 Tryd.isAgg5 (rngO_len h2 (by assumption)) (rngO_len h2 (by assumption))).to (congrArg Value.bool (show _ = false by simp [txt]))) rfl ?_   -- 78
        refine ow_val (val_move rfl) rfl ?_   -- 79
        refine ow_guard_yes rfl rfl rfl ?_
        refine ow_val (val_move rfl) rfl ?_   -- 80
        refine ow_guard_yes rfl rfl rfl ?_
        refine ow_val (val_move rfl) rfl ?_   -- 81
        refine ow_guard_yes rfl rfl rfl ?_
        refine ow_val ((val_neq_int rfl rfl).to (v' := .bool false) (congrArg Value.bool (decide_eq_false (fun h => h rfl)))) rfl ?_   -- 82
        refine ow_val (val_pick_false rfl rfl) rfl ?_   -- 83
        refine ow_nil (into ?_)
        refine sw_false rfl rfl ?_
        refine sw_skip (into ?_)
        refine sw_seq ?_
        refine sw_region ?_
        refine ow_val (val_move rfl) rfl ?_   -- 85
        refine ow_val (val_move rfl) rfl ?_   -- 86
        refine ow_val (val_indexAddr_slice (0) (ox) rfl rfl Tryd.underlying39 Tryd.sizeOf46 (by omega) (by omega) (by omega)) rfl ?_   -- 87
        refine ow_val (val_load rfl Tryd.isAgg46 (fun w' hm => Rd.get (p := xs) (k := 0) (hx.mem hm) (by omega) (by omega))) rfl ?_   -- 88
        refine ow_call_pure (v := .tuple #[.agg (((leafO l (xs.getD 0 default)).1).map vU8).toArray, vInt (((leafO l (xs.getD 0 default)).2 : Nat) : Int)]) (callsTo Tryd.func22 rfl (by kernel_rfl) rfl) rfl (fun w hm => tleaf_any k h1 h2 b18 l (by assumption) (xs.getD 0 default) w (htr18.is (hm.heldSub (.cons _ (.cons _ (List.Sublist.refl _))))) (by omega)) ?_   -- 89
        refine ow_val (val_move rfl) rfl ?_   -- 84
        refine ow_val (val_extract rfl rfl) rfl ?_   -- 90
        refine ow_val (val_extract rfl rfl) rfl ?_   -- 91
        refine ow_do_eq (does_store_all 1 rfl rfl rfl (one_u8s _) Tryd.sizeOf43 (by show (List.map vU8 ((leafO l (xs.getD 0 default)).1)).length = _; rw [List.length_map]; exact (leafO_len (by assumption))) (by show (List.map vU8 ((rngO k l 0 (xs.getD 1 default)).1)).length = _; rw [List.length_map]; exact (rngO_len h2 (by assumption)))) ?_
        refine ow_val (val_assign rfl) rfl ?_   -- 10
        refine ow_nil (into ?_)
        refine sw_seq ?_
        refine sw_region ?_
        refine ow_val (val_move rfl) rfl ?_   -- 93
        refine ow_val (val_move rfl) rfl ?_   -- 94
        refine ow_val (val_indexAddr_slice (0) (ox) rfl rfl Tryd.underlying39 Tryd.sizeOf46 (by omega) (by omega) (by omega)) rfl ?_   -- 95
        refine ow_val (val_load rfl Tryd.isAgg46 (fun w' hm => Rd.get (p := xs) (k := 0) (hx.mem hm) (by omega) (by omega))) rfl ?_   -- 96
        refine ow_call_pure (v := .tuple #[.agg (((leafO l (xs.getD 0 default)).1).map vU8).toArray, vInt (((leafO l (xs.getD 0 default)).2 : Nat) : Int)]) (callsTo Tryd.func23 rfl (by kernel_rfl) rfl) rfl (fun w hm => rleaf_any (xs.getD 0 default) w a l.length c l rfl hdl (hr.mem hm) (by omega) (by omega)) ?_   -- 97
        refine ow_val (val_move rfl) rfl ?_   -- 92
        refine ow_val (val_extract rfl rfl) rfl ?_   -- 98
        refine ow_val (val_extract rfl rfl) rfl ?_   -- 99
        refine ow_do_eq (does_store_all 0 rfl rfl rfl (one_u8s _) Tryd.sizeOf43 (by show (List.map vU8 ((leafO l (xs.getD 0 default)).1)).length = _; rw [List.length_map]; exact (leafO_len (by assumption))) (by show (List.map vU8 ((rngO k l 0 (xs.getD 1 default)).1)).length = _; rw [List.length_map]; exact (rngO_len h2 (by assumption)))) ?_
        refine ow_val (val_assign rfl) rfl ?_   -- 12
        refine ow_nil (into ?_)
        refine sw_seq ?_
        refine sw_region ?_
        refine ow_val (val_load_all 1 rfl rfl Tryd.isAgg43 Tryd.sizeOf43 (by show (List.map vU8 ((leafO l (xs.getD 0 default)).1)).length = _; rw [List.length_map]; exact (leafO_len (by assumption)))) rfl ?_   -- 100
        refine ow_val (val_load_all 0 rfl rfl Tryd.isAgg43 Tryd.sizeOf43 (by show (List.map vU8 ((leafO l (xs.getD 0 default)).1)).length = _; rw [List.length_map]; exact (leafO_len (by assumption)))) rfl ?_   -- 101
        refine ow_val ((val_eql_u8s rfl rfl Tryd.eqGuardType43 Tryd.underlying43 Tryd.underlying5 Tryd.sizeOf5 Tryd.isAgg5 (leafO_len (by assumption)) (leafO_len (by assumption))).to (congrArg Value.bool (show _ = true by simp [txt]))) rfl ?_   -- 102
        refine ow_val (val_move rfl) rfl ?_   -- 103
        refine ow_guard_yes rfl rfl rfl ?_
        refine ow_val (val_move rfl) rfl ?_   -- 104
        refine ow_guard_yes rfl rfl rfl ?_
        refine ow_val (val_move rfl) rfl ?_   -- 105
        refine ow_guard_yes rfl rfl rfl ?_
        refine ow_val ((val_eql_int rfl rfl).to (v' := .bool true) (congrArg Value.bool (decide_eq_true rfl))) rfl ?_   -- 106
        refine ow_val (val_pick_true rfl rfl) rfl ?_   -- 107
        refine ow_val (val_assign rfl) rfl ?_   -- 6
        refine ow_nil (into ?_)
        refine sw_ret (fun w hm => ?_)
        try dsimp only [thenP, blockP, Nat.beq, cond]
        exact ret_one _ rfl rfl ⟨rfl, hm.forgetAll⟩
      exact lt_stop
    refine lt_alt ?_ ?_
    · -- first 11
      refine lt_make (fun b => .pointer (some ⟨b, 0, none⟩)) rfl trivial (acts_alloc zD) rfl (fun _ _ _ h => h.only (List.nil_sublist _)) (fun b9 hb9 => ?_)   -- 9
      refine lt_call_pure (v := .tuple #[.agg (((rngO k l (xs.getD 0 default) (xs.getD 1 default)).1).map vU8).toArray, vInt (((rngO k l (xs.getD 0 default) (xs.getD 1 default)).2 : Nat) : Int)]) rfl trivial (callsTo Tryd.func19 rfl (by kernel_rfl) rfl) rfl (fun w hm => range_any k h1 h2 b18 l (by assumption) (by assumption) (xs.getD 0 default) (xs.getD 1 default) w (hK.mem0 hm) (htr18.is (hm.heldSub (.cons _ (List.Sublist.refl _)))) (by omega)) (fun _ _ h => h.only (List.nil_sublist _)) ?_   -- 36
      refine lt_pure rfl trivial (val_move rfl) rfl ?_   -- 28
      refine lt_pure rfl trivial (val_extract rfl rfl) rfl ?_   -- 37
      refine lt_pure rfl trivial (val_extract rfl rfl) rfl ?_   -- 38
      refine lt_do rfl trivial (does_store_all 0 rfl rfl rfl (one_u8s _) Tryd.sizeOf43 (by show (List.map vU8 ((rngO k l (xs.getD 0 default) (xs.getD 1 default)).1)).length = _; rw [List.length_map]; exact (rngO_len h2 (by assumption))) (by show (List.map vU8 zeros32).length = _; rw [List.length_map]; exact zeros32_len)) (fun _ _ _ _ h => h.only (List.nil_sublist _)) (fun _ _ => ?_)
      refine lt_pure rfl trivial (val_assign rfl) rfl ?_   -- 10
      refine lt_done (into ?_)
      refine sw_seq ?_
      refine sw_region_tree (Mem w [] [some (b9, blk (((rngO k l (xs.getD 0 default) (xs.getD 1 default)).1).map vU8) 43)]) [] (.one 0 0 (.one 1 0 (.one 2 0 (.one 3 0 (.one 5 0 (.one 6 0 (.one 4 1 (.one 7 1 (.alt 8 (.one 9 0 (.one 10 0 (.one 11 0 (.one 12 2 (.one 13 2 (.one 14 0 .done)))))) (.alt 12 (.one 8 2 (.one 9 0 (.one 10 0 (.one 11 0 (.one 13 2 (.one 14 0 .done)))))) .stop)))))))))) (by kernel_rfl) (by kernel_rfl) (fun _ _ _ h => h) (fun _ h => h.only (.cons_cons _ (List.nil_sublist _))) (fun _ h => h.drawn _) ?_
      refine lt_pure rfl trivial (val_move rfl) rfl ?_   -- 40
      refine lt_pure rfl trivial (val_move rfl) rfl ?_   -- 41
      refine lt_pure rfl trivial (val_move rfl) rfl ?_   -- 42
      refine lt_pure rfl trivial (val_indexAddr_slice (0) (ox) rfl rfl Tryd.underlying39 Tryd.sizeOf46 (by omega) (by omega) (by omega)) rfl ?_   -- 43
      refine lt_pure rfl trivial (val_move rfl) rfl ?_   -- 45
      refine lt_pure rfl trivial (val_indexAddr_slice (1) (ox + 1) rfl rfl Tryd.underlying39 Tryd.sizeOf46 (by omega) (by omega) (by omega)) rfl ?_   -- 46
      refine lt_held rfl trivial (val_load rfl Tryd.isAgg46 (fun w' hm => Rd.get (p := xs) (k := 0) (hx.mem hm) (by omega) (by omega))) rfl ?_   -- 44
      refine lt_held rfl trivial (val_load rfl Tryd.isAgg46 (fun w' hm => Rd.get (p := xs) (k := 1) (hx.mem hm) (by omega) (by omega))) rfl ?_   -- 47
      refine lt_alt ?_ ?_
      · -- first 8
        refine lt_call_pure (v := .tuple #[.agg (((rngO k l (xs.getD 0 default) (xs.getD 1 default)).1).map vU8).toArray, vInt (((rngO k l (xs.getD 0 default) (xs.getD 1 default)).2 : Nat) : Int)]) rfl trivial (callsTo Tryd.func20 rfl (by kernel_rfl) rfl) rfl (fun w hm => rrange_any k h1 h2 (xs.getD 0 default) (xs.getD 1 default) w a l.length c l rfl hdl (by assumption) (hr.mem hm) (by omega) (by omega)) (fun _ _ h => h.only (.cons_cons _ (List.nil_sublist _))) ?_   -- 48
        refine lt_pure rfl trivial (val_move rfl) rfl ?_   -- 39
        refine lt_pure rfl trivial (val_extract rfl rfl) rfl ?_   -- 49
        refine lt_pure rfl trivial (val_extract rfl rfl) rfl ?_   -- 50
        refine lt_make (fun b => .pointer (some ⟨b, 0, none⟩)) rfl trivial (acts_alloc zD) rfl (fun _ _ _ h => h.only (.cons _ (.cons_cons _ (List.nil_sublist _)))) (fun b11 hb11 => ?_)   -- 11
        refine lt_do rfl trivial (does_store_all 0 rfl rfl rfl (one_u8s _) Tryd.sizeOf43 (by show (List.map vU8 ((rngO k l (xs.getD 0 default) (xs.getD 1 default)).1)).length = _; rw [List.length_map]; exact (rngO_len h2 (by assumption))) (by show (List.map vU8 zeros32).length = _; rw [List.length_map]; exact zeros32_len)) (fun _ _ _ _ h => h.only (.cons _ (.cons_cons _ (List.nil_sublist _)))) (fun _ _ => ?_)
        refine lt_pure rfl trivial (val_assign rfl) rfl ?_   -- 12
        refine lt_done (into ?_)
        refine sw_seq ?_
        refine sw_seq ?_
        refine sw_region ?_
        refine ow_val (val_load_all 1 rfl rfl Tryd.isAgg43 Tryd.sizeOf43 (by show (List.map vU8 ((rngO k l (xs.getD 0 default) (xs.getD 1 default)).1)).length = _; rw [List.length_map]; exact (rngO_len h2 (by assumption)))) rfl ?_   -- 51
        refine ow_val (val_load_all 0 rfl rfl Tryd.isAgg43 Tryd.sizeOf43 (by show (List.map vU8 ((rngO k l (xs.getD 0 default) (xs.getD 1 default)).1)).length = _; rw [List.length_map]; exact (rngO_len h2 (by assumption)))) rfl ?_   -- 52
        refine ow_val ((val_neq_u8s rfl rfl Tryd.eqGuardType43 Tryd.underlying43 Tryd.underlying5 Tryd.sizeOf5 Tryd.isAgg5 (rngO_len h2 (by assumption)) (rngO_len h2 (by assumption))).to (congrArg Value.bool (show _ = false by simp [txt]))) rfl ?_   -- 53
        refine ow_val (val_move rfl) rfl ?_   -- 54
        refine ow_guard_yes rfl rfl rfl ?_
        refine ow_val (val_move rfl) rfl ?_   -- 55
        refine ow_guard_yes rfl rfl rfl ?_
        refine ow_val (val_move rfl) rfl ?_   -- 56
        refine ow_guard_yes rfl rfl rfl ?_
        refine ow_val ((val_neq_int rfl rfl).to (v' := .bool false) (congrArg Value.bool (decide_eq_false (fun h => h rfl)))) rfl ?_   -- 57
        refine ow_val (val_pick_false rfl rfl) rfl ?_   -- 58
        refine ow_nil (into ?_)
        refine sw_false rfl rfl ?_
        refine sw_skip (into ?_)
        refine sw_seq ?_
        refine sw_region ?_
        refine ow_val (val_move rfl) rfl ?_   -- 60
        refine ow_val (val_move rfl) rfl ?_   -- 61
        refine ow_val (val_indexAddr_slice (1) (ox + 1) rfl rfl Tryd.underlying39 Tryd.sizeOf46 (by omega) (by omega) (by omega)) rfl ?_   -- 62
        refine ow_val (val_load rfl Tryd.isAgg46 (fun w' hm => Rd.get (p := xs) (k := 1) (hx.mem hm) (by omega) (by omega))) rfl ?_   -- 63
        refine ow_call_pure (v := .tuple #[.agg (((rngO k l 0 (xs.getD 1 default)).1).map vU8).toArray, vInt (((rngO k l 0 (xs.getD 1 default)).2 : Nat) : Int)]) (callsTo Tryd.func21 rfl (by kernel_rfl) rfl) rfl (fun w hm => root_any k h1 h2 b18 l (by assumption) (by assumption) (xs.getD 1 default) w (hK.mem0 hm) (htr18.is (hm.heldSub (.cons _ (.cons _ (List.Sublist.refl _))))) (by omega)) ?_   -- 64
        refine ow_val (val_move rfl) rfl ?_   -- 59
        refine ow_val (val_extract rfl rfl) rfl ?_   -- 65
        refine ow_val (val_extract rfl rfl) rfl ?_   -- 66
        refine ow_do_eq (does_store_all 1 rfl rfl rfl (one_u8s _) Tryd.sizeOf43 (by show (List.map vU8 ((rngO k l 0 (xs.getD 1 default)).1)).length = _; rw [List.length_map]; exact (rngO_len h2 (by assumption))) (by show (List.map vU8 ((rngO k l (xs.getD 0 default) (xs.getD 1 default)).1)).length = _; rw [List.length_map]; exact (rngO_len h2 (by assumption)))) ?_
        refine ow_val (val_assign rfl) rfl ?_   -- 10
        refine ow_nil (into ?_)
        refine sw_seq ?_
        refine sw_region ?_
        refine ow_val (val_move rfl) rfl ?_   -- 68
        refine ow_val (val_move rfl) rfl ?_   -- 69
        refine ow_val (val_move rfl) rfl ?_   -- 70
        refine ow_val (val_indexAddr_slice (1) (ox + 1) rfl rfl Tryd.underlying39 Tryd.sizeOf46 (by omega) (by omega) (by omega)) rfl ?_   -- 71
        refine ow_val (val_load rfl Tryd.isAgg46 (fun w' hm => Rd.get (p := xs) (k := 1) (hx.mem hm) (by omega) (by omega))) rfl ?_   -- 72
        refine ow_call_pure (v := .tuple #[.agg (((rngO k l 0 (xs.getD 1 default)).1).map vU8).toArray, vInt (((rngO k l 0 (xs.getD 1 default)).2 : Nat) : Int)]) (callsTo Tryd.func20 rfl (by kernel_rfl) rfl) rfl (fun w hm => rrange_any k h1 h2 0 (xs.getD 1 default) w a l.length c l rfl hdl (by assumption) (hr.mem hm) (by omega) (by omega)) ?_   -- 73
        refine ow_val (val_move rfl) rfl ?_   -- 67
        refine ow_val (val_extract rfl rfl) rfl ?_   -- 74
        refine ow_val (val_extract rfl rfl) rfl ?_   -- 75
        refine ow_do_eq (does_store_all 0 rfl rfl rfl (one_u8s _) Tryd.sizeOf43 (by show (List.map vU8 ((rngO k l 0 (xs.getD 1 default)).1)).length = _; rw [List.length_map]; exact (rngO_len h2 (by assumption))) (by show (List.map vU8 ((rngO k l (xs.getD 0 default) (xs.getD 1 default)).1)).length = _; rw [List.length_map]; exact (rngO_len h2 (by assumption)))) ?_
        refine ow_val (val_assign rfl) rfl ?_   -- 12
        refine ow_nil (into ?_)
        refine sw_seq ?_
        refine sw_seq ?_
        refine sw_region ?_
        refine ow_val (val_load_all 1 rfl rfl Tryd.isAgg43 Tryd.sizeOf43 (by show (List.map vU8 ((rngO k l 0 (xs.getD 1 default)).1)).length = _; rw [List.length_map]; exact (rngO_len h2 (by assumption)))) rfl ?_   -- 76
        refine ow_val (val_load_all 0 rfl rfl Tryd.isAgg43 Tryd.sizeOf43 (by show (List.map vU8 ((rngO k l 0 (xs.getD 1 default)).1)).length = _; rw [List.length_map]; exact (rngO_len h2 (by assumption)))) rfl ?_   -- 77
        refine ow_val ((val_neq_u8s rfl rfl Tryd.eqGuardType43 Tryd.underlying43 Tryd.underlying5 Tryd.sizeOf5 Tryd.isAgg5 (rngO_len h2 (by assumption)) (rngO_len h2 (by assumption))).to (congrArg Value.bool (show _ = false by simp [txt]))) rfl ?_   -- 78
        refine ow_val (val_move rfl) rfl ?_   -- 79
        refine ow_guard_yes rfl rfl rfl ?_
        refine ow_val (val_move rfl) rfl ?_   -- 80
        refine ow_guard_yes rfl rfl rfl ?_
        refine ow_val (val_move rfl) rfl ?_   -- 81
        refine ow_guard_yes rfl rfl rfl ?_
        refine ow_val ((val_neq_int rfl rfl).to (v' := .bool false) (congrArg Value.bool (decide_eq_false (fun h => h rfl)))) rfl ?_   -- 82
        refine ow_val (val_pick_false rfl rfl) rfl ?_   -- 83
        refine ow_nil (into ?_)
        refine sw_false rfl rfl ?_
        refine sw_skip (into ?_)
        refine sw_seq ?_
        refine sw_region ?_
        refine ow_val (val_move rfl) rfl ?_   -- 85
        refine ow_val (val_move rfl) rfl ?_   -- 86
        refine ow_val (val_indexAddr_slice (0) (ox) rfl rfl Tryd.underlying39 Tryd.sizeOf46 (by omega) (by omega) (by omega)) rfl ?_   -- 87
        refine ow_val (val_load rfl Tryd.isAgg46 (fun w' hm => Rd.get (p := xs) (k := 0) (hx.mem hm) (by omega) (by omega))) rfl ?_   -- 88
        refine ow_call_pure (v := .tuple #[.agg (((leafO l (xs.getD 0 default)).1).map vU8).toArray, vInt (((leafO l (xs.getD 0 default)).2 : Nat) : Int)]) (callsTo Tryd.func22 rfl (by kernel_rfl) rfl) rfl (fun w hm => tleaf_any k h1 h2 b18 l (by assumption) (xs.getD 0 default) w (htr18.is (hm.heldSub (.cons _ (.cons _ (List.Sublist.refl _))))) (by omega)) ?_   -- 89
        refine ow_val (val_move rfl) rfl ?_   -- 84
        refine ow_val (val_extract rfl rfl) rfl ?_   -- 90
        refine ow_val (val_extract rfl rfl) rfl ?_   -- 91
        refine ow_do_eq (does_store_all 1 rfl rfl rfl (one_u8s _) Tryd.sizeOf43 (by show (List.map vU8 ((leafO l (xs.getD 0 default)).1)).length = _; rw [List.length_map]; exact (leafO_len (by assumption))) (by show (List.map vU8 ((rngO k l 0 (xs.getD 1 default)).1)).length = _; rw [List.length_map]; exact (rngO_len h2 (by assumption)))) ?_
        refine ow_val (val_assign rfl) rfl ?_   -- 10
        refine ow_nil (into ?_)
        refine sw_seq ?_
        refine sw_region ?_
        refine ow_val (val_move rfl) rfl ?_   -- 93
        refine ow_val (val_move rfl) rfl ?_   -- 94
        refine ow_val (val_indexAddr_slice (0) (ox) rfl rfl Tryd.underlying39 Tryd.sizeOf46 (by omega) (by omega) (by omega)) rfl ?_   -- 95
        refine ow_val (val_load rfl Tryd.isAgg46 (fun w' hm => Rd.get (p := xs) (k := 0) (hx.mem hm) (by omega) (by omega))) rfl ?_   -- 96
        refine ow_call_pure (v := .tuple #[.agg (((leafO l (xs.getD 0 default)).1).map vU8).toArray, vInt (((leafO l (xs.getD 0 default)).2 : Nat) : Int)]) (callsTo Tryd.func23 rfl (by kernel_rfl) rfl) rfl (fun w hm => rleaf_any (xs.getD 0 default) w a l.length c l rfl hdl (hr.mem hm) (by omega) (by omega)) ?_   -- 97
        refine ow_val (val_move rfl) rfl ?_   -- 92
        refine ow_val (val_extract rfl rfl) rfl ?_   -- 98
        refine ow_val (val_extract rfl rfl) rfl ?_   -- 99
        refine ow_do_eq (does_store_all 0 rfl rfl rfl (one_u8s _) Tryd.sizeOf43 (by show (List.map vU8 ((leafO l (xs.getD 0 default)).1)).length = _; rw [List.length_map]; exact (leafO_len (by assumption))) (by show (List.map vU8 ((rngO k l 0 (xs.getD 1 default)).1)).length = _; rw [List.length_map]; exact (rngO_len h2 (by assumption)))) ?_
        refine ow_val (val_assign rfl) rfl ?_   -- 12
        refine ow_nil (into ?_)
        refine sw_seq ?_
        refine sw_region ?_
        refine ow_val (val_load_all 1 rfl rfl Tryd.isAgg43 Tryd.sizeOf43 (by show (List.map vU8 ((leafO l (xs.getD 0 default)).1)).length = _; rw [List.length_map]; exact (leafO_len (by assumption)))) rfl ?_   -- 100
        refine ow_val (val_load_all 0 rfl rfl Tryd.isAgg43 Tryd.sizeOf43 (by show (List.map vU8 ((leafO l (xs.getD 0 default)).1)).length = _; rw [List.length_map]; exact (leafO_len (by assumption)))) rfl ?_   -- 101
        refine ow_val ((val_eql_u8s rfl rfl Tryd.eqGuardType43 Tryd.underlying43 Tryd.underlying5 Tryd.sizeOf5 Tryd.isAgg5 (leafO_len (by assumption)) (leafO_len (by assumption))).to (congrArg Value.bool (show _ = true by simp [txt]))) rfl ?_   -- 102
        refine ow_val (val_move rfl) rfl ?_   -- 103
        refine ow_guard_yes rfl rfl rfl ?_
        refine ow_val (val_move rfl) rfl ?_   -- 104
        refine ow_guard_yes rfl rfl rfl ?_
        refine ow_val (val_move rfl) rfl ?_   -- 105
        refine ow_guard_yes rfl rfl rfl ?_
        refine ow_val ((val_eql_int rfl rfl).to (v' := .bool true) (congrArg Value.bool (decide_eq_true rfl))) rfl ?_   -- 106
        refine ow_val (val_pick_true rfl rfl) rfl ?_   -- 107
        refine ow_val (val_assign rfl) rfl ?_   -- 6
        refine ow_nil (into ?_)
        refine sw_ret (fun w hm => ?_)
        try dsimp only [thenP, blockP, Nat.beq, cond]
        exact ret_one _ rfl rfl ⟨rfl, hm.forgetAll⟩
      refine lt_alt ?_ ?_
      · -- first 12
        refine lt_make (fun b => .pointer (some ⟨b, 0, none⟩)) rfl trivial (acts_alloc zD) rfl (fun _ _ _ h => h.only (.cons _ (.cons_cons _ (List.nil_sublist _)))) (fun b11 hb11 => ?_)   -- 11
        refine lt_call_pure (v := .tuple #[.agg (((rngO k l (xs.getD 0 default) (xs.getD 1 default)).1).map vU8).toArray, vInt (((rngO k l (xs.getD 0 default) (xs.getD 1 default)).2 : Nat) : Int)]) rfl trivial (callsTo Tryd.func20 rfl (by kernel_rfl) rfl) rfl (fun w hm => rrange_any k h1 h2 (xs.getD 0 default) (xs.getD 1 default) w a l.length c l rfl hdl (by assumption) (hr.mem hm) (by omega) (by omega)) (fun _ _ h => h.only (.cons _ (.cons_cons _ (List.nil_sublist _)))) ?_   -- 48
        refine lt_pure rfl trivial (val_move rfl) rfl ?_   -- 39
        refine lt_pure rfl trivial (val_extract rfl rfl) rfl ?_   -- 49
        refine lt_pure rfl trivial (val_extract rfl rfl) rfl ?_   -- 50
        refine lt_do rfl trivial (does_store_all 0 rfl rfl rfl (one_u8s _) Tryd.sizeOf43 (by show (List.map vU8 ((rngO k l (xs.getD 0 default) (xs.getD 1 default)).1)).length = _; rw [List.length_map]; exact (rngO_len h2 (by assumption))) (by show (List.map vU8 zeros32).length = _; rw [List.length_map]; exact zeros32_len)) (fun _ _ _ _ h => h.only (.cons _ (.cons_cons _ (List.nil_sublist _)))) (fun _ _ => ?_)
        refine lt_pure rfl trivial (val_assign rfl) rfl ?_   -- 12
        refine lt_done (into ?_)
        refine sw_seq ?_
        refine sw_seq ?_
        refine sw_region ?_
        refine ow_val (val_load_all 1 rfl rfl Tryd.isAgg43 Tryd.sizeOf43 (by show (List.map vU8 ((rngO k l (xs.getD 0 default) (xs.getD 1 default)).1)).length = _; rw [List.length_map]; exact (rngO_len h2 (by assumption)))) rfl ?_   -- 51
        refine ow_val (val_load_all 0 rfl rfl Tryd.isAgg43 Tryd.sizeOf43 (by show (List.map vU8 ((rngO k l (xs.getD 0 default) (xs.getD 1 default)).1)).length = _; rw [List.length_map]; exact (rngO_len h2 (by assumption)))) rfl ?_   -- 52
        refine ow_val ((val_neq_u8s rfl rfl Tryd.eqGuardType43 Tryd.underlying43 Tryd.underlying5 Tryd.sizeOf5 Tryd.isAgg5 (rngO_len h2 (by assumption)) (rngO_len h2 (by assumption))).to (congrArg Value.bool (show _ = false by simp [txt]))) rfl ?_   -- 53
        refine ow_val (val_move rfl) rfl ?_   -- 54
        refine ow_guard_yes rfl rfl rfl ?_
        refine ow_val (val_move rfl) rfl ?_   -- 55
        refine ow_guard_yes rfl rfl rfl ?_
        refine ow_val (val_move rfl) rfl ?_   -- 56
        refine ow_guard_yes rfl rfl rfl ?_
        refine ow_val ((val_neq_int rfl rfl).to (v' := .bool false) (congrArg Value.bool (decide_eq_false (fun h => h rfl)))) rfl ?_   -- 57
        refine ow_val (val_pick_false rfl rfl) rfl ?_   -- 58
        refine ow_nil (into ?_)
        refine sw_false rfl rfl ?_
        refine sw_skip (into ?_)
        refine sw_seq ?_
        refine sw_region ?_
        refine ow_val (val_move rfl) rfl ?_   -- 60
        refine ow_val (val_move rfl) rfl ?_   -- 61
        refine ow_val (val_indexAddr_slice (1) (ox + 1) rfl rfl Tryd.underlying39 Tryd.sizeOf46 (by omega) (by omega) (by omega)) rfl ?_   -- 62
        refine ow_val (val_load rfl Tryd.isAgg46 (fun w' hm => Rd.get (p := xs) (k := 1) (hx.mem hm) (by omega) (by omega))) rfl ?_   -- 63
        refine ow_call_pure (v := .tuple #[.agg (((rngO k l 0 (xs.getD 1 default)).1).map vU8).toArray, vInt (((rngO k l 0 (xs.getD 1 default)).2 : Nat) : Int)]) (callsTo Tryd.func21 rfl (by kernel_rfl) rfl) rfl (fun w hm => root_any k h1 h2 b18 l (by assumption) (by assumption) (xs.getD 1 default) w (hK.mem0 hm) (htr18.is (hm.heldSub (.cons _ (.cons _ (List.Sublist.refl _))))) (by omega)) ?_   -- 64
        refine ow_val (val_move rfl) rfl ?_   -- 59
        refine ow_val (val_extract rfl rfl) rfl ?_   -- 65
        refine ow_val (val_extract rfl rfl) rfl ?_   -- 66
        refine ow_do_eq (does_store_all 1 rfl rfl rfl (one_u8s _) Tryd.sizeOf43 (by show (List.map vU8 ((rngO k l 0 (xs.getD 1 default)).1)).length = _; rw [List.length_map]; exact (rngO_len h2 (by assumption))) (by show (List.map vU8 ((rngO k l (xs.getD 0 default) (xs.getD 1 default)).1)).length = _; rw [List.length_map]; exact (rngO_len h2 (by assumption)))) ?_
        refine ow_val (val_assign rfl) rfl ?_   -- 10
        refine ow_nil (into ?_)
        refine sw_seq ?_
        refine sw_region ?_
        refine ow_val (val_move rfl) rfl ?_   -- 68
        refine ow_val (val_move rfl) rfl ?_   -- 69
        refine ow_val (val_move rfl) rfl ?_   -- 70
        refine ow_val (val_indexAddr_slice (1) (ox + 1) rfl rfl Tryd.underlying39 Tryd.sizeOf46 (by omega) (by omega) (by omega)) rfl ?_   -- 71
        refine ow_val (val_load rfl Tryd.isAgg46 (fun w' hm => Rd.get (p := xs) (k := 1) (hx.mem hm) (by omega) (by omega))) rfl ?_   -- 72
        refine ow_call_pure (v := .tuple #[.agg (((rngO k l 0 (xs.getD 1 default)).1).map vU8).toArray, vInt (((rngO k l 0 (xs.getD 1 default)).2 : Nat) : Int)]) (callsTo Tryd.func20 rfl (by kernel_rfl) rfl) rfl (fun w hm => rrange_any k h1 h2 0 (xs.getD 1 default) w a l.length c l rfl hdl (by assumption) (hr.mem hm) (by omega) (by omega)) ?_   -- 73
        refine ow_val (val_move rfl) rfl ?_   -- 67
        refine ow_val (val_extract rfl rfl) rfl ?_   -- 74
        refine ow_val (val_extract rfl rfl) rfl ?_   -- 75
        refine ow_do_eq (does_store_all 0 rfl rfl rfl (one_u8s _) Tryd.sizeOf43 (by show (List.map vU8 ((rngO k l 0 (xs.getD 1 default)).1)).length = _; rw [List.length_map]; exact (rngO_len h2 (by assumption))) (by show (List.map vU8 ((rngO k l (xs.getD 0 default) (xs.getD 1 default)).1)).length = _; rw [List.length_map]; exact (rngO_len h2 (by assumption)))) ?_
        refine ow_val (val_assign rfl) rfl ?_   -- 12
        refine ow_nil (into ?_)
        refine sw_seq ?_
        refine sw_seq ?_
        refine sw_region ?_
        refine ow_val (val_load_all 1 rfl rfl Tryd.isAgg43 Tryd.sizeOf43 (by show (List.map vU8 ((rngO k l 0 (xs.getD 1 default)).1)).length = _; rw [List.length_map]; exact (rngO_len h2 (by assumption)))) rfl ?_   -- 76
        refine ow_val (val_load_all 0 rfl rfl Tryd.isAgg43 Tryd.sizeOf43 (by show (List.map vU8 ((rngO k l 0 (xs.getD 1 default)).1)).length = _; rw [List.length_map]; exact (rngO_len h2 (by assumption)))) rfl ?_   -- 77
        refine ow_val ((val_neq_u8s rfl rfl Tryd.eqGuardType43 Tryd.underlying43 Tryd.underlying5 Tryd.sizeOf5 Tryd.isAgg5 (rngO_len h2 (by assumption)) (rngO_len h2 (by assumption))).to (congrArg Value.bool (show _ = false by simp [txt]))) rfl ?_   -- 78
        refine ow_val (val_move rfl) rfl ?_   -- 79
        refine ow_guard_yes rfl rfl rfl ?_
        refine ow_val (val_move rfl) rfl ?_   -- 80
        refine ow_guard_yes rfl rfl rfl ?_
        refine ow_val (val_move rfl) rfl ?_   -- 81
        refine ow_guard_yes rfl rfl rfl ?_
        refine ow_val ((val_neq_int rfl rfl).to (v' := .bool false) (congrArg Value.bool (decide_eq_false (fun h => h rfl)))) rfl ?_   -- 82
        refine ow_val (val_pick_false rfl rfl) rfl ?_   -- 83
        refine ow_nil (into ?_)
        refine sw_false rfl rfl ?_
        refine sw_skip (into ?_)
        refine sw_seq ?_
        refine sw_region ?_
        refine ow_val (val_move rfl) rfl ?_   -- 85
        refine ow_val (val_move rfl) rfl ?_   -- 86
        refine ow_val (val_indexAddr_slice (0) (ox) rfl rfl Tryd.underlying39 Tryd.sizeOf46 (by omega) (by omega) (by omega)) rfl ?_   -- 87
        refine ow_val (val_load rfl Tryd.isAgg46 (fun w' hm => Rd.get (p := xs) (k := 0) (hx.mem hm) (by omega) (by omega))) rfl ?_   -- 88
        refine ow_call_pure (v := .tuple #[.agg (((leafO l (xs.getD 0 default)).1).map vU8).toArray, vInt (((leafO l (xs.getD 0 default)).2 : Nat) : Int)]) (callsTo Tryd.func22 rfl (by kernel_rfl) rfl) rfl (fun w hm => tleaf_any k h1 h2 b18 l (by assumption) (xs.getD 0 default) w (htr18.is (hm.heldSub (.cons _ (.cons _ (List.Sublist.refl _))))) (by omega)) ?_   -- 89
        refine ow_val (val_move rfl) rfl ?_   -- 84
        refine ow_val (val_extract rfl rfl) rfl ?_   -- 90
        refine ow_val (val_extract rfl rfl) rfl ?_   -- 91
        refine ow_do_eq (does_store_all 1 rfl rfl rfl (one_u8s _) Tryd.sizeOf43 (by show (List.map vU8 ((leafO l (xs.getD 0 default)).1)).length = _; rw [List.length_map]; exact (leafO_len (by assumption))) (by show (List.map vU8 ((rngO k l 0 (xs.getD 1 default)).1)).length = _; rw [List.length_map]; exact (rngO_len h2 (by assumption)))) ?_
        refine ow_val (val_assign rfl) rfl ?_   -- 10
        refine ow_nil (into ?_)
        refine sw_seq ?_
        refine sw_region ?_
        refine ow_val (val_move rfl) rfl ?_   -- 93
        refine ow_val (val_move rfl) rfl ?_   -- 94
        refine ow_val (val_indexAddr_slice (0) (ox) rfl rfl Tryd.underlying39 Tryd.sizeOf46 (by omega) (by omega) (by omega)) rfl ?_   -- 95
        refine ow_val (val_load rfl Tryd.isAgg46 (fun w' hm => Rd.get (p := xs) (k := 0) (hx.mem hm) (by omega) (by omega))) rfl ?_   -- 96
        refine ow_call_pure (v := .tuple #[.agg (((leafO l (xs.getD 0 default)).1).map vU8).toArray, vInt (((leafO l (xs.getD 0 default)).2 : Nat) : Int)]) (callsTo Tryd.func23 rfl (by kernel_rfl) rfl) rfl (fun w hm => rleaf_any (xs.getD 0 default) w a l.length c l rfl hdl (hr.mem hm) (by omega) (by omega)) ?_   -- 97
        refine ow_val (val_move rfl) rfl ?_   -- 92
        refine ow_val (val_extract rfl rfl) rfl ?_   -- 98
        refine ow_val (val_extract rfl rfl) rfl ?_   -- 99
        refine ow_do_eq (does_store_all 0 rfl rfl rfl (one_u8s _) Tryd.sizeOf43 (by show (List.map vU8 ((leafO l (xs.getD 0 default)).1)).length = _; rw [List.length_map]; exact (leafO_len (by assumption))) (by show (List.map vU8 ((rngO k l 0 (xs.getD 1 default)).1)).length = _; rw [List.length_map]; exact (rngO_len h2 (by assumption)))) ?_
        refine ow_val (val_assign rfl) rfl ?_   -- 12
        refine ow_nil (into ?_)
        refine sw_seq ?_
        refine sw_region ?_
        refine ow_val (val_load_all 1 rfl rfl Tryd.isAgg43 Tryd.sizeOf43 (by show (List.map vU8 ((leafO l (xs.getD 0 default)).1)).length = _; rw [List.length_map]; exact (leafO_len (by assumption)))) rfl ?_   -- 100
        refine ow_val (val_load_all 0 rfl rfl Tryd.isAgg43 Tryd.sizeOf43 (by show (List.map vU8 ((leafO l (xs.getD 0 default)).1)).length = _; rw [List.length_map]; exact (leafO_len (by assumption)))) rfl ?_   -- 101
        refine ow_val ((val_eql_u8s rfl rfl Tryd.eqGuardType43 Tryd.underlying43 Tryd.underlying5 Tryd.sizeOf5 Tryd.isAgg5 (leafO_len (by assumption)) (leafO_len (by assumption))).to (congrArg Value.bool (show _ = true by simp [txt]))) rfl ?_   -- 102
        refine ow_val (val_move rfl) rfl ?_   -- 103
        refine ow_guard_yes rfl rfl rfl ?_
        refine ow_val (val_move rfl) rfl ?_   -- 104
        refine ow_guard_yes rfl rfl rfl ?_
        refine ow_val (val_move rfl) rfl ?_   -- 105
        refine ow_guard_yes rfl rfl rfl ?_
        refine ow_val ((val_eql_int rfl rfl).to (v' := .bool true) (congrArg Value.bool (decide_eq_true rfl))) rfl ?_   -- 106
        refine ow_val (val_pick_true rfl rfl) rfl ?_   -- 107
        refine ow_val (val_assign rfl) rfl ?_   -- 6
        refine ow_nil (into ?_)
        refine sw_ret (fun w hm => ?_)
        try dsimp only [thenP, blockP, Nat.beq, cond]
        exact ret_one _ rfl rfl ⟨rfl, hm.forgetAll⟩
      exact lt_stop
    exact lt_stop

theorem mtreeRanges_any (v0 : Int) (w : World) (hK : KW w) (a : Option Addr) (c : Nat) (l : List (List UInt8)) (hdl : ∀ d ∈ l, d.length = 32) (hr : Rd w a (l.flatMap fun d => d.map vU8)) (hc : l.length ≤ c) (hl : l.length < 9223372036854775808) (ax : Option Addr) (cx : Nat) (xs : List UInt64) (hx : Rd w ax (xs.map vU64)) (hxc : xs.length ≤ cx) (hxl : xs.length < 9223372036854775808) : Calls Tryd.prog 4 #[vInt v0, .slice a l.length c, .slice ax xs.length cx] w fun e w' => ∃ v, e = .returned v ∧ v = .bool true ∧ Mem w [] [] w' := by
  by_cases hno : l.length ≤ 400 ∧ fitO v0 l = true
  · obtain ⟨h4, hf⟩ := hno
    obtain ⟨hwd, hfl⟩ := fitO_iff.1 hf
    have h9 := wd_iff.1 hwd
    obtain ⟨k, rfl⟩ : ∃ k : Nat, v0 = (k : Int) := ⟨v0.toNat, by omega⟩
    exact ranges_go k (by omega) (by omega) w hK a c l hdl hr hc hl hfl ax cx xs hx hxc hxl h4
  · exact ranges_none v0 w hK a c l hdl hr hc hl ax cx xs hx hxc hxl hno

theorem empty_no (v0 : Int) (hwd : wd v0 = false) (w : World) (hK : KW w) (a : Option Addr) (c : Nat) (l : List (List UInt8)) (hdl : ∀ d ∈ l, d.length = 32) (hr : Rd w a (l.flatMap fun d => d.map vU8)) (hc : l.length ≤ c) (hl : l.length < 9223372036854775808) (ax : Option Addr) (cx : Nat) (xs : List UInt64) (hx : Rd w ax (xs.map vU64)) (hxc : xs.length ≤ cx) (hxl : xs.length < 9223372036854775808) : Calls Tryd.prog 5 #[vInt v0, .slice a l.length c, .slice ax xs.length cx] w fun e w' => ∃ v, e = .returned v ∧ v = .bool true ∧ Mem w [] [] w' := by
  refine calls_of_sw (vs := [vInt v0, .slice a l.length c, .slice ax xs.length cx]) Tryd.func5 rfl Tryd.ntmps5 rfl (SW.begin ?_)
  refine sw_seq ?_
  refine sw_region ?_
  refine ow_val (val_assign rfl) rfl ?_   -- 6
  refine ow_nil (into ?_)
  refine sw_seq ?_
  refine sw_seq ?_
  refine sw_region ?_
  refine ow_call_pure (v := .bool true) (callsTo Tryd.func12 rfl (by kernel_rfl) rfl) rfl (fun w hm => awake_any w (hK.mem0 hm)) ?_   -- 18
  refine ow_val (val_not rfl) rfl ?_   -- 19
  refine ow_val (val_move rfl) rfl ?_   -- 20
  refine ow_guard_yes rfl rfl rfl ?_
  refine ow_val (val_move rfl) rfl ?_   -- 21
  refine ow_guard_yes rfl rfl rfl ?_
  refine ow_val (val_len rfl Tryd.underlying39) rfl ?_   -- 22
  by_cases hx2 : xs.length < 2
  · -- yes
    refine ow_guard_yes rfl rfl rfl ?_
    refine ow_val ((val_lss_int rfl rfl).to (congrArg Value.bool (decide_eq_true (by omega)))) rfl ?_   -- 23
    refine ow_val (val_pick_false rfl rfl) rfl ?_   -- 24
    refine ow_nil (into ?_)
    refine sw_true rfl rfl ?_
    refine sw_seq ?_
    refine sw_region ?_
    refine ow_call_pure (v := .bool true) (callsTo Tryd.func12 rfl (by kernel_rfl) rfl) rfl (fun w hm => awake_any w (hK.mem0 hm)) ?_   -- 25
    refine ow_val (val_assign rfl) rfl ?_   -- 6
    refine ow_nil (into ?_)
    refine sw_ret (fun w hm => ?_)
    try dsimp only [thenP, blockP, Nat.beq, cond]
    exact ret_one _ rfl rfl ⟨rfl, hm.forgetAll⟩
  · -- no
    obtain ⟨bx, ox, rfl⟩ := hx.addr (by rw [List.length_map]; omega)
    refine ow_guard_yes rfl rfl rfl ?_
    refine ow_val ((val_lss_int rfl rfl).to (congrArg Value.bool (decide_eq_false (by omega)))) rfl ?_   -- 23
    refine ow_val (val_pick_false rfl rfl) rfl ?_   -- 24
    refine ow_nil (into ?_)
    refine sw_false rfl rfl ?_
    refine sw_skip (into ?_)
    refine sw_seq ?_
    refine sw_region ?_
    refine ow_val (val_assign rfl) rfl ?_   -- 7
    refine ow_nil (into ?_)
    refine sw_seq ?_
    refine sw_region ?_
    refine ow_val (val_move rfl) rfl ?_   -- 27
    refine ow_val (val_move rfl) rfl ?_   -- 28
    refine ow_call_pure (v := .tuple #[.pointer none, vInt ((5 : Nat) : Int)]) (callsTo Tryd.func16 rfl (by kernel_rfl) rfl) rfl (fun w hm => append_nil _ _ _ w) ?_   -- 29
    refine ow_val (val_move rfl) rfl ?_   -- 26
    refine ow_val (val_extract rfl rfl) rfl ?_   -- 30
    refine ow_val (val_extract rfl rfl) rfl ?_   -- 31
    refine ow_val (val_assign rfl) rfl ?_   -- 8
    refine ow_val (val_assign rfl) rfl ?_   -- 9
    refine ow_nil (into ?_)
    refine sw_seq ?_
    refine sw_region ?_
    refine ow_val (val_move rfl) rfl ?_   -- 33
    refine ow_val (val_move rfl) rfl ?_   -- 34
    refine ow_val (val_indexAddr_slice (0) (ox) rfl rfl Tryd.underlying39 Tryd.sizeOf46 (by omega) (by omega) (by omega)) rfl ?_   -- 35
    refine ow_val (val_load rfl Tryd.isAgg46 (fun w' hm => Rd.get (p := xs) (k := 0) (hx.mem hm) (by omega) (by omega))) rfl ?_   -- 36
    refine ow_call_pure (v := .tuple #[.agg ((zeros32).map vU8).toArray, vInt ((5 : Nat) : Int)]) (callsTo Tryd.func22 rfl (by kernel_rfl) rfl) rfl (fun w hm => leaf_nil (xs.getD 0 default) w) ?_   -- 37
    refine ow_val (val_move rfl) rfl ?_   -- 32
    refine ow_val (val_extract rfl rfl) rfl ?_   -- 38
    refine ow_val (val_extract rfl rfl) rfl ?_   -- 39
    refine ow_new (acts_alloc zD) rfl (fun b10 hb10 => ?_)   -- 10
    refine ow_do_eq (does_store_all 0 rfl rfl rfl (one_u8s _) Tryd.sizeOf43 (by show (List.map vU8 zeros32).length = _; rw [List.length_map]; exact zeros32_len) (by show (List.map vU8 zeros32).length = _; rw [List.length_map]; exact zeros32_len)) ?_
    refine ow_val (val_assign rfl) rfl ?_   -- 11
    refine ow_nil (into ?_)
    refine sw_seq ?_
    refine sw_region_tree (Mem w [] [some (b10, blk (zeros32.map vU8) 43)]) [] (.one 0 0 (.one 1 0 (.one 2 0 (.one 4 0 (.one 5 0 (.one 3 1 (.one 6 1 (.alt 7 (.one 8 0 (.one 9 0 (.one 10 0 (.one 11 2 (.one 12 2 (.one 13 0 .done)))))) (.alt 11 (.one 7 2 (.one 8 0 (.one 9 0 (.one 10 0 (.one 12 2 (.one 13 0 .done)))))) .stop))))))))) (by kernel_rfl) (by kernel_rfl) (fun _ _ _ h => h) (fun _ h => h.only (.cons_cons _ (List.nil_sublist _))) (fun _ h => h.drawn _) ?_
    refine lt_pure rfl trivial (val_move rfl) rfl ?_   -- 41
    refine lt_pure rfl trivial (val_move rfl) rfl ?_   -- 42
    refine lt_pure rfl trivial (val_indexAddr_slice (0) (ox) rfl rfl Tryd.underlying39 Tryd.sizeOf46 (by omega) (by omega) (by omega)) rfl ?_   -- 43
    refine lt_pure rfl trivial (val_move rfl) rfl ?_   -- 45
    refine lt_pure rfl trivial (val_indexAddr_slice (1) (ox + 1) rfl rfl Tryd.underlying39 Tryd.sizeOf46 (by omega) (by omega) (by omega)) rfl ?_   -- 46
    refine lt_held rfl trivial (val_load rfl Tryd.isAgg46 (fun w' hm => Rd.get (p := xs) (k := 0) (hx.mem hm) (by omega) (by omega))) rfl ?_   -- 44
    refine lt_held rfl trivial (val_load rfl Tryd.isAgg46 (fun w' hm => Rd.get (p := xs) (k := 1) (hx.mem hm) (by omega) (by omega))) rfl ?_   -- 47
    refine lt_alt ?_ ?_
    · -- first 7
      refine lt_call_pure (v := .tuple #[.agg ((zeros32).map vU8).toArray, vInt ((5 : Nat) : Int)]) rfl trivial (callsTo Tryd.func19 rfl (by kernel_rfl) rfl) rfl (fun w hm => range_nil (xs.getD 0 default) (xs.getD 1 default) w) (fun _ _ h => h.only (.cons_cons _ (List.nil_sublist _))) ?_   -- 48
      refine lt_pure rfl trivial (val_move rfl) rfl ?_   -- 40
      refine lt_pure rfl trivial (val_extract rfl rfl) rfl ?_   -- 49
      refine lt_pure rfl trivial (val_extract rfl rfl) rfl ?_   -- 50
      refine lt_make (fun b => .pointer (some ⟨b, 0, none⟩)) rfl trivial (acts_alloc zD) rfl (fun _ _ _ h => h.only (.cons _ (.cons_cons _ (List.nil_sublist _)))) (fun b12 hb12 => ?_)   -- 12
      refine lt_do rfl trivial (does_store_all 0 rfl rfl rfl (one_u8s _) Tryd.sizeOf43 (by show (List.map vU8 zeros32).length = _; rw [List.length_map]; exact zeros32_len) (by show (List.map vU8 zeros32).length = _; rw [List.length_map]; exact zeros32_len)) (fun _ _ _ _ h => h.only (.cons _ (.cons_cons _ (List.nil_sublist _)))) (fun _ _ => ?_)
      refine lt_pure rfl trivial (val_assign rfl) rfl ?_   -- 13
      refine lt_done (into ?_)
      refine sw_seq ?_
      refine sw_region ?_
      refine ow_val (val_move rfl) rfl ?_   -- 52
      refine ow_val (val_move rfl) rfl ?_   -- 53
      refine ow_val (val_indexAddr_slice (0) (ox) rfl rfl Tryd.underlying39 Tryd.sizeOf46 (by omega) (by omega) (by omega)) rfl ?_   -- 54
      refine ow_val (val_load rfl Tryd.isAgg46 (fun w' hm => Rd.get (p := xs) (k := 0) (hx.mem hm) (by omega) (by omega))) rfl ?_   -- 55
      refine ow_call_pure (v := .tuple #[.agg ((zeros32).map vU8).toArray, vInt ((5 : Nat) : Int)]) (callsTo Tryd.func21 rfl (by kernel_rfl) rfl) rfl (fun w hm => root_nil (xs.getD 0 default) w) ?_   -- 56
      refine ow_val (val_move rfl) rfl ?_   -- 51
      refine ow_val (val_extract rfl rfl) rfl ?_   -- 57
      refine ow_val (val_extract rfl rfl) rfl ?_   -- 58
      refine ow_new (acts_alloc zD) rfl (fun b14 hb14 => ?_)   -- 14
      refine ow_do_eq (does_store_all 0 rfl rfl rfl (one_u8s _) Tryd.sizeOf43 (by show (List.map vU8 zeros32).length = _; rw [List.length_map]; exact zeros32_len) (by show (List.map vU8 zeros32).length = _; rw [List.length_map]; exact zeros32_len)) ?_
      refine ow_val (val_assign rfl) rfl ?_   -- 15
      refine ow_nil (into ?_)
      refine sw_seq ?_
      refine sw_seq ?_
      refine sw_region ?_
      refine ow_val (val_move rfl) rfl ?_   -- 59
      refine ow_val (val_neq_nilptr Tryd.underlying24 rfl rfl) rfl ?_   -- 60
      refine ow_val (val_move rfl) rfl ?_   -- 61
      refine ow_guard_yes rfl rfl rfl ?_
      refine ow_val (val_move rfl) rfl ?_   -- 62
      refine ow_guard_yes rfl rfl rfl ?_
      refine ow_val ((val_neq_int rfl rfl).to (v' := .bool false) (congrArg Value.bool (decide_eq_false (fun h => h (by simp))))) rfl ?_   -- 63
      refine ow_val (val_pick_false rfl rfl) rfl ?_   -- 64
      refine ow_val (val_move rfl) rfl ?_   -- 65
      refine ow_guard_yes rfl rfl rfl ?_
      refine ow_val (val_move rfl) rfl ?_   -- 66
      refine ow_guard_yes rfl rfl rfl ?_
      refine ow_val ((val_neq_int rfl rfl).to (v' := .bool false) (congrArg Value.bool (decide_eq_false (fun h => h (by simp))))) rfl ?_   -- 67
      refine ow_val (val_pick_false rfl rfl) rfl ?_   -- 68
      refine ow_val (val_move rfl) rfl ?_   -- 69
      refine ow_guard_yes rfl rfl rfl ?_
      refine ow_val (val_move rfl) rfl ?_   -- 70
      refine ow_guard_yes rfl rfl rfl ?_
      refine ow_val ((val_neq_int rfl rfl).to (v' := .bool false) (congrArg Value.bool (decide_eq_false (fun h => h (by simp))))) rfl ?_   -- 71
      refine ow_val (val_pick_false rfl rfl) rfl ?_   -- 72
      refine ow_val (val_move rfl) rfl ?_   -- 73
      refine ow_guard_yes rfl rfl rfl ?_
      refine ow_val (val_move rfl) rfl ?_   -- 74
      refine ow_guard_yes rfl rfl rfl ?_
      refine ow_val ((val_neq_int rfl rfl).to (v' := .bool false) (congrArg Value.bool (decide_eq_false (fun h => h (by simp))))) rfl ?_   -- 75
      refine ow_val (val_pick_false rfl rfl) rfl ?_   -- 76
      refine ow_val (val_move rfl) rfl ?_   -- 77
      refine ow_guard_yes rfl rfl rfl ?_
      refine ow_val (val_load_all 1 rfl rfl Tryd.isAgg43 Tryd.sizeOf43 (by show (List.map vU8 zeros32).length = _; rw [List.length_map]; exact zeros32_len)) rfl ?_   -- 78
      refine ow_guard_yes rfl rfl rfl ?_
      refine ow_val (val_build' (cs := zeros32.map vU8) rfl (by kernel_rfl)) rfl ?_   -- 79
      refine ow_guard_yes rfl rfl rfl ?_
      refine ow_val ((val_neq_u8s rfl rfl Tryd.eqGuardType43 Tryd.underlying43 Tryd.underlying5 Tryd.sizeOf5 Tryd.isAgg5 zeros32_len zeros32_len).to (congrArg Value.bool (show _ = false by simp [txt]))) rfl ?_   -- 80
      refine ow_val (val_pick_false rfl rfl) rfl ?_   -- 81
      refine ow_val (val_move rfl) rfl ?_   -- 82
      refine ow_guard_yes rfl rfl rfl ?_
      refine ow_val (val_move rfl) rfl ?_   -- 83
      refine ow_guard_yes rfl rfl rfl ?_
      refine ow_call_pure (v := vU64 0) (callsTo Tryd.func24 rfl (by kernel_rfl) rfl) rfl (fun w hm => tsize_nil w) ?_   -- 84
      refine ow_guard_yes rfl rfl rfl ?_
      refine ow_val ((val_neq_u64 rfl rfl).to (congrArg Value.bool (decide_eq_false ((fun h => h rfl))))) rfl ?_   -- 85
      refine ow_val (val_pick_false rfl rfl) rfl ?_   -- 86
      refine ow_val (val_move rfl) rfl ?_   -- 87
      refine ow_guard_yes rfl rfl rfl ?_
      refine ow_val (val_move rfl) rfl ?_   -- 88
      refine ow_guard_yes rfl rfl rfl ?_
      refine ow_call_pure (v := vInt ((0 : Nat) : Int)) (callsTo Tryd.func25 rfl (by kernel_rfl) rfl) rfl (fun w hm => twidth_nil w) ?_   -- 89
      refine ow_guard_yes rfl rfl rfl ?_
      refine ow_val ((val_neq_int rfl rfl).to (v' := .bool false) (congrArg Value.bool (decide_eq_false (fun h => h rfl)))) rfl ?_   -- 90
      refine ow_val (val_pick_false rfl rfl) rfl ?_   -- 91
      refine ow_nil (into ?_)
      refine sw_false rfl rfl ?_
      refine sw_skip (into ?_)
      refine sw_seq ?_
      refine sw_region ?_
      refine ow_val (val_move rfl) rfl ?_   -- 93
      refine ow_call_pure (v := .tuple #[.pointer none, vInt ((1 : Nat) : Int)]) (callsTo Tryd.func13 rfl (by kernel_rfl) rfl) rfl (fun w hm => new_no v0 hwd w) ?_   -- 94
      refine ow_val (val_move rfl) rfl ?_   -- 92
      refine ow_val (val_extract rfl rfl) rfl ?_   -- 95
      refine ow_val (val_extract rfl rfl) rfl ?_   -- 96
      refine ow_val (val_assign rfl) rfl ?_   -- 16
      refine ow_val (val_assign rfl) rfl ?_   -- 9
      refine ow_nil (into ?_)
      refine sw_seq ?_
      refine sw_seq ?_
      refine sw_region ?_
      refine ow_val (val_move rfl) rfl ?_   -- 97
      refine ow_call_pure (v := .bool false) (callsTo Tryd.func26 rfl (by kernel_rfl) rfl) rfl (fun w hm => rwidth_is hwd w) ?_   -- 98
      refine ow_val (val_not rfl) rfl ?_   -- 99
      refine ow_nil (into ?_)
      refine sw_true rfl rfl ?_
      refine sw_seq ?_
      refine sw_region ?_
      refine ow_val (val_move rfl) rfl ?_   -- 100
      refine ow_val (val_eql_nilptr Tryd.underlying24 rfl rfl) rfl ?_   -- 101
      refine ow_val (val_move rfl) rfl ?_   -- 102
      refine ow_guard_yes rfl rfl rfl ?_
      refine ow_val (val_move rfl) rfl ?_   -- 103
      refine ow_guard_yes rfl rfl rfl ?_
      refine ow_val ((val_eql_int rfl rfl).to (v' := .bool true) (congrArg Value.bool (decide_eq_true (by simp)))) rfl ?_   -- 104
      refine ow_val (val_pick_true rfl rfl) rfl ?_   -- 105
      refine ow_val (val_assign rfl) rfl ?_   -- 6
      refine ow_nil (into ?_)
      refine sw_ret (fun w hm => ?_)
      try dsimp only [thenP, blockP, Nat.beq, cond]
      exact ret_one _ rfl rfl ⟨rfl, hm.forgetAll⟩
    refine lt_alt ?_ ?_
    · -- first 11
      refine lt_make (fun b => .pointer (some ⟨b, 0, none⟩)) rfl trivial (acts_alloc zD) rfl (fun _ _ _ h => h.only (.cons _ (.cons_cons _ (List.nil_sublist _)))) (fun b12 hb12 => ?_)   -- 12
      refine lt_call_pure (v := .tuple #[.agg ((zeros32).map vU8).toArray, vInt ((5 : Nat) : Int)]) rfl trivial (callsTo Tryd.func19 rfl (by kernel_rfl) rfl) rfl (fun w hm => range_nil (xs.getD 0 default) (xs.getD 1 default) w) (fun _ _ h => h.only (.cons _ (.cons_cons _ (List.nil_sublist _)))) ?_   -- 48
      refine lt_pure rfl trivial (val_move rfl) rfl ?_   -- 40
      refine lt_pure rfl trivial (val_extract rfl rfl) rfl ?_   -- 49
      refine lt_pure rfl trivial (val_extract rfl rfl) rfl ?_   -- 50
      refine lt_do rfl trivial (does_store_all 0 rfl rfl rfl (one_u8s _) Tryd.sizeOf43 (by show (List.map vU8 zeros32).length = _; rw [List.length_map]; exact zeros32_len) (by show (List.map vU8 zeros32).length = _; rw [List.length_map]; exact zeros32_len)) (fun _ _ _ _ h => h.only (.cons _ (.cons_cons _ (List.nil_sublist _)))) (fun _ _ => ?_)
      refine lt_pure rfl trivial (val_assign rfl) rfl ?_   -- 13
      refine lt_done (into ?_)
      refine sw_seq ?_
      refine sw_region ?_
      refine ow_val (val_move rfl) rfl ?_   -- 52
      refine ow_val (val_move rfl) rfl ?_   -- 53
      refine ow_val (val_indexAddr_slice (0) (ox) rfl rfl Tryd.underlying39 Tryd.sizeOf46 (by omega) (by omega) (by omega)) rfl ?_   -- 54
      refine ow_val (val_load rfl Tryd.isAgg46 (fun w' hm => Rd.get (p := xs) (k := 0) (hx.mem hm) (by omega) (by omega))) rfl ?_   -- 55
      refine ow_call_pure (v := .tuple #[.agg ((zeros32).map vU8).toArray, vInt ((5 : Nat) : Int)]) (callsTo Tryd.func21 rfl (by kernel_rfl) rfl) rfl (fun w hm => root_nil (xs.getD 0 default) w) ?_   -- 56
      refine ow_val (val_move rfl) rfl ?_   -- 51
      refine ow_val (val_extract rfl rfl) rfl ?_   -- 57
      refine ow_val (val_extract rfl rfl) rfl ?_   -- 58
      refine ow_new (acts_alloc zD) rfl (fun b14 hb14 => ?_)   -- 14
      refine ow_do_eq (does_store_all 0 rfl rfl rfl (one_u8s _) Tryd.sizeOf43 (by show (List.map vU8 zeros32).length = _; rw [List.length_map]; exact zeros32_len) (by show (List.map vU8 zeros32).length = _; rw [List.length_map]; exact zeros32_len)) ?_
      refine ow_val (val_assign rfl) rfl ?_   -- 15
      refine ow_nil (into ?_)
      refine sw_seq ?_
      refine sw_seq ?_
      refine sw_region ?_
      refine ow_val (val_move rfl) rfl ?_   -- 59
      refine ow_val (val_neq_nilptr Tryd.underlying24 rfl rfl) rfl ?_   -- 60
      refine ow_val (val_move rfl) rfl ?_   -- 61
      refine ow_guard_yes rfl rfl rfl ?_
      refine ow_val (val_move rfl) rfl ?_   -- 62
      refine ow_guard_yes rfl rfl rfl ?_
      refine ow_val ((val_neq_int rfl rfl).to (v' := .bool false) (congrArg Value.bool (decide_eq_false (fun h => h (by simp))))) rfl ?_   -- 63
      refine ow_val (val_pick_false rfl rfl) rfl ?_   -- 64
      refine ow_val (val_move rfl) rfl ?_   -- 65
      refine ow_guard_yes rfl rfl rfl ?_
      refine ow_val (val_move rfl) rfl ?_   -- 66
      refine ow_guard_yes rfl rfl rfl ?_
      refine ow_val ((val_neq_int rfl rfl).to (v' := .bool false) (congrArg Value.bool (decide_eq_false (fun h => h (by simp))))) rfl ?_   -- 67
      refine ow_val (val_pick_false rfl rfl) rfl ?_   -- 68
      refine ow_val (val_move rfl) rfl ?_   -- 69
      refine ow_guard_yes rfl rfl rfl ?_
      refine ow_val (val_move rfl) rfl ?_   -- 70
      refine ow_guard_yes rfl rfl rfl ?_
      refine ow_val ((val_neq_int rfl rfl).to (v' := .bool false) (congrArg Value.bool (decide_eq_false (fun h => h (by simp))))) rfl ?_   -- 71
      refine ow_val (val_pick_false rfl rfl) rfl ?_   -- 72
      refine ow_val (val_move rfl) rfl ?_   -- 73
      refine ow_guard_yes rfl rfl rfl ?_
      refine ow_val (val_move rfl) rfl ?_   -- 74
      refine ow_guard_yes rfl rfl rfl ?_
      refine ow_val ((val_neq_int rfl rfl).to (v' := .bool false) (congrArg Value.bool (decide_eq_false (fun h => h (by simp))))) rfl ?_   -- 75
      refine ow_val (val_pick_false rfl rfl) rfl ?_   -- 76
      refine ow_val (val_move rfl) rfl ?_   -- 77
      refine ow_guard_yes rfl rfl rfl ?_
      refine ow_val (val_load_all 1 rfl rfl Tryd.isAgg43 Tryd.sizeOf43 (by show (List.map vU8 zeros32).length = _; rw [List.length_map]; exact zeros32_len)) rfl ?_   -- 78
      refine ow_guard_yes rfl rfl rfl ?_
      refine ow_val (val_build' (cs := zeros32.map vU8) rfl (by kernel_rfl)) rfl ?_   -- 79
      refine ow_guard_yes rfl rfl rfl ?_
      refine ow_val ((val_neq_u8s rfl rfl Tryd.eqGuardType43 Tryd.underlying43 Tryd.underlying5 Tryd.sizeOf5 Tryd.isAgg5 zeros32_len zeros32_len).to (congrArg Value.bool (show _ = false by simp [txt]))) rfl ?_   -- 80
      refine ow_val (val_pick_false rfl rfl) rfl ?_   -- 81
      refine ow_val (val_move rfl) rfl ?_   -- 82
      refine ow_guard_yes rfl rfl rfl ?_
      refine ow_val (val_move rfl) rfl ?_   -- 83
      refine ow_guard_yes rfl rfl rfl ?_
      refine ow_call_pure (v := vU64 0) (callsTo Tryd.func24 rfl (by kernel_rfl) rfl) rfl (fun w hm => tsize_nil w) ?_   -- 84
      refine ow_guard_yes rfl rfl rfl ?_
      refine ow_val ((val_neq_u64 rfl rfl).to (congrArg Value.bool (decide_eq_false ((fun h => h rfl))))) rfl ?_   -- 85
      refine ow_val (val_pick_false rfl rfl) rfl ?_   -- 86
      refine ow_val (val_move rfl) rfl ?_   -- 87
      refine ow_guard_yes rfl rfl rfl ?_
      refine ow_val (val_move rfl) rfl ?_   -- 88
      refine ow_guard_yes rfl rfl rfl ?_
      refine ow_call_pure (v := vInt ((0 : Nat) : Int)) (callsTo Tryd.func25 rfl (by kernel_rfl) rfl) rfl (fun w hm => twidth_nil w) ?_   -- 89
      refine ow_guard_yes rfl rfl rfl ?_
      refine ow_val ((val_neq_int rfl rfl).to (v' := .bool false) (congrArg Value.bool (decide_eq_false (fun h => h rfl)))) rfl ?_   -- 90
      refine ow_val (val_pick_false rfl rfl) rfl ?_   -- 91
      refine ow_nil (into ?_)
      refine sw_false rfl rfl ?_
      refine sw_skip (into ?_)
      refine sw_seq ?_
      refine sw_region ?_
      refine ow_val (val_move rfl) rfl ?_   -- 93
      refine ow_call_pure (v := .tuple #[.pointer none, vInt ((1 : Nat) : Int)]) (callsTo Tryd.func13 rfl (by kernel_rfl) rfl) rfl (fun w hm => new_no v0 hwd w) ?_   -- 94
      refine ow_val (val_move rfl) rfl ?_   -- 92
      refine ow_val (val_extract rfl rfl) rfl ?_   -- 95
      refine ow_val (val_extract rfl rfl) rfl ?_   -- 96
      refine ow_val (val_assign rfl) rfl ?_   -- 16
      refine ow_val (val_assign rfl) rfl ?_   -- 9
      refine ow_nil (into ?_)
      refine sw_seq ?_
      refine sw_seq ?_
      refine sw_region ?_
      refine ow_val (val_move rfl) rfl ?_   -- 97
      refine ow_call_pure (v := .bool false) (callsTo Tryd.func26 rfl (by kernel_rfl) rfl) rfl (fun w hm => rwidth_is hwd w) ?_   -- 98
      refine ow_val (val_not rfl) rfl ?_   -- 99
      refine ow_nil (into ?_)
      refine sw_true rfl rfl ?_
      refine sw_seq ?_
      refine sw_region ?_
      refine ow_val (val_move rfl) rfl ?_   -- 100
      refine ow_val (val_eql_nilptr Tryd.underlying24 rfl rfl) rfl ?_   -- 101
      refine ow_val (val_move rfl) rfl ?_   -- 102
      refine ow_guard_yes rfl rfl rfl ?_
      refine ow_val (val_move rfl) rfl ?_   -- 103
      refine ow_guard_yes rfl rfl rfl ?_
      refine ow_val ((val_eql_int rfl rfl).to (v' := .bool true) (congrArg Value.bool (decide_eq_true (by simp)))) rfl ?_   -- 104
      refine ow_val (val_pick_true rfl rfl) rfl ?_   -- 105
      refine ow_val (val_assign rfl) rfl ?_   -- 6
      refine ow_nil (into ?_)
      refine sw_ret (fun w hm => ?_)
      try dsimp only [thenP, blockP, Nat.beq, cond]
      exact ret_one _ rfl rfl ⟨rfl, hm.forgetAll⟩
    exact lt_stop

theorem empty_yes (k : Nat) (h1 : 1 ≤ k) (h2 : k ≤ 32) (w : World) (hK : KW w) (a : Option Addr) (c : Nat) (l : List (List UInt8)) (hdl : ∀ d ∈ l, d.length = 32) (hr : Rd w a (l.flatMap fun d => d.map vU8)) (hc : l.length ≤ c) (hl : l.length < 9223372036854775808) (ax : Option Addr) (cx : Nat) (xs : List UInt64) (hx : Rd w ax (xs.map vU64)) (hxc : xs.length ≤ cx) (hxl : xs.length < 9223372036854775808) : Calls Tryd.prog 5 #[vInt (k : Int), .slice a l.length c, .slice ax xs.length cx] w fun e w' => ∃ v, e = .returned v ∧ v = .bool true ∧ Mem w [] [] w' := by
  have hwd : wd (k : Int) = true := wd_iff.2 (by omega)
  have hn0 : ∀ d ∈ ([] : List (List UInt8)), d.length = 32 := fun _ h => by cases h
  have hn1 : ∀ d ∈ ([] : List (List UInt8)), fm (k : Int) d = true := fun _ h => by cases h
  have hnn : ([] : List (List UInt8)).length = 0 := rfl
  refine calls_of_sw (vs := [vInt (k : Int), .slice a l.length c, .slice ax xs.length cx]) Tryd.func5 rfl Tryd.ntmps5 rfl (SW.begin ?_)
  refine sw_seq ?_
  refine sw_region ?_
  refine ow_val (val_assign rfl) rfl ?_   -- 6
  refine ow_nil (into ?_)
  refine sw_seq ?_
  refine sw_seq ?_
  refine sw_region ?_
  refine ow_call_pure (v := .bool true) (callsTo Tryd.func12 rfl (by kernel_rfl) rfl) rfl (fun w hm => awake_any w (hK.mem0 hm)) ?_   -- 18
  refine ow_val (val_not rfl) rfl ?_   -- 19
  refine ow_val (val_move rfl) rfl ?_   -- 20
  refine ow_guard_yes rfl rfl rfl ?_
  refine ow_val (val_move rfl) rfl ?_   -- 21
  refine ow_guard_yes rfl rfl rfl ?_
  refine ow_val (val_len rfl Tryd.underlying39) rfl ?_   -- 22
  by_cases hx2 : xs.length < 2
  · -- yes
    refine ow_guard_yes rfl rfl rfl ?_
    refine ow_val ((val_lss_int rfl rfl).to (congrArg Value.bool (decide_eq_true (by omega)))) rfl ?_   -- 23
    refine ow_val (val_pick_false rfl rfl) rfl ?_   -- 24
    refine ow_nil (into ?_)
    refine sw_true rfl rfl ?_
    refine sw_seq ?_
    refine sw_region ?_
    refine ow_call_pure (v := .bool true) (callsTo Tryd.func12 rfl (by kernel_rfl) rfl) rfl (fun w hm => awake_any w (hK.mem0 hm)) ?_   -- 25
    refine ow_val (val_assign rfl) rfl ?_   -- 6
    refine ow_nil (into ?_)
    refine sw_ret (fun w hm => ?_)
    try dsimp only [thenP, blockP, Nat.beq, cond]
    exact ret_one _ rfl rfl ⟨rfl, hm.forgetAll⟩
  · -- no
    obtain ⟨bx, ox, rfl⟩ := hx.addr (by rw [List.length_map]; omega)
    refine ow_guard_yes rfl rfl rfl ?_
    refine ow_val ((val_lss_int rfl rfl).to (congrArg Value.bool (decide_eq_false (by omega)))) rfl ?_   -- 23
    refine ow_val (val_pick_false rfl rfl) rfl ?_   -- 24
    refine ow_nil (into ?_)
    refine sw_false rfl rfl ?_
    refine sw_skip (into ?_)
    refine sw_seq ?_
    refine sw_region ?_
    refine ow_val (val_assign rfl) rfl ?_   -- 7
    refine ow_nil (into ?_)
    refine sw_seq ?_
    refine sw_region ?_
    refine ow_val (val_move rfl) rfl ?_   -- 27
    refine ow_val (val_move rfl) rfl ?_   -- 28
    refine ow_call_pure (v := .tuple #[.pointer none, vInt ((5 : Nat) : Int)]) (callsTo Tryd.func16 rfl (by kernel_rfl) rfl) rfl (fun w hm => append_nil _ _ _ w) ?_   -- 29
    refine ow_val (val_move rfl) rfl ?_   -- 26
    refine ow_val (val_extract rfl rfl) rfl ?_   -- 30
    refine ow_val (val_extract rfl rfl) rfl ?_   -- 31
    refine ow_val (val_assign rfl) rfl ?_   -- 8
    refine ow_val (val_assign rfl) rfl ?_   -- 9
    refine ow_nil (into ?_)
    refine sw_seq ?_
    refine sw_region ?_
    refine ow_val (val_move rfl) rfl ?_   -- 33
    refine ow_val (val_move rfl) rfl ?_   -- 34
    refine ow_val (val_indexAddr_slice (0) (ox) rfl rfl Tryd.underlying39 Tryd.sizeOf46 (by omega) (by omega) (by omega)) rfl ?_   -- 35
    refine ow_val (val_load rfl Tryd.isAgg46 (fun w' hm => Rd.get (p := xs) (k := 0) (hx.mem hm) (by omega) (by omega))) rfl ?_   -- 36
    refine ow_call_pure (v := .tuple #[.agg ((zeros32).map vU8).toArray, vInt ((5 : Nat) : Int)]) (callsTo Tryd.func22 rfl (by kernel_rfl) rfl) rfl (fun w hm => leaf_nil (xs.getD 0 default) w) ?_   -- 37
    refine ow_val (val_move rfl) rfl ?_   -- 32
    refine ow_val (val_extract rfl rfl) rfl ?_   -- 38
    refine ow_val (val_extract rfl rfl) rfl ?_   -- 39
    refine ow_new (acts_alloc zD) rfl (fun b10 hb10 => ?_)   -- 10
    refine ow_do_eq (does_store_all 0 rfl rfl rfl (one_u8s _) Tryd.sizeOf43 (by show (List.map vU8 zeros32).length = _; rw [List.length_map]; exact zeros32_len) (by show (List.map vU8 zeros32).length = _; rw [List.length_map]; exact zeros32_len)) ?_
    refine ow_val (val_assign rfl) rfl ?_   -- 11
    refine ow_nil (into ?_)
    refine sw_seq ?_
    refine sw_region_tree (Mem w [] [some (b10, blk (zeros32.map vU8) 43)]) [] (.one 0 0 (.one 1 0 (.one 2 0 (.one 4 0 (.one 5 0 (.one 3 1 (.one 6 1 (.alt 7 (.one 8 0 (.one 9 0 (.one 10 0 (.one 11 2 (.one 12 2 (.one 13 0 .done)))))) (.alt 11 (.one 7 2 (.one 8 0 (.one 9 0 (.one 10 0 (.one 12 2 (.one 13 0 .done)))))) .stop))))))))) (by kernel_rfl) (by kernel_rfl) (fun _ _ _ h => h) (fun _ h => h.only (.cons_cons _ (List.nil_sublist _))) (fun _ h => h.drawn _) ?_
    refine lt_pure rfl trivial (val_move rfl) rfl ?_   -- 41
    refine lt_pure rfl trivial (val_move rfl) rfl ?_   -- 42
    refine lt_pure rfl trivial (val_indexAddr_slice (0) (ox) rfl rfl Tryd.underlying39 Tryd.sizeOf46 (by omega) (by omega) (by omega)) rfl ?_   -- 43
    refine lt_pure rfl trivial (val_move rfl) rfl ?_   -- 45
    refine lt_pure rfl trivial (val_indexAddr_slice (1) (ox + 1) rfl rfl Tryd.underlying39 Tryd.sizeOf46 (by omega) (by omega) (by omega)) rfl ?_   -- 46
    refine lt_held rfl trivial (val_load rfl Tryd.isAgg46 (fun w' hm => Rd.get (p := xs) (k := 0) (hx.mem hm) (by omega) (by omega))) rfl ?_   -- 44
    refine lt_held rfl trivial (val_load rfl Tryd.isAgg46 (fun w' hm => Rd.get (p := xs) (k := 1) (hx.mem hm) (by omega) (by omega))) rfl ?_   -- 47
    refine lt_alt ?_ ?_
    · -- first 7
      refine lt_call_pure (v := .tuple #[.agg ((zeros32).map vU8).toArray, vInt ((5 : Nat) : Int)]) rfl trivial (callsTo Tryd.func19 rfl (by kernel_rfl) rfl) rfl (fun w hm => range_nil (xs.getD 0 default) (xs.getD 1 default) w) (fun _ _ h => h.only (.cons_cons _ (List.nil_sublist _))) ?_   -- 48
      refine lt_pure rfl trivial (val_move rfl) rfl ?_   -- 40
      refine lt_pure rfl trivial (val_extract rfl rfl) rfl ?_   -- 49
      refine lt_pure rfl trivial (val_extract rfl rfl) rfl ?_   -- 50
      refine lt_make (fun b => .pointer (some ⟨b, 0, none⟩)) rfl trivial (acts_alloc zD) rfl (fun _ _ _ h => h.only (.cons _ (.cons_cons _ (List.nil_sublist _)))) (fun b12 hb12 => ?_)   -- 12
      refine lt_do rfl trivial (does_store_all 0 rfl rfl rfl (one_u8s _) Tryd.sizeOf43 (by show (List.map vU8 zeros32).length = _; rw [List.length_map]; exact zeros32_len) (by show (List.map vU8 zeros32).length = _; rw [List.length_map]; exact zeros32_len)) (fun _ _ _ _ h => h.only (.cons _ (.cons_cons _ (List.nil_sublist _)))) (fun _ _ => ?_)
      refine lt_pure rfl trivial (val_assign rfl) rfl ?_   -- 13
      refine lt_done (into ?_)
      refine sw_seq ?_
      refine sw_region ?_
      refine ow_val (val_move rfl) rfl ?_   -- 52
      refine ow_val (val_move rfl) rfl ?_   -- 53
      refine ow_val (val_indexAddr_slice (0) (ox) rfl rfl Tryd.underlying39 Tryd.sizeOf46 (by omega) (by omega) (by omega)) rfl ?_   -- 54
      refine ow_val (val_load rfl Tryd.isAgg46 (fun w' hm => Rd.get (p := xs) (k := 0) (hx.mem hm) (by omega) (by omega))) rfl ?_   -- 55
      refine ow_call_pure (v := .tuple #[.agg ((zeros32).map vU8).toArray, vInt ((5 : Nat) : Int)]) (callsTo Tryd.func21 rfl (by kernel_rfl) rfl) rfl (fun w hm => root_nil (xs.getD 0 default) w) ?_   -- 56
      refine ow_val (val_move rfl) rfl ?_   -- 51
      refine ow_val (val_extract rfl rfl) rfl ?_   -- 57
      refine ow_val (val_extract rfl rfl) rfl ?_   -- 58
      refine ow_new (acts_alloc zD) rfl (fun b14 hb14 => ?_)   -- 14
      refine ow_do_eq (does_store_all 0 rfl rfl rfl (one_u8s _) Tryd.sizeOf43 (by show (List.map vU8 zeros32).length = _; rw [List.length_map]; exact zeros32_len) (by show (List.map vU8 zeros32).length = _; rw [List.length_map]; exact zeros32_len)) ?_
      refine ow_val (val_assign rfl) rfl ?_   -- 15
      refine ow_nil (into ?_)
      refine sw_seq ?_
      refine sw_seq ?_
      refine sw_region ?_
      refine ow_val (val_move rfl) rfl ?_   -- 59
      refine ow_val (val_neq_nilptr Tryd.underlying24 rfl rfl) rfl ?_   -- 60
      refine ow_val (val_move rfl) rfl ?_   -- 61
      refine ow_guard_yes rfl rfl rfl ?_
      refine ow_val (val_move rfl) rfl ?_   -- 62
      refine ow_guard_yes rfl rfl rfl ?_
      refine ow_val ((val_neq_int rfl rfl).to (v' := .bool false) (congrArg Value.bool (decide_eq_false (fun h => h (by simp))))) rfl ?_   -- 63
      refine ow_val (val_pick_false rfl rfl) rfl ?_   -- 64
      refine ow_val (val_move rfl) rfl ?_   -- 65
      refine ow_guard_yes rfl rfl rfl ?_
      refine ow_val (val_move rfl) rfl ?_   -- 66
      refine ow_guard_yes rfl rfl rfl ?_
      refine ow_val ((val_neq_int rfl rfl).to (v' := .bool false) (congrArg Value.bool (decide_eq_false (fun h => h (by simp))))) rfl ?_   -- 67
      refine ow_val (val_pick_false rfl rfl) rfl ?_   -- 68
      refine ow_val (val_move rfl) rfl ?_   -- 69
      refine ow_guard_yes rfl rfl rfl ?_
      refine ow_val (val_move rfl) rfl ?_   -- 70
      refine ow_guard_yes rfl rfl rfl ?_
      refine ow_val ((val_neq_int rfl rfl).to (v' := .bool false) (congrArg Value.bool (decide_eq_false (fun h => h (by simp))))) rfl ?_   -- 71
      refine ow_val (val_pick_false rfl rfl) rfl ?_   -- 72
      refine ow_val (val_move rfl) rfl ?_   -- 73
      refine ow_guard_yes rfl rfl rfl ?_
      refine ow_val (val_move rfl) rfl ?_   -- 74
      refine ow_guard_yes rfl rfl rfl ?_
      refine ow_val ((val_neq_int rfl rfl).to (v' := .bool false) (congrArg Value.bool (decide_eq_false (fun h => h (by simp))))) rfl ?_   -- 75
      refine ow_val (val_pick_false rfl rfl) rfl ?_   -- 76
      refine ow_val (val_move rfl) rfl ?_   -- 77
      refine ow_guard_yes rfl rfl rfl ?_
      refine ow_val (val_load_all 1 rfl rfl Tryd.isAgg43 Tryd.sizeOf43 (by show (List.map vU8 zeros32).length = _; rw [List.length_map]; exact zeros32_len)) rfl ?_   -- 78
      refine ow_guard_yes rfl rfl rfl ?_
      refine ow_val (val_build' (cs := zeros32.map vU8) rfl (by kernel_rfl)) rfl ?_   -- 79
      refine ow_guard_yes rfl rfl rfl ?_
      refine ow_val ((val_neq_u8s rfl rfl Tryd.eqGuardType43 Tryd.underlying43 Tryd.underlying5 Tryd.sizeOf5 Tryd.isAgg5 zeros32_len zeros32_len).to (congrArg Value.bool (show _ = false by simp [txt]))) rfl ?_   -- 80
      refine ow_val (val_pick_false rfl rfl) rfl ?_   -- 81
      refine ow_val (val_move rfl) rfl ?_   -- 82
      refine ow_guard_yes rfl rfl rfl ?_
      refine ow_val (val_move rfl) rfl ?_   -- 83
      refine ow_guard_yes rfl rfl rfl ?_
      refine ow_call_pure (v := vU64 0) (callsTo Tryd.func24 rfl (by kernel_rfl) rfl) rfl (fun w hm => tsize_nil w) ?_   -- 84
      refine ow_guard_yes rfl rfl rfl ?_
      refine ow_val ((val_neq_u64 rfl rfl).to (congrArg Value.bool (decide_eq_false ((fun h => h rfl))))) rfl ?_   -- 85
      refine ow_val (val_pick_false rfl rfl) rfl ?_   -- 86
      refine ow_val (val_move rfl) rfl ?_   -- 87
      refine ow_guard_yes rfl rfl rfl ?_
      refine ow_val (val_move rfl) rfl ?_   -- 88
      refine ow_guard_yes rfl rfl rfl ?_
      refine ow_call_pure (v := vInt ((0 : Nat) : Int)) (callsTo Tryd.func25 rfl (by kernel_rfl) rfl) rfl (fun w hm => twidth_nil w) ?_   -- 89
      refine ow_guard_yes rfl rfl rfl ?_
      refine ow_val ((val_neq_int rfl rfl).to (v' := .bool false) (congrArg Value.bool (decide_eq_false (fun h => h rfl)))) rfl ?_   -- 90
      refine ow_val (val_pick_false rfl rfl) rfl ?_   -- 91
      refine ow_nil (into ?_)
      refine sw_false rfl rfl ?_
      refine sw_skip (into ?_)
      refine sw_seq ?_
      refine sw_region ?_
      refine ow_val (val_move rfl) rfl ?_   -- 93
      refine ow_call_tail (σ := Nat × List Ent) (fun q9 => .tuple #[vPtr q9.1, vInt ((0 : Nat) : Int)]) (fun q9 => q9.2) (fun q9 => TrOn 95 75 k q9.2 q9.1 []) (callsTo Tryd.func13 rfl (by kernel_rfl) rfl) rfl (fun w hm => new_tr k h1 h2 w) ?_   -- 94
      rintro ⟨b94, es94⟩ htr94
      simp only at htr94 ⊢
      refine ow_val (val_move rfl) rfl ?_   -- 92
      refine ow_val (val_extract rfl rfl) rfl ?_   -- 95
      refine ow_val (val_extract rfl rfl) rfl ?_   -- 96
      refine ow_val (val_assign rfl) rfl ?_   -- 16
      refine ow_val (val_assign rfl) rfl ?_   -- 9
      refine ow_nil (into ?_)
      refine sw_seq ?_
      refine sw_seq ?_
      refine sw_region ?_
      refine ow_val (val_move rfl) rfl ?_   -- 97
      refine ow_call_pure (v := .bool true) (callsTo Tryd.func26 rfl (by kernel_rfl) rfl) rfl (fun w hm => rwidth_is hwd w) ?_   -- 98
      refine ow_val (val_not rfl) rfl ?_   -- 99
      refine ow_nil (into ?_)
      refine sw_false rfl rfl ?_
      refine sw_skip (into ?_)
      refine sw_seq ?_
      refine sw_region ?_
      refine ow_val (val_move rfl) rfl ?_   -- 107
      refine ow_call_tail (σ := Nat × List Ent) (fun q9 => .tuple #[vPtr q9.1, vInt ((0 : Nat) : Int)]) (fun q9 => q9.2) (fun q9 => TrOn 95 75 k (es94 ++ q9.2) q9.1 []) (callsTo Tryd.func16 rfl (by kernel_rfl) rfl) rfl (fun w hm => (append_tr k h1 h2 w (hK.mem0 hm) es94 (hm.heldSub (.cons _ (.cons _ (.cons _ (List.Sublist.refl _))))) b94 [] htr94 (by assumption) (by assumption) none 0 0 [] rfl (fun _ h => by cases h) (Rd.nil _ _) (Nat.le_refl _) (by decide) (fun _ h => by cases h) (by simp only [List.length_cons, List.length_nil]; omega)).mono fun _ _ ⟨u, he, q9, hu, hi, hm'⟩ => ⟨u, he, q9, hu, hi.cast (List.append_nil _), hm'⟩) ?_   -- 108
      rintro ⟨b108, es108⟩ htr108
      simp only at htr108 ⊢
      refine ow_val (val_move rfl) rfl ?_   -- 106
      refine ow_val (val_extract rfl rfl) rfl ?_   -- 109
      refine ow_val (val_extract rfl rfl) rfl ?_   -- 110
      refine ow_val (val_assign rfl) rfl ?_   -- 8
      refine ow_val (val_assign rfl) rfl ?_   -- 11
      refine ow_nil (into ?_)
      refine sw_seq ?_
      refine sw_region ?_
      refine ow_val (val_move rfl) rfl ?_   -- 112
      refine ow_call_pure (v := .tuple #[.agg ((dig k []).map vU8).toArray, vInt ((0 : Nat) : Int)]) (callsTo Tryd.func27 rfl (by kernel_rfl) rfl) rfl (fun w hm => (by have h := nolog_any (k : Int) w (hK.mem0 hm); rw [digO_yes h1 h2] at h; exact h)) ?_   -- 113
      refine ow_val (val_move rfl) rfl ?_   -- 111
      refine ow_val (val_extract rfl rfl) rfl ?_   -- 114
      refine ow_val (val_extract rfl rfl) rfl ?_   -- 115
      refine ow_new (acts_alloc zD) rfl (fun b17 hb17 => ?_)   -- 17
      refine ow_do_eq (does_store_all 0 rfl rfl rfl (one_u8s _) Tryd.sizeOf43 (by show (List.map vU8 (dig k [])).length = _; rw [List.length_map]; exact (dig_len _ (by omega))) (by show (List.map vU8 zeros32).length = _; rw [List.length_map]; exact zeros32_len)) ?_
      refine ow_val (val_assign rfl) rfl ?_   -- 13
      refine ow_nil (into ?_)
      refine sw_seq ?_
      refine sw_region_lex _ [] [(0, 0), (1, 0), (2, 0), (3, 0), (4, 0), (5, 0), (6, 0), (7, 0), (8, 0), (9, 0), (10, 0), (11, 0), (12, 0), (13, 2), (14, 0), (15, 0), (16, 0), (17, 0), (18, 2), (19, 0), (20, 0), (22, 0), (21, 1), (23, 2), (24, 0), (25, 0), (26, 0)] (by kernel_rfl) (by kernel_rfl) (fun _ _ _ h => h) (fun _ h => h) (fun _ h => h.drawn _) ?_
      refine lw_pure rfl (val_move rfl) rfl ?_   -- 116
      refine lw_pure rfl ((val_eql_int rfl rfl).to (v' := .bool true) (congrArg Value.bool (decide_eq_true (by simp)))) rfl ?_   -- 117
      refine lw_pure rfl (val_move rfl) rfl ?_   -- 118
      refine lwg_pure rfl (wg rfl rfl) (val_move rfl) rfl ?_   -- 119
      refine lwg_pure rfl (wg rfl rfl) ((val_eql_int rfl rfl).to (v' := .bool true) (congrArg Value.bool (decide_eq_true (by simp)))) rfl ?_   -- 120
      refine lw_pure rfl (val_pick_true rfl rfl) rfl ?_   -- 121
      refine lw_pure rfl (val_move rfl) rfl ?_   -- 122
      refine lwg_pure rfl (wg rfl rfl) (val_move rfl) rfl ?_   -- 123
      refine lwg_pure rfl (wg rfl rfl) ((val_eql_int rfl rfl).to (v' := .bool true) (congrArg Value.bool (decide_eq_true (by simp)))) rfl ?_   -- 124
      refine lw_pure rfl (val_pick_true rfl rfl) rfl ?_   -- 125
      refine lw_pure rfl (val_move rfl) rfl ?_   -- 126
      refine lwg_pure rfl (wg rfl rfl) (val_move rfl) rfl ?_   -- 127
      refine lwg_pure rfl (wg rfl rfl) (val_move rfl) rfl ?_   -- 128
      refine lwg_call_pure (v := .bool true) rfl (wg rfl rfl) (callsTo Tryd.func15 rfl (by kernel_rfl) rfl) rfl (fun w hm => reads_any k h1 h2 w (hK.mem0 hm) b94 [] ((htr94.left (T' := es108)).is (hm.heldSub (.cons _ (.cons _ (.cons _ (.cons _ (List.Sublist.refl _))))))) (by omega) none 0 0 rfl (fun _ h => by cases h) (fun _ h => by cases h) (Rd.nil _ _) (Nat.le_refl _) (by decide)) ?_   -- 129
      refine lw_pure rfl (val_pick_true rfl rfl) rfl ?_   -- 130
      refine lw_pure rfl (val_move rfl) rfl ?_   -- 131
      refine lwg_pure rfl (wg rfl rfl) (val_move rfl) rfl ?_   -- 132
      refine lwg_pure rfl (wg rfl rfl) (val_move rfl) rfl ?_   -- 133
      refine lwg_call_pure (v := .bool true) rfl (wg rfl rfl) (callsTo Tryd.func15 rfl (by kernel_rfl) rfl) rfl (fun w hm => reads_any k h1 h2 w (hK.mem0 hm) b108 [] (htr108.is (hm.heldSub (.cons _ (.cons _ (.cons _ (.cons _ (List.Sublist.refl _))))))) (by omega) none 0 0 rfl (fun _ h => by cases h) (fun _ h => by cases h) (Rd.nil _ _) (Nat.le_refl _) (by decide)) ?_   -- 134
      refine lw_pure rfl (val_pick_true rfl rfl) rfl ?_   -- 135
      refine lw_pure rfl (val_move rfl) rfl ?_   -- 136
      refine lwg_pure rfl (wg rfl rfl) (val_move rfl) rfl ?_   -- 138
      refine lwg_held rfl (wg rfl rfl) (val_load_all 0 rfl rfl Tryd.isAgg43 Tryd.sizeOf43 (by show (List.map vU8 (dig k [])).length = _; rw [List.length_map]; exact (dig_len _ (by omega)))) rfl ?_   -- 137
      refine lwg_call_pure (v := .agg ((dig k []).map vU8).toArray) rfl (wg rfl rfl) (callsTo Tryd.func28 rfl (by kernel_rfl) rfl) rfl (fun w hm => rnolog_any w k (by omega) (by omega)) ?_   -- 139
      refine lwg_pure rfl (wg rfl rfl) ((val_eql_u8s rfl rfl Tryd.eqGuardType43 Tryd.underlying43 Tryd.underlying5 Tryd.sizeOf5 Tryd.isAgg5 (dig_len _ (by omega)) (dig_len _ (by omega))).to (congrArg Value.bool (show _ = true by simp [txt]))) rfl ?_   -- 140
      refine lw_pure rfl (val_pick_true rfl rfl) rfl ?_   -- 141
      refine lw_pure rfl (val_assign rfl) rfl ?_   -- 6
      refine lw_nil (into ?_)
      refine sw_ret (fun w hm => ?_)
      try dsimp only [thenP, blockP, Nat.beq, cond]
      exact ret_one _ rfl rfl ⟨rfl, hm.forgetAll⟩
    refine lt_alt ?_ ?_
    · -- first 11
      refine lt_make (fun b => .pointer (some ⟨b, 0, none⟩)) rfl trivial (acts_alloc zD) rfl (fun _ _ _ h => h.only (.cons _ (.cons_cons _ (List.nil_sublist _)))) (fun b12 hb12 => ?_)   -- 12
      refine lt_call_pure (v := .tuple #[.agg ((zeros32).map vU8).toArray, vInt ((5 : Nat) : Int)]) rfl trivial (callsTo Tryd.func19 rfl (by kernel_rfl) rfl) rfl (fun w hm => range_nil (xs.getD 0 default) (xs.getD 1 default) w) (fun _ _ h => h.only (.cons _ (.cons_cons _ (List.nil_sublist _)))) ?_   -- 48
      refine lt_pure rfl trivial (val_move rfl) rfl ?_   -- 40
      refine lt_pure rfl trivial (val_extract rfl rfl) rfl ?_   -- 49
      refine lt_pure rfl trivial (val_extract rfl rfl) rfl ?_   -- 50
      refine lt_do rfl trivial (does_store_all 0 rfl rfl rfl (one_u8s _) Tryd.sizeOf43 (by show (List.map vU8 zeros32).length = _; rw [List.length_map]; exact zeros32_len) (by show (List.map vU8 zeros32).length = _; rw [List.length_map]; exact zeros32_len)) (fun _ _ _ _ h => h.only (.cons _ (.cons_cons _ (List.nil_sublist _)))) (fun _ _ => ?_)
      refine lt_pure rfl trivial (val_assign rfl) rfl ?_   -- 13
      refine lt_done (into ?_)
      refine sw_seq ?_
      refine sw_region ?_
      refine ow_val (val_move rfl) rfl ?_   -- 52
      refine ow_val (val_move rfl) rfl ?_   -- 53
      refine ow_val (val_indexAddr_slice (0) (ox) rfl rfl Tryd.underlying39 Tryd.sizeOf46 (by omega) (by omega) (by omega)) rfl ?_   -- 54
      refine ow_val (val_load rfl Tryd.isAgg46 (fun w' hm => Rd.get (p := xs) (k := 0) (hx.mem hm) (by omega) (by omega))) rfl ?_   -- 55
      refine ow_call_pure (v := .tuple #[.agg ((zeros32).map vU8).toArray, vInt ((5 : Nat) : Int)]) (callsTo Tryd.func21 rfl (by kernel_rfl) rfl) rfl (fun w hm => root_nil (xs.getD 0 default) w) ?_   -- 56
      refine ow_val (val_move rfl) rfl ?_   -- 51
      refine ow_val (val_extract rfl rfl) rfl ?_   -- 57
      refine ow_val (val_extract rfl rfl) rfl ?_   -- 58
      refine ow_new (acts_alloc zD) rfl (fun b14 hb14 => ?_)   -- 14
      refine ow_do_eq (does_store_all 0 rfl rfl rfl (one_u8s _) Tryd.sizeOf43 (by show (List.map vU8 zeros32).length = _; rw [List.length_map]; exact zeros32_len) (by show (List.map vU8 zeros32).length = _; rw [List.length_map]; exact zeros32_len)) ?_
      refine ow_val (val_assign rfl) rfl ?_   -- 15
      refine ow_nil (into ?_)
      refine sw_seq ?_
      refine sw_seq ?_
      refine sw_region ?_
      refine ow_val (val_move rfl) rfl ?_   -- 59
      refine ow_val (val_neq_nilptr Tryd.underlying24 rfl rfl) rfl ?_   -- 60
      refine ow_val (val_move rfl) rfl ?_   -- 61
      refine ow_guard_yes rfl rfl rfl ?_
      refine ow_val (val_move rfl) rfl ?_   -- 62
      refine ow_guard_yes rfl rfl rfl ?_
      refine ow_val ((val_neq_int rfl rfl).to (v' := .bool false) (congrArg Value.bool (decide_eq_false (fun h => h (by simp))))) rfl ?_   -- 63
      refine ow_val (val_pick_false rfl rfl) rfl ?_   -- 64
      refine ow_val (val_move rfl) rfl ?_   -- 65
      refine ow_guard_yes rfl rfl rfl ?_
      refine ow_val (val_move rfl) rfl ?_   -- 66
      refine ow_guard_yes rfl rfl rfl ?_
      refine ow_val ((val_neq_int rfl rfl).to (v' := .bool false) (congrArg Value.bool (decide_eq_false (fun h => h (by simp))))) rfl ?_   -- 67
      refine ow_val (val_pick_false rfl rfl) rfl ?_   -- 68
      refine ow_val (val_move rfl) rfl ?_   -- 69
      refine ow_guard_yes rfl rfl rfl ?_
      refine ow_val (val_move rfl) rfl ?_   -- 70
      refine ow_guard_yes rfl rfl rfl ?_
      refine ow_val ((val_neq_int rfl rfl).to (v' := .bool false) (congrArg Value.bool (decide_eq_false (fun h => h (by simp))))) rfl ?_   -- 71
      refine ow_val (val_pick_false rfl rfl) rfl ?_   -- 72
      refine ow_val (val_move rfl) rfl ?_   -- 73
      refine ow_guard_yes rfl rfl rfl ?_
      refine ow_val (val_move rfl) rfl ?_   -- 74
      refine ow_guard_yes rfl rfl rfl ?_
      refine ow_val ((val_neq_int rfl rfl).to (v' := .bool false) (congrArg Value.bool (decide_eq_false (fun h => h (by simp))))) rfl ?_   -- 75
      refine ow_val (val_pick_false rfl rfl) rfl ?_   -- 76
      refine ow_val (val_move rfl) rfl ?_   -- 77
      refine ow_guard_yes rfl rfl rfl ?_
      refine ow_val (val_load_all 1 rfl rfl Tryd.isAgg43 Tryd.sizeOf43 (by show (List.map vU8 zeros32).length = _; rw [List.length_map]; exact zeros32_len)) rfl ?_   -- 78
      refine ow_guard_yes rfl rfl rfl ?_
      refine ow_val (val_build' (cs := zeros32.map vU8) rfl (by kernel_rfl)) rfl ?_   -- 79
      refine ow_guard_yes rfl rfl rfl ?_
      refine ow_val ((val_neq_u8s rfl rfl Tryd.eqGuardType43 Tryd.underlying43 Tryd.underlying5 Tryd.sizeOf5 Tryd.isAgg5 zeros32_len zeros32_len).to (congrArg Value.bool (show _ = false by simp [txt]))) rfl ?_   -- 80
      refine ow_val (val_pick_false rfl rfl) rfl ?_   -- 81
      refine ow_val (val_move rfl) rfl ?_   -- 82
      refine ow_guard_yes rfl rfl rfl ?_
      refine ow_val (val_move rfl) rfl ?_   -- 83
      refine ow_guard_yes rfl rfl rfl ?_
      refine ow_call_pure (v := vU64 0) (callsTo Tryd.func24 rfl (by kernel_rfl) rfl) rfl (fun w hm => tsize_nil w) ?_   -- 84
      refine ow_guard_yes rfl rfl rfl ?_
      refine ow_val ((val_neq_u64 rfl rfl).to (congrArg Value.bool (decide_eq_false ((fun h => h rfl))))) rfl ?_   -- 85
      refine ow_val (val_pick_false rfl rfl) rfl ?_   -- 86
      refine ow_val (val_move rfl) rfl ?_   -- 87
      refine ow_guard_yes rfl rfl rfl ?_
      refine ow_val (val_move rfl) rfl ?_   -- 88
      refine ow_guard_yes rfl rfl rfl ?_
      refine ow_call_pure (v := vInt ((0 : Nat) : Int)) (callsTo Tryd.func25 rfl (by kernel_rfl) rfl) rfl (fun w hm => twidth_nil w) ?_   -- 89
      refine ow_guard_yes rfl rfl rfl ?_
      refine ow_val ((val_neq_int rfl rfl).to (v' := .bool false) (congrArg Value.bool (decide_eq_false (fun h => h rfl)))) rfl ?_   -- 90
      refine ow_val (val_pick_false rfl rfl) rfl ?_   -- 91
      refine ow_nil (into ?_)
      refine sw_false rfl rfl ?_
      refine sw_skip (into ?_)
      refine sw_seq ?_
      refine sw_region ?_
      refine ow_val (val_move rfl) rfl ?_   -- 93
      refine ow_call_tail (σ := Nat × List Ent) (fun q9 => .tuple #[vPtr q9.1, vInt ((0 : Nat) : Int)]) (fun q9 => q9.2) (fun q9 => TrOn 95 75 k q9.2 q9.1 []) (callsTo Tryd.func13 rfl (by kernel_rfl) rfl) rfl (fun w hm => new_tr k h1 h2 w) ?_   -- 94
      rintro ⟨b94, es94⟩ htr94
      simp only at htr94 ⊢
      refine ow_val (val_move rfl) rfl ?_   -- 92
      refine ow_val (val_extract rfl rfl) rfl ?_   -- 95
      refine ow_val (val_extract rfl rfl) rfl ?_   -- 96
      refine ow_val (val_assign rfl) rfl ?_   -- 16
      refine ow_val (val_assign rfl) rfl ?_   -- 9
      refine ow_nil (into ?_)
      refine sw_seq ?_
      refine sw_seq ?_
      refine sw_region ?_
      refine ow_val (val_move rfl) rfl ?_   -- 97
      refine ow_call_pure (v := .bool true) (callsTo Tryd.func26 rfl (by kernel_rfl) rfl) rfl (fun w hm => rwidth_is hwd w) ?_   -- 98
      refine ow_val (val_not rfl) rfl ?_   -- 99
      refine ow_nil (into ?_)
      refine sw_false rfl rfl ?_
      refine sw_skip (into ?_)
      refine sw_seq ?_
      refine sw_region ?_
      refine ow_val (val_move rfl) rfl ?_   -- 107
      refine ow_call_tail (σ := Nat × List Ent) (fun q9 => .tuple #[vPtr q9.1, vInt ((0 : Nat) : Int)]) (fun q9 => q9.2) (fun q9 => TrOn 95 75 k (es94 ++ q9.2) q9.1 []) (callsTo Tryd.func16 rfl (by kernel_rfl) rfl) rfl (fun w hm => (append_tr k h1 h2 w (hK.mem0 hm) es94 (hm.heldSub (.cons _ (.cons _ (.cons _ (List.Sublist.refl _))))) b94 [] htr94 (by assumption) (by assumption) none 0 0 [] rfl (fun _ h => by cases h) (Rd.nil _ _) (Nat.le_refl _) (by decide) (fun _ h => by cases h) (by simp only [List.length_cons, List.length_nil]; omega)).mono fun _ _ ⟨u, he, q9, hu, hi, hm'⟩ => ⟨u, he, q9, hu, hi.cast (List.append_nil _), hm'⟩) ?_   -- 108
      rintro ⟨b108, es108⟩ htr108
      simp only at htr108 ⊢
      refine ow_val (val_move rfl) rfl ?_   -- 106
      refine ow_val (val_extract rfl rfl) rfl ?_   -- 109
      refine ow_val (val_extract rfl rfl) rfl ?_   -- 110
      refine ow_val (val_assign rfl) rfl ?_   -- 8
      refine ow_val (val_assign rfl) rfl ?_   -- 11
      refine ow_nil (into ?_)
      refine sw_seq ?_
      refine sw_region ?_
      refine ow_val (val_move rfl) rfl ?_   -- 112
      refine ow_call_pure (v := .tuple #[.agg ((dig k []).map vU8).toArray, vInt ((0 : Nat) : Int)]) (callsTo Tryd.func27 rfl (by kernel_rfl) rfl) rfl (fun w hm => (by have h := nolog_any (k : Int) w (hK.mem0 hm); rw [digO_yes h1 h2] at h; exact h)) ?_   -- 113
      refine ow_val (val_move rfl) rfl ?_   -- 111
      refine ow_val (val_extract rfl rfl) rfl ?_   -- 114
      refine ow_val (val_extract rfl rfl) rfl ?_   -- 115
      refine ow_new (acts_alloc zD) rfl (fun b17 hb17 => ?_)   -- 17
      refine ow_do_eq (does_store_all 0 rfl rfl rfl (one_u8s _) Tryd.sizeOf43 (by show (List.map vU8 (dig k [])).length = _; rw [List.length_map]; exact (dig_len _ (by omega))) (by show (List.map vU8 zeros32).length = _; rw [List.length_map]; exact zeros32_len)) ?_
      refine ow_val (val_assign rfl) rfl ?_   -- 13
      refine ow_nil (into ?_)
      refine sw_seq ?_
      refine sw_region_lex _ [] [(0, 0), (1, 0), (2, 0), (3, 0), (4, 0), (5, 0), (6, 0), (7, 0), (8, 0), (9, 0), (10, 0), (11, 0), (12, 0), (13, 2), (14, 0), (15, 0), (16, 0), (17, 0), (18, 2), (19, 0), (20, 0), (22, 0), (21, 1), (23, 2), (24, 0), (25, 0), (26, 0)] (by kernel_rfl) (by kernel_rfl) (fun _ _ _ h => h) (fun _ h => h) (fun _ h => h.drawn _) ?_
      refine lw_pure rfl (val_move rfl) rfl ?_   -- 116
      refine lw_pure rfl ((val_eql_int rfl rfl).to (v' := .bool true) (congrArg Value.bool (decide_eq_true (by simp)))) rfl ?_   -- 117
      refine lw_pure rfl (val_move rfl) rfl ?_   -- 118
      refine lwg_pure rfl (wg rfl rfl) (val_move rfl) rfl ?_   -- 119
      refine lwg_pure rfl (wg rfl rfl) ((val_eql_int rfl rfl).to (v' := .bool true) (congrArg Value.bool (decide_eq_true (by simp)))) rfl ?_   -- 120
      refine lw_pure rfl (val_pick_true rfl rfl) rfl ?_   -- 121
      refine lw_pure rfl (val_move rfl) rfl ?_   -- 122
      refine lwg_pure rfl (wg rfl rfl) (val_move rfl) rfl ?_   -- 123
      refine lwg_pure rfl (wg rfl rfl) ((val_eql_int rfl rfl).to (v' := .bool true) (congrArg Value.bool (decide_eq_true (by simp)))) rfl ?_   -- 124
      refine lw_pure rfl (val_pick_true rfl rfl) rfl ?_   -- 125
      refine lw_pure rfl (val_move rfl) rfl ?_   -- 126
      refine lwg_pure rfl (wg rfl rfl) (val_move rfl) rfl ?_   -- 127
      refine lwg_pure rfl (wg rfl rfl) (val_move rfl) rfl ?_   -- 128
      refine lwg_call_pure (v := .bool true) rfl (wg rfl rfl) (callsTo Tryd.func15 rfl (by kernel_rfl) rfl) rfl (fun w hm => reads_any k h1 h2 w (hK.mem0 hm) b94 [] ((htr94.left (T' := es108)).is (hm.heldSub (.cons _ (.cons _ (.cons _ (.cons _ (List.Sublist.refl _))))))) (by omega) none 0 0 rfl (fun _ h => by cases h) (fun _ h => by cases h) (Rd.nil _ _) (Nat.le_refl _) (by decide)) ?_   -- 129
      refine lw_pure rfl (val_pick_true rfl rfl) rfl ?_   -- 130
      refine lw_pure rfl (val_move rfl) rfl ?_   -- 131
      refine lwg_pure rfl (wg rfl rfl) (val_move rfl) rfl ?_   -- 132
      refine lwg_pure rfl (wg rfl rfl) (val_move rfl) rfl ?_   -- 133
      refine lwg_call_pure (v := .bool true) rfl (wg rfl rfl) (callsTo Tryd.func15 rfl (by kernel_rfl) rfl) rfl (fun w hm => reads_any k h1 h2 w (hK.mem0 hm) b108 [] (htr108.is (hm.heldSub (.cons _ (.cons _ (.cons _ (.cons _ (List.Sublist.refl _))))))) (by omega) none 0 0 rfl (fun _ h => by cases h) (fun _ h => by cases h) (Rd.nil _ _) (Nat.le_refl _) (by decide)) ?_   -- 134
      refine lw_pure rfl (val_pick_true rfl rfl) rfl ?_   -- 135
      refine lw_pure rfl (val_move rfl) rfl ?_   -- 136
      refine lwg_pure rfl (wg rfl rfl) (val_move rfl) rfl ?_   -- 138
      refine lwg_held rfl (wg rfl rfl) (val_load_all 0 rfl rfl Tryd.isAgg43 Tryd.sizeOf43 (by show (List.map vU8 (dig k [])).length = _; rw [List.length_map]; exact (dig_len _ (by omega)))) rfl ?_   -- 137
      refine lwg_call_pure (v := .agg ((dig k []).map vU8).toArray) rfl (wg rfl rfl) (callsTo Tryd.func28 rfl (by kernel_rfl) rfl) rfl (fun w hm => rnolog_any w k (by omega) (by omega)) ?_   -- 139
      refine lwg_pure rfl (wg rfl rfl) ((val_eql_u8s rfl rfl Tryd.eqGuardType43 Tryd.underlying43 Tryd.underlying5 Tryd.sizeOf5 Tryd.isAgg5 (dig_len _ (by omega)) (dig_len _ (by omega))).to (congrArg Value.bool (show _ = true by simp [txt]))) rfl ?_   -- 140
      refine lw_pure rfl (val_pick_true rfl rfl) rfl ?_   -- 141
      refine lw_pure rfl (val_assign rfl) rfl ?_   -- 6
      refine lw_nil (into ?_)
      refine sw_ret (fun w hm => ?_)
      try dsimp only [thenP, blockP, Nat.beq, cond]
      exact ret_one _ rfl rfl ⟨rfl, hm.forgetAll⟩
    exact lt_stop

theorem mtreeEmpty_any (v0 : Int) (w : World) (hK : KW w) (a : Option Addr) (c : Nat) (l : List (List UInt8)) (hdl : ∀ d ∈ l, d.length = 32) (hr : Rd w a (l.flatMap fun d => d.map vU8)) (hc : l.length ≤ c) (hl : l.length < 9223372036854775808) (ax : Option Addr) (cx : Nat) (xs : List UInt64) (hx : Rd w ax (xs.map vU64)) (hxc : xs.length ≤ cx) (hxl : xs.length < 9223372036854775808) : Calls Tryd.prog 5 #[vInt v0, .slice a l.length c, .slice ax xs.length cx] w fun e w' => ∃ v, e = .returned v ∧ v = .bool true ∧ Mem w [] [] w' := by
  cases hwd : wd v0 with
  | false => exact empty_no v0 hwd w hK a c l hdl hr hc hl ax cx xs hx hxc hxl
  | true =>
    have h9 := wd_iff.1 hwd
    obtain ⟨k, rfl⟩ : ∃ k : Nat, v0 = (k : Int) := ⟨v0.toNat, by omega⟩
    exact empty_yes k (by omega) (by omega) w hK a c l hdl hr hc hl ax cx xs hx hxc hxl
end Go.Proofs.YtcappcjogcekkaaDoor
