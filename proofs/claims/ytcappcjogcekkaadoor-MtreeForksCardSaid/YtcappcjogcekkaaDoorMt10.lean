import Derived.Test.YtcappcjogcekkaaDoorMt9
import Derived.Test.YtcappcjogcekkaaDoorProg
set_option linter.unusedVariables false
set_option linter.unusedSimpArgs false
namespace Go.Proofs.YtcappcjogcekkaaDoor
open Go.Sx Go.Ps
theorem anyhow_none (v0 st : Int) (w : World) (hK : KW w) (a : Option Addr) (c : Nat) (l : List (List UInt8)) (hdl : ∀ d ∈ l, d.length = 32) (hr : Rd w a (l.flatMap fun d => d.map vU8)) (hc : l.length ≤ c) (hl : l.length < 9223372036854775808) (hno : ¬ (l.length ≤ 400 ∧ fitO v0 l = true)) : Calls Tryd.prog 8 #[vInt v0, .slice a l.length c, vInt st] w fun e w' => ∃ v, e = .returned v ∧ v = .bool true ∧ Mem w [] [] w' := by
  refine calls_of_sw (vs := [vInt v0, .slice a l.length c, vInt st]) Tryd.func8 rfl Tryd.ntmps8 rfl (SW.begin ?_)
  refine sw_seq ?_
  refine sw_region ?_
  refine ow_val (val_assign rfl) rfl ?_   -- 6
  refine ow_nil (into ?_)
  refine sw_seq ?_
  refine sw_seq ?_
  refine sw_region ?_
  refine ow_call_pure (v := .bool true) (callsTo Tryd.func12 rfl (by kernel_rfl) rfl) rfl (fun w hm => awake_any w (hK.mem0 hm)) ?_   -- 24
  refine ow_val (val_not rfl) rfl ?_   -- 25
  refine ow_nil (into ?_)
  refine sw_false rfl rfl ?_
  refine sw_skip (into ?_)
  refine sw_seq ?_
  refine sw_seq ?_
  refine sw_region ?_
  refine ow_val (val_move rfl) rfl ?_   -- 26
  by_cases h5 : st < 1
  · -- yes
    refine ow_val ((val_lss_int rfl rfl).to (congrArg Value.bool (decide_eq_true (by omega)))) rfl ?_   -- 27
    refine ow_val (val_move rfl) rfl ?_   -- 28
    first | refine ow_guard_no rfl rfl rfl rfl rfl ?_ | refine ow_guard_none rfl rfl rfl rfl rfl ?_
    first | refine ow_guard_no rfl rfl rfl rfl rfl ?_ | refine ow_guard_none rfl rfl rfl rfl rfl ?_
    refine ow_val (val_pick_true rfl rfl) rfl ?_   -- 31
    refine ow_nil (into ?_)
    refine sw_true rfl rfl ?_
    refine sw_region ?_
    refine ow_val (val_assign rfl) rfl ?_   -- 2
    refine ow_nil (into ?_)
    refine sw_seq ?_
    refine sw_region ?_
    refine ow_val (val_move rfl) rfl ?_   -- 33
    refine ow_val (val_move rfl) rfl ?_   -- 34
    refine ow_call_pure (v := .tuple #[.pointer none, .bool false]) (callsTo Tryd.func18 rfl (by kernel_rfl) rfl) rfl (fun w hm => grown_none v0 1 w a l.length c l rfl hdl (hr.mem hm) (by omega) (by omega) hno) ?_   -- 35
    refine ow_val (val_move rfl) rfl ?_   -- 32
    refine ow_val (val_extract rfl rfl) rfl ?_   -- 36
    refine ow_val (val_extract rfl rfl) rfl ?_   -- 37
    refine ow_val (val_assign rfl) rfl ?_   -- 7
    refine ow_val (val_assign rfl) rfl ?_   -- 8
    refine ow_nil (into ?_)
    refine sw_seq ?_
    refine sw_region ?_
    refine ow_val (val_move rfl) rfl ?_   -- 39
    refine ow_val (val_move rfl) rfl ?_   -- 40
    refine ow_val (val_move rfl) rfl ?_   -- 41
    refine ow_call_pure (v := .tuple #[.pointer none, .bool false]) (callsTo Tryd.func18 rfl (by kernel_rfl) rfl) rfl (fun w hm => grown_none v0 3 w a l.length c l rfl hdl (hr.mem hm) (by omega) (by omega) hno) ?_   -- 42
    refine ow_val (val_move rfl) rfl ?_   -- 38
    refine ow_val (val_extract rfl rfl) rfl ?_   -- 43
    refine ow_val (val_extract rfl rfl) rfl ?_   -- 44
    refine ow_val (val_assign rfl) rfl ?_   -- 9
    refine ow_val (val_assign rfl) rfl ?_   -- 10
    refine ow_nil (into ?_)
    refine sw_seq ?_
    refine sw_region ?_
    refine ow_val (val_move rfl) rfl ?_   -- 46
    refine ow_val (val_move rfl) rfl ?_   -- 47
    refine ow_call_pure (v := .tuple #[.pointer none, .bool false]) (callsTo Tryd.func18 rfl (by kernel_rfl) rfl) rfl (fun w hm => grown_none v0 400 w a l.length c l rfl hdl (hr.mem hm) (by omega) (by omega) hno) ?_   -- 48
    refine ow_val (val_move rfl) rfl ?_   -- 45
    refine ow_val (val_extract rfl rfl) rfl ?_   -- 49
    refine ow_val (val_extract rfl rfl) rfl ?_   -- 50
    refine ow_val (val_assign rfl) rfl ?_   -- 11
    refine ow_val (val_assign rfl) rfl ?_   -- 12
    refine ow_nil (into ?_)
    refine sw_seq ?_
    refine sw_seq ?_
    refine sw_region ?_
    refine ow_val (val_move rfl) rfl ?_   -- 51
    refine ow_val (val_not rfl) rfl ?_   -- 52
    refine ow_nil (into ?_)
    refine sw_true rfl rfl ?_
    refine sw_seq ?_
    refine sw_region ?_
    refine ow_val (val_assign rfl) rfl ?_   -- 6
    refine ow_nil (into ?_)
    refine sw_ret (fun w hm => ?_)
    try dsimp only [thenP, blockP, Nat.beq, cond]
    exact ret_one _ rfl rfl ⟨rfl, hm.forgetAll⟩
  · -- no
    refine ow_val ((val_lss_int rfl rfl).to (congrArg Value.bool (decide_eq_false (by omega)))) rfl ?_   -- 27
    refine ow_val (val_move rfl) rfl ?_   -- 28
    refine ow_guard_yes rfl rfl rfl ?_
    refine ow_val (val_move rfl) rfl ?_   -- 29
    by_cases h6 : 400 < st
    · -- yes
      refine ow_guard_yes rfl rfl rfl ?_
      refine ow_val ((val_gtr_int rfl rfl).to (congrArg Value.bool (decide_eq_true (by omega)))) rfl ?_   -- 30
      refine ow_val (val_pick_false rfl rfl) rfl ?_   -- 31
      refine ow_nil (into ?_)
      refine sw_true rfl rfl ?_
      refine sw_region ?_
      refine ow_val (val_assign rfl) rfl ?_   -- 2
      refine ow_nil (into ?_)
      refine sw_seq ?_
      refine sw_region ?_
      refine ow_val (val_move rfl) rfl ?_   -- 33
      refine ow_val (val_move rfl) rfl ?_   -- 34
      refine ow_call_pure (v := .tuple #[.pointer none, .bool false]) (callsTo Tryd.func18 rfl (by kernel_rfl) rfl) rfl (fun w hm => grown_none v0 1 w a l.length c l rfl hdl (hr.mem hm) (by omega) (by omega) hno) ?_   -- 35
      refine ow_val (val_move rfl) rfl ?_   -- 32
      refine ow_val (val_extract rfl rfl) rfl ?_   -- 36
      refine ow_val (val_extract rfl rfl) rfl ?_   -- 37
      refine ow_val (val_assign rfl) rfl ?_   -- 7
      refine ow_val (val_assign rfl) rfl ?_   -- 8
      refine ow_nil (into ?_)
      refine sw_seq ?_
      refine sw_region ?_
      refine ow_val (val_move rfl) rfl ?_   -- 39
      refine ow_val (val_move rfl) rfl ?_   -- 40
      refine ow_val (val_move rfl) rfl ?_   -- 41
      refine ow_call_pure (v := .tuple #[.pointer none, .bool false]) (callsTo Tryd.func18 rfl (by kernel_rfl) rfl) rfl (fun w hm => grown_none v0 3 w a l.length c l rfl hdl (hr.mem hm) (by omega) (by omega) hno) ?_   -- 42
      refine ow_val (val_move rfl) rfl ?_   -- 38
      refine ow_val (val_extract rfl rfl) rfl ?_   -- 43
      refine ow_val (val_extract rfl rfl) rfl ?_   -- 44
      refine ow_val (val_assign rfl) rfl ?_   -- 9
      refine ow_val (val_assign rfl) rfl ?_   -- 10
      refine ow_nil (into ?_)
      refine sw_seq ?_
      refine sw_region ?_
      refine ow_val (val_move rfl) rfl ?_   -- 46
      refine ow_val (val_move rfl) rfl ?_   -- 47
      refine ow_call_pure (v := .tuple #[.pointer none, .bool false]) (callsTo Tryd.func18 rfl (by kernel_rfl) rfl) rfl (fun w hm => grown_none v0 400 w a l.length c l rfl hdl (hr.mem hm) (by omega) (by omega) hno) ?_   -- 48
      refine ow_val (val_move rfl) rfl ?_   -- 45
      refine ow_val (val_extract rfl rfl) rfl ?_   -- 49
      refine ow_val (val_extract rfl rfl) rfl ?_   -- 50
      refine ow_val (val_assign rfl) rfl ?_   -- 11
      refine ow_val (val_assign rfl) rfl ?_   -- 12
      refine ow_nil (into ?_)
      refine sw_seq ?_
      refine sw_seq ?_
      refine sw_region ?_
      refine ow_val (val_move rfl) rfl ?_   -- 51
      refine ow_val (val_not rfl) rfl ?_   -- 52
      refine ow_nil (into ?_)
      refine sw_true rfl rfl ?_
      refine sw_seq ?_
      refine sw_region ?_
      refine ow_val (val_assign rfl) rfl ?_   -- 6
      refine ow_nil (into ?_)
      refine sw_ret (fun w hm => ?_)
      try dsimp only [thenP, blockP, Nat.beq, cond]
      exact ret_one _ rfl rfl ⟨rfl, hm.forgetAll⟩
    · -- no
      refine ow_guard_yes rfl rfl rfl ?_
      refine ow_val ((val_gtr_int rfl rfl).to (congrArg Value.bool (decide_eq_false (by omega)))) rfl ?_   -- 30
      refine ow_val (val_pick_false rfl rfl) rfl ?_   -- 31
      refine ow_nil (into ?_)
      refine sw_false rfl rfl ?_
      refine sw_skip (into ?_)
      refine sw_seq ?_
      refine sw_region ?_
      refine ow_val (val_move rfl) rfl ?_   -- 33
      refine ow_val (val_move rfl) rfl ?_   -- 34
      refine ow_call_pure (v := .tuple #[.pointer none, .bool false]) (callsTo Tryd.func18 rfl (by kernel_rfl) rfl) rfl (fun w hm => grown_none v0 1 w a l.length c l rfl hdl (hr.mem hm) (by omega) (by omega) hno) ?_   -- 35
      refine ow_val (val_move rfl) rfl ?_   -- 32
      refine ow_val (val_extract rfl rfl) rfl ?_   -- 36
      refine ow_val (val_extract rfl rfl) rfl ?_   -- 37
      refine ow_val (val_assign rfl) rfl ?_   -- 7
      refine ow_val (val_assign rfl) rfl ?_   -- 8
      refine ow_nil (into ?_)
      refine sw_seq ?_
      refine sw_region ?_
      refine ow_val (val_move rfl) rfl ?_   -- 39
      refine ow_val (val_move rfl) rfl ?_   -- 40
      refine ow_val (val_move rfl) rfl ?_   -- 41
      refine ow_call_pure (v := .tuple #[.pointer none, .bool false]) (callsTo Tryd.func18 rfl (by kernel_rfl) rfl) rfl (fun w hm => grown_none v0 st w a l.length c l rfl hdl (hr.mem hm) (by omega) (by omega) hno) ?_   -- 42
      refine ow_val (val_move rfl) rfl ?_   -- 38
      refine ow_val (val_extract rfl rfl) rfl ?_   -- 43
      refine ow_val (val_extract rfl rfl) rfl ?_   -- 44
      refine ow_val (val_assign rfl) rfl ?_   -- 9
      refine ow_val (val_assign rfl) rfl ?_   -- 10
      refine ow_nil (into ?_)
      refine sw_seq ?_
      refine sw_region ?_
      refine ow_val (val_move rfl) rfl ?_   -- 46
      refine ow_val (val_move rfl) rfl ?_   -- 47
      refine ow_call_pure (v := .tuple #[.pointer none, .bool false]) (callsTo Tryd.func18 rfl (by kernel_rfl) rfl) rfl (fun w hm => grown_none v0 400 w a l.length c l rfl hdl (hr.mem hm) (by omega) (by omega) hno) ?_   -- 48
      refine ow_val (val_move rfl) rfl ?_   -- 45
      refine ow_val (val_extract rfl rfl) rfl ?_   -- 49
      refine ow_val (val_extract rfl rfl) rfl ?_   -- 50
      refine ow_val (val_assign rfl) rfl ?_   -- 11
      refine ow_val (val_assign rfl) rfl ?_   -- 12
      refine ow_nil (into ?_)
      refine sw_seq ?_
      refine sw_seq ?_
      refine sw_region ?_
      refine ow_val (val_move rfl) rfl ?_   -- 51
      refine ow_val (val_not rfl) rfl ?_   -- 52
      refine ow_nil (into ?_)
      refine sw_true rfl rfl ?_
      refine sw_seq ?_
      refine sw_region ?_
      refine ow_val (val_assign rfl) rfl ?_   -- 6
      refine ow_nil (into ?_)
      refine sw_ret (fun w hm => ?_)
      try dsimp only [thenP, blockP, Nat.beq, cond]
      exact ret_one _ rfl rfl ⟨rfl, hm.forgetAll⟩

theorem anyhow_a (k : Nat) (h1 : 1 ≤ k) (h2 : k ≤ 32) (st : Int) (h5 : st < 1) (w : World) (hK : KW w) (a : Option Addr) (c : Nat) (l : List (List UInt8)) (hdl : ∀ d ∈ l, d.length = 32) (hr : Rd w a (l.flatMap fun d => d.map vU8)) (hc : l.length ≤ c) (hl : l.length < 9223372036854775808) (hfl : ∀ d ∈ l, fm (k : Int) d = true) (h4 : l.length ≤ 400) : Calls Tryd.prog 8 #[vInt (k : Int), .slice a l.length c, vInt st] w fun e w' => ∃ v, e = .returned v ∧ v = .bool true ∧ Mem w [] [] w' := by
  refine calls_of_sw (vs := [vInt (k : Int), .slice a l.length c, vInt st]) Tryd.func8 rfl Tryd.ntmps8 rfl (SW.begin ?_)
  refine sw_seq ?_
  refine sw_region ?_
  refine ow_val (val_assign rfl) rfl ?_   -- 6
  refine ow_nil (into ?_)
  refine sw_seq ?_
  refine sw_seq ?_
  refine sw_region ?_
  refine ow_call_pure (v := .bool true) (callsTo Tryd.func12 rfl (by kernel_rfl) rfl) rfl (fun w hm => awake_any w (hK.mem0 hm)) ?_   -- 24
  refine ow_val (val_not rfl) rfl ?_   -- 25
  refine ow_nil (into ?_)
  refine sw_false rfl rfl ?_
  refine sw_skip (into ?_)
  refine sw_seq ?_
  refine sw_seq ?_
  refine sw_region ?_
  refine ow_val (val_move rfl) rfl ?_   -- 26
  refine ow_val ((val_lss_int rfl rfl).to (congrArg Value.bool (decide_eq_true (by omega)))) rfl ?_   -- 27
  refine ow_val (val_move rfl) rfl ?_   -- 28
  first | refine ow_guard_no rfl rfl rfl rfl rfl ?_ | refine ow_guard_none rfl rfl rfl rfl rfl ?_
  first | refine ow_guard_no rfl rfl rfl rfl rfl ?_ | refine ow_guard_none rfl rfl rfl rfl rfl ?_
  refine ow_val (val_pick_true rfl rfl) rfl ?_   -- 31
  refine ow_nil (into ?_)
  refine sw_true rfl rfl ?_
  refine sw_region ?_
  refine ow_val (val_assign rfl) rfl ?_   -- 2
  refine ow_nil (into ?_)
  refine sw_seq ?_
  refine sw_region ?_
  refine ow_val (val_move rfl) rfl ?_   -- 33
  refine ow_val (val_move rfl) rfl ?_   -- 34
  refine ow_call_tail (σ := Nat × List Ent) (fun q9 => .tuple #[vPtr q9.1, .bool true]) (fun q9 => q9.2) (fun q9 => TrOn 95 75 k q9.2 q9.1 l) (callsTo Tryd.func18 rfl (by kernel_rfl) rfl) rfl (fun w hm => grown_any k h1 h2 1 (by omega) (by omega) w (hK.mem0 hm) a l.length c l rfl hdl (hr.mem hm) (by omega) (by omega) (by omega) (by assumption)) ?_   -- 35
  rintro ⟨b35, es35⟩ htr35
  simp only at htr35 ⊢
  refine ow_val (val_move rfl) rfl ?_   -- 32
  refine ow_val (val_extract rfl rfl) rfl ?_   -- 36
  refine ow_val (val_extract rfl rfl) rfl ?_   -- 37
  refine ow_val (val_assign rfl) rfl ?_   -- 7
  refine ow_val (val_assign rfl) rfl ?_   -- 8
  refine ow_nil (into ?_)
  refine sw_seq ?_
  refine sw_region ?_
  refine ow_val (val_move rfl) rfl ?_   -- 39
  refine ow_val (val_move rfl) rfl ?_   -- 40
  refine ow_val (val_move rfl) rfl ?_   -- 41
  refine ow_call_tail (σ := Nat × List Ent) (fun q9 => .tuple #[vPtr q9.1, .bool true]) (fun q9 => q9.2) (fun q9 => TrOn 95 75 k q9.2 q9.1 l) (callsTo Tryd.func18 rfl (by kernel_rfl) rfl) rfl (fun w hm => grown_any k h1 h2 3 (by omega) (by omega) w (hK.mem0 hm) a l.length c l rfl hdl (hr.mem hm) (by omega) (by omega) (by omega) (by assumption)) ?_   -- 42
  rintro ⟨b42, es42⟩ htr42
  simp only at htr42 ⊢
  refine ow_val (val_move rfl) rfl ?_   -- 38
  refine ow_val (val_extract rfl rfl) rfl ?_   -- 43
  refine ow_val (val_extract rfl rfl) rfl ?_   -- 44
  refine ow_val (val_assign rfl) rfl ?_   -- 9
  refine ow_val (val_assign rfl) rfl ?_   -- 10
  refine ow_nil (into ?_)
  refine sw_seq ?_
  refine sw_region ?_
  refine ow_val (val_move rfl) rfl ?_   -- 46
  refine ow_val (val_move rfl) rfl ?_   -- 47
  refine ow_call_tail (σ := Nat × List Ent) (fun q9 => .tuple #[vPtr q9.1, .bool true]) (fun q9 => q9.2) (fun q9 => TrOn 95 75 k q9.2 q9.1 l) (callsTo Tryd.func18 rfl (by kernel_rfl) rfl) rfl (fun w hm => grown_any k h1 h2 400 (by omega) (by omega) w (hK.mem0 hm) a l.length c l rfl hdl (hr.mem hm) (by omega) (by omega) (by omega) (by assumption)) ?_   -- 48
  rintro ⟨b48, es48⟩ htr48
  simp only at htr48 ⊢
  refine ow_val (val_move rfl) rfl ?_   -- 45
  refine ow_val (val_extract rfl rfl) rfl ?_   -- 49
  refine ow_val (val_extract rfl rfl) rfl ?_   -- 50
  refine ow_val (val_assign rfl) rfl ?_   -- 11
  refine ow_val (val_assign rfl) rfl ?_   -- 12
  refine ow_nil (into ?_)
  refine sw_seq ?_
  refine sw_seq ?_
  refine sw_region ?_
  refine ow_val (val_move rfl) rfl ?_   -- 51
  refine ow_val (val_not rfl) rfl ?_   -- 52
  refine ow_nil (into ?_)
  refine sw_false rfl rfl ?_
  refine sw_skip (into ?_)
  refine sw_seq ?_
  refine sw_seq ?_
  refine sw_region ?_
  refine ow_val (val_assign rfl) rfl ?_   -- 13
  refine ow_nil (into ?_)
  refine sw_block ?_
  refine sw_loop (σ := Nat) (fun i => i ≤ l.length + 1) (fun i => [(13, vInt (i : Int)), (1, .slice a l.length c), (7, vPtr b35), (9, vPtr b42), (11, vPtr b48)]) (fun _ => Mem w [] ((es35 ++ es42) ++ es48)) (fun i => l.length + 1 - i) 0 (Nat.zero_le _) ⟨rfl, rfl, rfl, rfl, rfl, trivial⟩ (fun w hm => hm.only (List.Sublist.refl _)) ?_
  intro i hi
  refine sw_seq ?_
  refine sw_seq ?_
  refine sw_region ?_
  refine ow_val (val_move rfl) rfl ?_   -- 53
  refine ow_val (val_move rfl) rfl ?_   -- 54
  refine ow_val (val_len rfl Tryd.underlying32) rfl ?_   -- 55
  refine ow_val (val_leq_int rfl rfl) rfl ?_   -- 56
  refine ow_nil (into ?_)
  refine sw_if rfl (fun h0 => ?_) (fun h0 => ?_)
  · -- then
    refine sw_skip (into ?_)
    refine sw_seq ?_
    refine sw_block ?_
    refine sw_seq ?_
    refine sw_region ?_
    refine ow_val (val_move rfl) rfl ?_   -- 60
    refine ow_val (val_move rfl) rfl ?_   -- 61
    refine ow_call_pure (v := .tuple #[.agg ((lg k (seg l 0 i)).map vU8).toArray, .bool true]) (callsTo Tryd.func31 rfl (by kernel_rfl) rfl) rfl (fun w hm => rooted_any k h1 h2 w (hK.mem0 hm) b35 l (((htr35.left (T' := es42)).left (T' := es48)).is (hm.heldSub (List.Sublist.refl _))) (by assumption) (by assumption) i (by omega) (by omega)) ?_   -- 62
    refine ow_val (val_move rfl) rfl ?_   -- 59
    refine ow_val (val_extract rfl rfl) rfl ?_   -- 63
    refine ow_val (val_extract rfl rfl) rfl ?_   -- 64
    refine ow_new (acts_alloc zD) rfl (fun b14 hb14 => ?_)   -- 14
    refine ow_do_eq (does_store_all 0 rfl rfl rfl (one_u8s _) Tryd.sizeOf43 (by show (List.map vU8 (lg k (seg l 0 i))).length = _; rw [List.length_map]; exact (lg_len h2 _ rfl (seg_all (by assumption)))) (by show (List.map vU8 zeros32).length = _; rw [List.length_map]; exact zeros32_len)) ?_
    refine ow_val (val_assign rfl) rfl ?_   -- 15
    refine ow_nil (into ?_)
    refine sw_seq ?_
    refine sw_region ?_
    refine ow_val (val_move rfl) rfl ?_   -- 66
    refine ow_val (val_move rfl) rfl ?_   -- 67
    refine ow_call_pure (v := .tuple #[.agg ((lg k (seg l 0 i)).map vU8).toArray, .bool true]) (callsTo Tryd.func31 rfl (by kernel_rfl) rfl) rfl (fun w hm => rooted_any k h1 h2 w (hK.mem0 hm) b42 l (((htr42.right (T' := es35)).left (T' := es48)).is (hm.heldSub (.cons _ (List.Sublist.refl _)))) (by assumption) (by assumption) i (by omega) (by omega)) ?_   -- 68
    refine ow_val (val_move rfl) rfl ?_   -- 65
    refine ow_val (val_extract rfl rfl) rfl ?_   -- 69
    refine ow_val (val_extract rfl rfl) rfl ?_   -- 70
    refine ow_new (acts_alloc zD) rfl (fun b16 hb16 => ?_)   -- 16
    refine ow_do_eq (does_store_all 0 rfl rfl rfl (one_u8s _) Tryd.sizeOf43 (by show (List.map vU8 (lg k (seg l 0 i))).length = _; rw [List.length_map]; exact (lg_len h2 _ rfl (seg_all (by assumption)))) (by show (List.map vU8 zeros32).length = _; rw [List.length_map]; exact zeros32_len)) ?_
    refine ow_val (val_assign rfl) rfl ?_   -- 17
    refine ow_nil (into ?_)
    refine sw_seq ?_
    refine sw_region ?_
    refine ow_val (val_move rfl) rfl ?_   -- 72
    refine ow_val (val_move rfl) rfl ?_   -- 73
    refine ow_call_pure (v := .tuple #[.agg ((lg k (seg l 0 i)).map vU8).toArray, .bool true]) (callsTo Tryd.func31 rfl (by kernel_rfl) rfl) rfl (fun w hm => rooted_any k h1 h2 w (hK.mem0 hm) b48 l ((htr48.right (T' := (es35 ++ es42))).is (hm.heldSub (.cons _ (.cons _ (List.Sublist.refl _))))) (by assumption) (by assumption) i (by omega) (by omega)) ?_   -- 74
    refine ow_val (val_move rfl) rfl ?_   -- 71
    refine ow_val (val_extract rfl rfl) rfl ?_   -- 75
    refine ow_val (val_extract rfl rfl) rfl ?_   -- 76
    refine ow_new (acts_alloc zD) rfl (fun b18 hb18 => ?_)   -- 18
    refine ow_do_eq (does_store_all 0 rfl rfl rfl (one_u8s _) Tryd.sizeOf43 (by show (List.map vU8 (lg k (seg l 0 i))).length = _; rw [List.length_map]; exact (lg_len h2 _ rfl (seg_all (by assumption)))) (by show (List.map vU8 zeros32).length = _; rw [List.length_map]; exact zeros32_len)) ?_
    refine ow_val (val_assign rfl) rfl ?_   -- 19
    refine ow_nil (into ?_)
    refine sw_seq ?_
    refine sw_seq ?_
    refine sw_region ?_
    refine ow_val (val_move rfl) rfl ?_   -- 77
    refine ow_val (val_not rfl) rfl ?_   -- 78
    refine ow_val (val_move rfl) rfl ?_   -- 79
    refine ow_guard_yes rfl rfl rfl ?_
    refine ow_val (val_move rfl) rfl ?_   -- 80
    refine ow_guard_yes rfl rfl rfl ?_
    refine ow_val (val_not rfl) rfl ?_   -- 81
    refine ow_val (val_pick_false rfl rfl) rfl ?_   -- 82
    refine ow_val (val_move rfl) rfl ?_   -- 83
    refine ow_guard_yes rfl rfl rfl ?_
    refine ow_val (val_move rfl) rfl ?_   -- 84
    refine ow_guard_yes rfl rfl rfl ?_
    refine ow_val (val_not rfl) rfl ?_   -- 85
    refine ow_val (val_pick_false rfl rfl) rfl ?_   -- 86
    refine ow_val (val_move rfl) rfl ?_   -- 87
    refine ow_guard_yes rfl rfl rfl ?_
    refine ow_val (val_load_all 2 rfl rfl Tryd.isAgg43 Tryd.sizeOf43 (by show (List.map vU8 (lg k (seg l 0 i))).length = _; rw [List.length_map]; exact (lg_len h2 _ rfl (seg_all (by assumption))))) rfl ?_   -- 88
    refine ow_guard_yes rfl rfl rfl ?_
    refine ow_val (val_load_all 1 rfl rfl Tryd.isAgg43 Tryd.sizeOf43 (by show (List.map vU8 (lg k (seg l 0 i))).length = _; rw [List.length_map]; exact (lg_len h2 _ rfl (seg_all (by assumption))))) rfl ?_   -- 89
    refine ow_guard_yes rfl rfl rfl ?_
    refine ow_val ((val_neq_u8s rfl rfl Tryd.eqGuardType43 Tryd.underlying43 Tryd.underlying5 Tryd.sizeOf5 Tryd.isAgg5 (lg_len h2 _ rfl (seg_all (by assumption))) (lg_len h2 _ rfl (seg_all (by assumption)))).to (congrArg Value.bool (show _ = false by simp [txt]))) rfl ?_   -- 90
    refine ow_val (val_pick_false rfl rfl) rfl ?_   -- 91
    refine ow_val (val_move rfl) rfl ?_   -- 92
    refine ow_guard_yes rfl rfl rfl ?_
    refine ow_val (val_load_all 1 rfl rfl Tryd.isAgg43 Tryd.sizeOf43 (by show (List.map vU8 (lg k (seg l 0 i))).length = _; rw [List.length_map]; exact (lg_len h2 _ rfl (seg_all (by assumption))))) rfl ?_   -- 93
    refine ow_guard_yes rfl rfl rfl ?_
    refine ow_val (val_load_all 0 rfl rfl Tryd.isAgg43 Tryd.sizeOf43 (by show (List.map vU8 (lg k (seg l 0 i))).length = _; rw [List.length_map]; exact (lg_len h2 _ rfl (seg_all (by assumption))))) rfl ?_   -- 94
    refine ow_guard_yes rfl rfl rfl ?_
    refine ow_val ((val_neq_u8s rfl rfl Tryd.eqGuardType43 Tryd.underlying43 Tryd.underlying5 Tryd.sizeOf5 Tryd.isAgg5 (lg_len h2 _ rfl (seg_all (by assumption))) (lg_len h2 _ rfl (seg_all (by assumption)))).to (congrArg Value.bool (show _ = false by simp [txt]))) rfl ?_   -- 95
    refine ow_val (val_pick_false rfl rfl) rfl ?_   -- 96
    refine ow_nil (into ?_)
    refine sw_false rfl rfl ?_
    refine sw_skip (into ?_)
    refine sw_seq ?_
    refine sw_region ?_
    refine ow_val (val_move rfl) rfl ?_   -- 98
    refine ow_val (val_move rfl) rfl ?_   -- 99
    refine ow_val (val_conv_n_u64 i Tryd.underlying3 Tryd.underlying46 rfl rfl) rfl ?_   -- 100
    refine ow_val ((val_quo_u64 rfl rfl (by decide)).to (congrArg vU64 (of_quo (by omega) (by decide)))) rfl ?_   -- 101
    refine ow_val (val_move rfl) rfl ?_   -- 102
    refine ow_val (val_conv_n_u64 i Tryd.underlying3 Tryd.underlying46 rfl rfl) rfl ?_   -- 103
    refine ow_call_pure (v := .tuple #[.agg ((lg k (seg l (i / 3) i)).map vU8).toArray, vInt ((0 : Nat) : Int)]) (callsTo Tryd.func19 rfl (by kernel_rfl) rfl) rfl (fun w hm => (by have h := range_any k h1 h2 b35 l (by assumption) (by assumption) (UInt64.ofNat (i / 3)) (UInt64.ofNat i) w (hK.mem0 hm) (((htr35.left (T' := es42)).left (T' := es48)).is (hm.heldSub (.cons _ (.cons _ (.cons _ (List.Sublist.refl _)))))) (by omega); rw [rngO_nat k (by omega) (by omega) (by omega)] at h; exact h)) ?_   -- 104
    refine ow_val (val_move rfl) rfl ?_   -- 97
    refine ow_val (val_extract rfl rfl) rfl ?_   -- 105
    refine ow_val (val_extract rfl rfl) rfl ?_   -- 106
    refine ow_new (acts_alloc zD) rfl (fun b20 hb20 => ?_)   -- 20
    refine ow_do_eq (does_store_all 0 rfl rfl rfl (one_u8s _) Tryd.sizeOf43 (by show (List.map vU8 (lg k (seg l (i / 3) i))).length = _; rw [List.length_map]; exact (lg_len h2 _ rfl (seg_all (by assumption)))) (by show (List.map vU8 zeros32).length = _; rw [List.length_map]; exact zeros32_len)) ?_
    refine ow_val (val_assign rfl) rfl ?_   -- 21
    refine ow_nil (into ?_)
    refine sw_seq ?_
    refine sw_region ?_
    refine ow_val (val_move rfl) rfl ?_   -- 108
    refine ow_val (val_move rfl) rfl ?_   -- 109
    refine ow_val (val_conv_n_u64 i Tryd.underlying3 Tryd.underlying46 rfl rfl) rfl ?_   -- 110
    refine ow_val ((val_quo_u64 rfl rfl (by decide)).to (congrArg vU64 (of_quo (by omega) (by decide)))) rfl ?_   -- 111
    refine ow_val (val_move rfl) rfl ?_   -- 112
    refine ow_val (val_conv_n_u64 i Tryd.underlying3 Tryd.underlying46 rfl rfl) rfl ?_   -- 113
    refine ow_call_pure (v := .tuple #[.agg ((lg k (seg l (i / 3) i)).map vU8).toArray, vInt ((0 : Nat) : Int)]) (callsTo Tryd.func19 rfl (by kernel_rfl) rfl) rfl (fun w hm => (by have h := range_any k h1 h2 b42 l (by assumption) (by assumption) (UInt64.ofNat (i / 3)) (UInt64.ofNat i) w (hK.mem0 hm) (((htr42.right (T' := es35)).left (T' := es48)).is (hm.heldSub (.cons _ (.cons _ (.cons _ (.cons _ (List.Sublist.refl _))))))) (by omega); rw [rngO_nat k (by omega) (by omega) (by omega)] at h; exact h)) ?_   -- 114
    refine ow_val (val_move rfl) rfl ?_   -- 107
    refine ow_val (val_extract rfl rfl) rfl ?_   -- 115
    refine ow_val (val_extract rfl rfl) rfl ?_   -- 116
    refine ow_new (acts_alloc zD) rfl (fun b22 hb22 => ?_)   -- 22
    refine ow_do_eq (does_store_all 0 rfl rfl rfl (one_u8s _) Tryd.sizeOf43 (by show (List.map vU8 (lg k (seg l (i / 3) i))).length = _; rw [List.length_map]; exact (lg_len h2 _ rfl (seg_all (by assumption)))) (by show (List.map vU8 zeros32).length = _; rw [List.length_map]; exact zeros32_len)) ?_
    refine ow_val (val_assign rfl) rfl ?_   -- 23
    refine ow_nil (into ?_)
    refine sw_seq ?_
    refine sw_region ?_
    refine ow_val (val_move rfl) rfl ?_   -- 117
    refine ow_val ((val_neq_int rfl rfl).to (v' := .bool false) (congrArg Value.bool (decide_eq_false (fun h => h (by simp))))) rfl ?_   -- 118
    refine ow_val (val_move rfl) rfl ?_   -- 119
    refine ow_guard_yes rfl rfl rfl ?_
    refine ow_val (val_move rfl) rfl ?_   -- 120
    refine ow_guard_yes rfl rfl rfl ?_
    refine ow_val ((val_neq_int rfl rfl).to (v' := .bool false) (congrArg Value.bool (decide_eq_false (fun h => h (by simp))))) rfl ?_   -- 121
    refine ow_val (val_pick_false rfl rfl) rfl ?_   -- 122
    refine ow_val (val_move rfl) rfl ?_   -- 123
    refine ow_guard_yes rfl rfl rfl ?_
    refine ow_val (val_load_all 1 rfl rfl Tryd.isAgg43 Tryd.sizeOf43 (by show (List.map vU8 (lg k (seg l (i / 3) i))).length = _; rw [List.length_map]; exact (lg_len h2 _ rfl (seg_all (by assumption))))) rfl ?_   -- 124
    refine ow_guard_yes rfl rfl rfl ?_
    refine ow_val (val_load_all 0 rfl rfl Tryd.isAgg43 Tryd.sizeOf43 (by show (List.map vU8 (lg k (seg l (i / 3) i))).length = _; rw [List.length_map]; exact (lg_len h2 _ rfl (seg_all (by assumption))))) rfl ?_   -- 125
    refine ow_guard_yes rfl rfl rfl ?_
    refine ow_val ((val_neq_u8s rfl rfl Tryd.eqGuardType43 Tryd.underlying43 Tryd.underlying5 Tryd.sizeOf5 Tryd.isAgg5 (lg_len h2 _ rfl (seg_all (by assumption))) (lg_len h2 _ rfl (seg_all (by assumption)))).to (congrArg Value.bool (show _ = false by simp [txt]))) rfl ?_   -- 126
    refine ow_val (val_pick_false rfl rfl) rfl ?_   -- 127
    refine ow_nil (into ?_)
    refine sw_false rfl rfl ?_
    refine sw_skip (into ?_)
    refine sw_region ?_
    refine ow_val (val_move rfl) rfl ?_   -- 57
    refine ow_val (val_add_int ((i + 1 : Nat) : Int) rfl rfl (by omega) (by omega)) rfl ?_   -- 58
    refine ow_val (val_assign rfl) rfl ?_   -- 13
    exact ow_nil (fun w hm => ⟨i + 1, by omega, by omega, ⟨rfl, rfl, rfl, rfl, rfl, trivial⟩, hm.only (.cons _ (.cons _ (.cons _ (.cons _ (.cons _ (List.Sublist.refl _))))))⟩)
  · -- else
    refine sw_exit (into ?_)
    refine sw_seq ?_
    refine sw_region ?_
    refine ow_val (val_move rfl) rfl ?_   -- 128
    refine ow_call_pure (v := vU64 (UInt64.ofNat l.length)) (callsTo Tryd.func24 rfl (by kernel_rfl) rfl) rfl (fun w hm => tsize_is b35 l w (((htr35.left (T' := es42)).left (T' := es48)).is (hm.heldSub (List.Sublist.refl _)))) ?_   -- 129
    refine ow_val (val_move rfl) rfl ?_   -- 130
    refine ow_val (val_len rfl Tryd.underlying32) rfl ?_   -- 131
    refine ow_val (val_conv_n_u64 l.length Tryd.underlying3 Tryd.underlying46 rfl rfl) rfl ?_   -- 132
    refine ow_val ((val_eql_u64 rfl rfl).to (congrArg Value.bool (decide_eq_true (rfl)))) rfl ?_   -- 133
    refine ow_val (val_move rfl) rfl ?_   -- 134
    refine ow_guard_yes rfl rfl rfl ?_
    refine ow_val (val_move rfl) rfl ?_   -- 135
    refine ow_guard_yes rfl rfl rfl ?_
    refine ow_call_pure (v := vU64 (UInt64.ofNat l.length)) (callsTo Tryd.func24 rfl (by kernel_rfl) rfl) rfl (fun w hm => tsize_is b42 l w (((htr42.right (T' := es35)).left (T' := es48)).is (hm.heldSub (List.Sublist.refl _)))) ?_   -- 136
    refine ow_guard_yes rfl rfl rfl ?_
    refine ow_val (val_move rfl) rfl ?_   -- 137
    refine ow_guard_yes rfl rfl rfl ?_
    refine ow_call_pure (v := vU64 (UInt64.ofNat l.length)) (callsTo Tryd.func24 rfl (by kernel_rfl) rfl) rfl (fun w hm => tsize_is b35 l w (((htr35.left (T' := es42)).left (T' := es48)).is (hm.heldSub (List.Sublist.refl _)))) ?_   -- 138
    refine ow_guard_yes rfl rfl rfl ?_
    refine ow_val ((val_eql_u64 rfl rfl).to (congrArg Value.bool (decide_eq_true (rfl)))) rfl ?_   -- 139
    refine ow_val (val_pick_true rfl rfl) rfl ?_   -- 140
    refine ow_val (val_move rfl) rfl ?_   -- 141
    refine ow_guard_yes rfl rfl rfl ?_
    refine ow_val (val_move rfl) rfl ?_   -- 142
    refine ow_guard_yes rfl rfl rfl ?_
    refine ow_call_pure (v := vU64 (UInt64.ofNat l.length)) (callsTo Tryd.func24 rfl (by kernel_rfl) rfl) rfl (fun w hm => tsize_is b48 l w ((htr48.right (T' := (es35 ++ es42))).is (hm.heldSub (List.Sublist.refl _)))) ?_   -- 143
    refine ow_guard_yes rfl rfl rfl ?_
    refine ow_val (val_move rfl) rfl ?_   -- 144
    refine ow_guard_yes rfl rfl rfl ?_
    refine ow_call_pure (v := vU64 (UInt64.ofNat l.length)) (callsTo Tryd.func24 rfl (by kernel_rfl) rfl) rfl (fun w hm => tsize_is b35 l w (((htr35.left (T' := es42)).left (T' := es48)).is (hm.heldSub (List.Sublist.refl _)))) ?_   -- 145
    refine ow_guard_yes rfl rfl rfl ?_
    refine ow_val ((val_eql_u64 rfl rfl).to (congrArg Value.bool (decide_eq_true (rfl)))) rfl ?_   -- 146
    refine ow_val (val_pick_true rfl rfl) rfl ?_   -- 147
    refine ow_val (val_assign rfl) rfl ?_   -- 6
    refine ow_nil (into ?_)
    refine sw_ret (fun w hm => ?_)
    try dsimp only [thenP, blockP, Nat.beq, cond]
    exact ret_one _ rfl rfl ⟨rfl, hm.forgetAll⟩

theorem anyhow_b (k : Nat) (h1 : 1 ≤ k) (h2 : k ≤ 32) (st : Int) (h5 : ¬ st < 1) (h6 : 400 < st) (w : World) (hK : KW w) (a : Option Addr) (c : Nat) (l : List (List UInt8)) (hdl : ∀ d ∈ l, d.length = 32) (hr : Rd w a (l.flatMap fun d => d.map vU8)) (hc : l.length ≤ c) (hl : l.length < 9223372036854775808) (hfl : ∀ d ∈ l, fm (k : Int) d = true) (h4 : l.length ≤ 400) : Calls Tryd.prog 8 #[vInt (k : Int), .slice a l.length c, vInt st] w fun e w' => ∃ v, e = .returned v ∧ v = .bool true ∧ Mem w [] [] w' := by
  refine calls_of_sw (vs := [vInt (k : Int), .slice a l.length c, vInt st]) Tryd.func8 rfl Tryd.ntmps8 rfl (SW.begin ?_)
  refine sw_seq ?_
  refine sw_region ?_
  refine ow_val (val_assign rfl) rfl ?_   -- 6
  refine ow_nil (into ?_)
  refine sw_seq ?_
  refine sw_seq ?_
  refine sw_region ?_
  refine ow_call_pure (v := .bool true) (callsTo Tryd.func12 rfl (by kernel_rfl) rfl) rfl (fun w hm => awake_any w (hK.mem0 hm)) ?_   -- 24
  refine ow_val (val_not rfl) rfl ?_   -- 25
  refine ow_nil (into ?_)
  refine sw_false rfl rfl ?_
  refine sw_skip (into ?_)
  refine sw_seq ?_
  refine sw_seq ?_
  refine sw_region ?_
  refine ow_val (val_move rfl) rfl ?_   -- 26
  refine ow_val ((val_lss_int rfl rfl).to (congrArg Value.bool (decide_eq_false (by omega)))) rfl ?_   -- 27
  refine ow_val (val_move rfl) rfl ?_   -- 28
  refine ow_guard_yes rfl rfl rfl ?_
  refine ow_val (val_move rfl) rfl ?_   -- 29
  refine ow_guard_yes rfl rfl rfl ?_
  refine ow_val ((val_gtr_int rfl rfl).to (congrArg Value.bool (decide_eq_true (by omega)))) rfl ?_   -- 30
  refine ow_val (val_pick_false rfl rfl) rfl ?_   -- 31
  refine ow_nil (into ?_)
  refine sw_true rfl rfl ?_
  refine sw_region ?_
  refine ow_val (val_assign rfl) rfl ?_   -- 2
  refine ow_nil (into ?_)
  refine sw_seq ?_
  refine sw_region ?_
  refine ow_val (val_move rfl) rfl ?_   -- 33
  refine ow_val (val_move rfl) rfl ?_   -- 34
  refine ow_call_tail (σ := Nat × List Ent) (fun q9 => .tuple #[vPtr q9.1, .bool true]) (fun q9 => q9.2) (fun q9 => TrOn 95 75 k q9.2 q9.1 l) (callsTo Tryd.func18 rfl (by kernel_rfl) rfl) rfl (fun w hm => grown_any k h1 h2 1 (by omega) (by omega) w (hK.mem0 hm) a l.length c l rfl hdl (hr.mem hm) (by omega) (by omega) (by omega) (by assumption)) ?_   -- 35
  rintro ⟨b35, es35⟩ htr35
  simp only at htr35 ⊢
  refine ow_val (val_move rfl) rfl ?_   -- 32
  refine ow_val (val_extract rfl rfl) rfl ?_   -- 36
  refine ow_val (val_extract rfl rfl) rfl ?_   -- 37
  refine ow_val (val_assign rfl) rfl ?_   -- 7
  refine ow_val (val_assign rfl) rfl ?_   -- 8
  refine ow_nil (into ?_)
  refine sw_seq ?_
  refine sw_region ?_
  refine ow_val (val_move rfl) rfl ?_   -- 39
  refine ow_val (val_move rfl) rfl ?_   -- 40
  refine ow_val (val_move rfl) rfl ?_   -- 41
  refine ow_call_tail (σ := Nat × List Ent) (fun q9 => .tuple #[vPtr q9.1, .bool true]) (fun q9 => q9.2) (fun q9 => TrOn 95 75 k q9.2 q9.1 l) (callsTo Tryd.func18 rfl (by kernel_rfl) rfl) rfl (fun w hm => grown_any k h1 h2 3 (by omega) (by omega) w (hK.mem0 hm) a l.length c l rfl hdl (hr.mem hm) (by omega) (by omega) (by omega) (by assumption)) ?_   -- 42
  rintro ⟨b42, es42⟩ htr42
  simp only at htr42 ⊢
  refine ow_val (val_move rfl) rfl ?_   -- 38
  refine ow_val (val_extract rfl rfl) rfl ?_   -- 43
  refine ow_val (val_extract rfl rfl) rfl ?_   -- 44
  refine ow_val (val_assign rfl) rfl ?_   -- 9
  refine ow_val (val_assign rfl) rfl ?_   -- 10
  refine ow_nil (into ?_)
  refine sw_seq ?_
  refine sw_region ?_
  refine ow_val (val_move rfl) rfl ?_   -- 46
  refine ow_val (val_move rfl) rfl ?_   -- 47
  refine ow_call_tail (σ := Nat × List Ent) (fun q9 => .tuple #[vPtr q9.1, .bool true]) (fun q9 => q9.2) (fun q9 => TrOn 95 75 k q9.2 q9.1 l) (callsTo Tryd.func18 rfl (by kernel_rfl) rfl) rfl (fun w hm => grown_any k h1 h2 400 (by omega) (by omega) w (hK.mem0 hm) a l.length c l rfl hdl (hr.mem hm) (by omega) (by omega) (by omega) (by assumption)) ?_   -- 48
  rintro ⟨b48, es48⟩ htr48
  simp only at htr48 ⊢
  refine ow_val (val_move rfl) rfl ?_   -- 45
  refine ow_val (val_extract rfl rfl) rfl ?_   -- 49
  refine ow_val (val_extract rfl rfl) rfl ?_   -- 50
  refine ow_val (val_assign rfl) rfl ?_   -- 11
  refine ow_val (val_assign rfl) rfl ?_   -- 12
  refine ow_nil (into ?_)
  refine sw_seq ?_
  refine sw_seq ?_
  refine sw_region ?_
  refine ow_val (val_move rfl) rfl ?_   -- 51
  refine ow_val (val_not rfl) rfl ?_   -- 52
  refine ow_nil (into ?_)
  refine sw_false rfl rfl ?_
  refine sw_skip (into ?_)
  refine sw_seq ?_
  refine sw_seq ?_
  refine sw_region ?_
  refine ow_val (val_assign rfl) rfl ?_   -- 13
  refine ow_nil (into ?_)
  refine sw_block ?_
  refine sw_loop (σ := Nat) (fun i => i ≤ l.length + 1) (fun i => [(13, vInt (i : Int)), (1, .slice a l.length c), (7, vPtr b35), (9, vPtr b42), (11, vPtr b48)]) (fun _ => Mem w [] ((es35 ++ es42) ++ es48)) (fun i => l.length + 1 - i) 0 (Nat.zero_le _) ⟨rfl, rfl, rfl, rfl, rfl, trivial⟩ (fun w hm => hm.only (List.Sublist.refl _)) ?_
  intro i hi
  refine sw_seq ?_
  refine sw_seq ?_
  refine sw_region ?_
  refine ow_val (val_move rfl) rfl ?_   -- 53
  refine ow_val (val_move rfl) rfl ?_   -- 54
  refine ow_val (val_len rfl Tryd.underlying32) rfl ?_   -- 55
  refine ow_val (val_leq_int rfl rfl) rfl ?_   -- 56
  refine ow_nil (into ?_)
  refine sw_if rfl (fun h0 => ?_) (fun h0 => ?_)
  · -- then
    refine sw_skip (into ?_)
    refine sw_seq ?_
    refine sw_block ?_
    refine sw_seq ?_
    refine sw_region ?_
    refine ow_val (val_move rfl) rfl ?_   -- 60
    refine ow_val (val_move rfl) rfl ?_   -- 61
    refine ow_call_pure (v := .tuple #[.agg ((lg k (seg l 0 i)).map vU8).toArray, .bool true]) (callsTo Tryd.func31 rfl (by kernel_rfl) rfl) rfl (fun w hm => rooted_any k h1 h2 w (hK.mem0 hm) b35 l (((htr35.left (T' := es42)).left (T' := es48)).is (hm.heldSub (List.Sublist.refl _))) (by assumption) (by assumption) i (by omega) (by omega)) ?_   -- 62
    refine ow_val (val_move rfl) rfl ?_   -- 59
    refine ow_val (val_extract rfl rfl) rfl ?_   -- 63
    refine ow_val (val_extract rfl rfl) rfl ?_   -- 64
    refine ow_new (acts_alloc zD) rfl (fun b14 hb14 => ?_)   -- 14
    refine ow_do_eq (does_store_all 0 rfl rfl rfl (one_u8s _) Tryd.sizeOf43 (by show (List.map vU8 (lg k (seg l 0 i))).length = _; rw [List.length_map]; exact (lg_len h2 _ rfl (seg_all (by assumption)))) (by show (List.map vU8 zeros32).length = _; rw [List.length_map]; exact zeros32_len)) ?_
    refine ow_val (val_assign rfl) rfl ?_   -- 15
    refine ow_nil (into ?_)
    refine sw_seq ?_
    refine sw_region ?_
    refine ow_val (val_move rfl) rfl ?_   -- 66
    refine ow_val (val_move rfl) rfl ?_   -- 67
    refine ow_call_pure (v := .tuple #[.agg ((lg k (seg l 0 i)).map vU8).toArray, .bool true]) (callsTo Tryd.func31 rfl (by kernel_rfl) rfl) rfl (fun w hm => rooted_any k h1 h2 w (hK.mem0 hm) b42 l (((htr42.right (T' := es35)).left (T' := es48)).is (hm.heldSub (.cons _ (List.Sublist.refl _)))) (by assumption) (by assumption) i (by omega) (by omega)) ?_   -- 68
    refine ow_val (val_move rfl) rfl ?_   -- 65
    refine ow_val (val_extract rfl rfl) rfl ?_   -- 69
    refine ow_val (val_extract rfl rfl) rfl ?_   -- 70
    refine ow_new (acts_alloc zD) rfl (fun b16 hb16 => ?_)   -- 16
    refine ow_do_eq (does_store_all 0 rfl rfl rfl (one_u8s _) Tryd.sizeOf43 (by show (List.map vU8 (lg k (seg l 0 i))).length = _; rw [List.length_map]; exact (lg_len h2 _ rfl (seg_all (by assumption)))) (by show (List.map vU8 zeros32).length = _; rw [List.length_map]; exact zeros32_len)) ?_
    refine ow_val (val_assign rfl) rfl ?_   -- 17
    refine ow_nil (into ?_)
    refine sw_seq ?_
    refine sw_region ?_
    refine ow_val (val_move rfl) rfl ?_   -- 72
    refine ow_val (val_move rfl) rfl ?_   -- 73
    refine ow_call_pure (v := .tuple #[.agg ((lg k (seg l 0 i)).map vU8).toArray, .bool true]) (callsTo Tryd.func31 rfl (by kernel_rfl) rfl) rfl (fun w hm => rooted_any k h1 h2 w (hK.mem0 hm) b48 l ((htr48.right (T' := (es35 ++ es42))).is (hm.heldSub (.cons _ (.cons _ (List.Sublist.refl _))))) (by assumption) (by assumption) i (by omega) (by omega)) ?_   -- 74
    refine ow_val (val_move rfl) rfl ?_   -- 71
    refine ow_val (val_extract rfl rfl) rfl ?_   -- 75
    refine ow_val (val_extract rfl rfl) rfl ?_   -- 76
    refine ow_new (acts_alloc zD) rfl (fun b18 hb18 => ?_)   -- 18
    refine ow_do_eq (does_store_all 0 rfl rfl rfl (one_u8s _) Tryd.sizeOf43 (by show (List.map vU8 (lg k (seg l 0 i))).length = _; rw [List.length_map]; exact (lg_len h2 _ rfl (seg_all (by assumption)))) (by show (List.map vU8 zeros32).length = _; rw [List.length_map]; exact zeros32_len)) ?_
    refine ow_val (val_assign rfl) rfl ?_   -- 19
    refine ow_nil (into ?_)
    refine sw_seq ?_
    refine sw_seq ?_
    refine sw_region ?_
    refine ow_val (val_move rfl) rfl ?_   -- 77
    refine ow_val (val_not rfl) rfl ?_   -- 78
    refine ow_val (val_move rfl) rfl ?_   -- 79
    refine ow_guard_yes rfl rfl rfl ?_
    refine ow_val (val_move rfl) rfl ?_   -- 80
    refine ow_guard_yes rfl rfl rfl ?_
    refine ow_val (val_not rfl) rfl ?_   -- 81
    refine ow_val (val_pick_false rfl rfl) rfl ?_   -- 82
    refine ow_val (val_move rfl) rfl ?_   -- 83
    refine ow_guard_yes rfl rfl rfl ?_
    refine ow_val (val_move rfl) rfl ?_   -- 84
    refine ow_guard_yes rfl rfl rfl ?_
    refine ow_val (val_not rfl) rfl ?_   -- 85
    refine ow_val (val_pick_false rfl rfl) rfl ?_   -- 86
    refine ow_val (val_move rfl) rfl ?_   -- 87
    refine ow_guard_yes rfl rfl rfl ?_
    refine ow_val (val_load_all 2 rfl rfl Tryd.isAgg43 Tryd.sizeOf43 (by show (List.map vU8 (lg k (seg l 0 i))).length = _; rw [List.length_map]; exact (lg_len h2 _ rfl (seg_all (by assumption))))) rfl ?_   -- 88
    refine ow_guard_yes rfl rfl rfl ?_
    refine ow_val (val_load_all 1 rfl rfl Tryd.isAgg43 Tryd.sizeOf43 (by show (List.map vU8 (lg k (seg l 0 i))).length = _; rw [List.length_map]; exact (lg_len h2 _ rfl (seg_all (by assumption))))) rfl ?_   -- 89
    refine ow_guard_yes rfl rfl rfl ?_
    refine ow_val ((val_neq_u8s rfl rfl Tryd.eqGuardType43 Tryd.underlying43 Tryd.underlying5 Tryd.sizeOf5 Tryd.isAgg5 (lg_len h2 _ rfl (seg_all (by assumption))) (lg_len h2 _ rfl (seg_all (by assumption)))).to (congrArg Value.bool (show _ = false by simp [txt]))) rfl ?_   -- 90
    refine ow_val (val_pick_false rfl rfl) rfl ?_   -- 91
    refine ow_val (val_move rfl) rfl ?_   -- 92
    refine ow_guard_yes rfl rfl rfl ?_
    refine ow_val (val_load_all 1 rfl rfl Tryd.isAgg43 Tryd.sizeOf43 (by show (List.map vU8 (lg k (seg l 0 i))).length = _; rw [List.length_map]; exact (lg_len h2 _ rfl (seg_all (by assumption))))) rfl ?_   -- 93
    refine ow_guard_yes rfl rfl rfl ?_
    refine ow_val (val_load_all 0 rfl rfl Tryd.isAgg43 Tryd.sizeOf43 (by show (List.map vU8 (lg k (seg l 0 i))).length = _; rw [List.length_map]; exact (lg_len h2 _ rfl (seg_all (by assumption))))) rfl ?_   -- 94
    refine ow_guard_yes rfl rfl rfl ?_
    refine ow_val ((val_neq_u8s rfl rfl Tryd.eqGuardType43 Tryd.underlying43 Tryd.underlying5 Tryd.sizeOf5 Tryd.isAgg5 (lg_len h2 _ rfl (seg_all (by assumption))) (lg_len h2 _ rfl (seg_all (by assumption)))).to (congrArg Value.bool (show _ = false by simp [txt]))) rfl ?_   -- 95
    refine ow_val (val_pick_false rfl rfl) rfl ?_   -- 96
    refine ow_nil (into ?_)
    refine sw_false rfl rfl ?_
    refine sw_skip (into ?_)
    refine sw_seq ?_
    refine sw_region ?_
    refine ow_val (val_move rfl) rfl ?_   -- 98
    refine ow_val (val_move rfl) rfl ?_   -- 99
    refine ow_val (val_conv_n_u64 i Tryd.underlying3 Tryd.underlying46 rfl rfl) rfl ?_   -- 100
    refine ow_val ((val_quo_u64 rfl rfl (by decide)).to (congrArg vU64 (of_quo (by omega) (by decide)))) rfl ?_   -- 101
    refine ow_val (val_move rfl) rfl ?_   -- 102
    refine ow_val (val_conv_n_u64 i Tryd.underlying3 Tryd.underlying46 rfl rfl) rfl ?_   -- 103
    refine ow_call_pure (v := .tuple #[.agg ((lg k (seg l (i / 3) i)).map vU8).toArray, vInt ((0 : Nat) : Int)]) (callsTo Tryd.func19 rfl (by kernel_rfl) rfl) rfl (fun w hm => (by have h := range_any k h1 h2 b35 l (by assumption) (by assumption) (UInt64.ofNat (i / 3)) (UInt64.ofNat i) w (hK.mem0 hm) (((htr35.left (T' := es42)).left (T' := es48)).is (hm.heldSub (.cons _ (.cons _ (.cons _ (List.Sublist.refl _)))))) (by omega); rw [rngO_nat k (by omega) (by omega) (by omega)] at h; exact h)) ?_   -- 104
    refine ow_val (val_move rfl) rfl ?_   -- 97
    refine ow_val (val_extract rfl rfl) rfl ?_   -- 105
    refine ow_val (val_extract rfl rfl) rfl ?_   -- 106
    refine ow_new (acts_alloc zD) rfl (fun b20 hb20 => ?_)   -- 20
    refine ow_do_eq (does_store_all 0 rfl rfl rfl (one_u8s _) Tryd.sizeOf43 (by show (List.map vU8 (lg k (seg l (i / 3) i))).length = _; rw [List.length_map]; exact (lg_len h2 _ rfl (seg_all (by assumption)))) (by show (List.map vU8 zeros32).length = _; rw [List.length_map]; exact zeros32_len)) ?_
    refine ow_val (val_assign rfl) rfl ?_   -- 21
    refine ow_nil (into ?_)
    refine sw_seq ?_
    refine sw_region ?_
    refine ow_val (val_move rfl) rfl ?_   -- 108
    refine ow_val (val_move rfl) rfl ?_   -- 109
    refine ow_val (val_conv_n_u64 i Tryd.underlying3 Tryd.underlying46 rfl rfl) rfl ?_   -- 110
    refine ow_val ((val_quo_u64 rfl rfl (by decide)).to (congrArg vU64 (of_quo (by omega) (by decide)))) rfl ?_   -- 111
    refine ow_val (val_move rfl) rfl ?_   -- 112
    refine ow_val (val_conv_n_u64 i Tryd.underlying3 Tryd.underlying46 rfl rfl) rfl ?_   -- 113
    refine ow_call_pure (v := .tuple #[.agg ((lg k (seg l (i / 3) i)).map vU8).toArray, vInt ((0 : Nat) : Int)]) (callsTo Tryd.func19 rfl (by kernel_rfl) rfl) rfl (fun w hm => (by have h := range_any k h1 h2 b42 l (by assumption) (by assumption) (UInt64.ofNat (i / 3)) (UInt64.ofNat i) w (hK.mem0 hm) (((htr42.right (T' := es35)).left (T' := es48)).is (hm.heldSub (.cons _ (.cons _ (.cons _ (.cons _ (List.Sublist.refl _))))))) (by omega); rw [rngO_nat k (by omega) (by omega) (by omega)] at h; exact h)) ?_   -- 114
    refine ow_val (val_move rfl) rfl ?_   -- 107
    refine ow_val (val_extract rfl rfl) rfl ?_   -- 115
    refine ow_val (val_extract rfl rfl) rfl ?_   -- 116
    refine ow_new (acts_alloc zD) rfl (fun b22 hb22 => ?_)   -- 22
    refine ow_do_eq (does_store_all 0 rfl rfl rfl (one_u8s _) Tryd.sizeOf43 (by show (List.map vU8 (lg k (seg l (i / 3) i))).length = _; rw [List.length_map]; exact (lg_len h2 _ rfl (seg_all (by assumption)))) (by show (List.map vU8 zeros32).length = _; rw [List.length_map]; exact zeros32_len)) ?_
    refine ow_val (val_assign rfl) rfl ?_   -- 23
    refine ow_nil (into ?_)
    refine sw_seq ?_
    refine sw_region ?_
    refine ow_val (val_move rfl) rfl ?_   -- 117
    refine ow_val ((val_neq_int rfl rfl).to (v' := .bool false) (congrArg Value.bool (decide_eq_false (fun h => h (by simp))))) rfl ?_   -- 118
    refine ow_val (val_move rfl) rfl ?_   -- 119
    refine ow_guard_yes rfl rfl rfl ?_
    refine ow_val (val_move rfl) rfl ?_   -- 120
    refine ow_guard_yes rfl rfl rfl ?_
    refine ow_val ((val_neq_int rfl rfl).to (v' := .bool false) (congrArg Value.bool (decide_eq_false (fun h => h (by simp))))) rfl ?_   -- 121
    refine ow_val (val_pick_false rfl rfl) rfl ?_   -- 122
    refine ow_val (val_move rfl) rfl ?_   -- 123
    refine ow_guard_yes rfl rfl rfl ?_
    refine ow_val (val_load_all 1 rfl rfl Tryd.isAgg43 Tryd.sizeOf43 (by show (List.map vU8 (lg k (seg l (i / 3) i))).length = _; rw [List.length_map]; exact (lg_len h2 _ rfl (seg_all (by assumption))))) rfl ?_   -- 124
    refine ow_guard_yes rfl rfl rfl ?_
    refine ow_val (val_load_all 0 rfl rfl Tryd.isAgg43 Tryd.sizeOf43 (by show (List.map vU8 (lg k (seg l (i / 3) i))).length = _; rw [List.length_map]; exact (lg_len h2 _ rfl (seg_all (by assumption))))) rfl ?_   -- 125
    refine ow_guard_yes rfl rfl rfl ?_
    refine ow_val ((val_neq_u8s rfl rfl Tryd.eqGuardType43 Tryd.underlying43 Tryd.underlying5 Tryd.sizeOf5 Tryd.isAgg5 (lg_len h2 _ rfl (seg_all (by assumption))) (lg_len h2 _ rfl (seg_all (by assumption)))).to (congrArg Value.bool (show _ = false by simp [txt]))) rfl ?_   -- 126
    refine ow_val (val_pick_false rfl rfl) rfl ?_   -- 127
    refine ow_nil (into ?_)
    refine sw_false rfl rfl ?_
    refine sw_skip (into ?_)
    refine sw_region ?_
    refine ow_val (val_move rfl) rfl ?_   -- 57
    refine ow_val (val_add_int ((i + 1 : Nat) : Int) rfl rfl (by omega) (by omega)) rfl ?_   -- 58
    refine ow_val (val_assign rfl) rfl ?_   -- 13
    exact ow_nil (fun w hm => ⟨i + 1, by omega, by omega, ⟨rfl, rfl, rfl, rfl, rfl, trivial⟩, hm.only (.cons _ (.cons _ (.cons _ (.cons _ (.cons _ (List.Sublist.refl _))))))⟩)
  · -- else
    refine sw_exit (into ?_)
    refine sw_seq ?_
    refine sw_region ?_
    refine ow_val (val_move rfl) rfl ?_   -- 128
    refine ow_call_pure (v := vU64 (UInt64.ofNat l.length)) (callsTo Tryd.func24 rfl (by kernel_rfl) rfl) rfl (fun w hm => tsize_is b35 l w (((htr35.left (T' := es42)).left (T' := es48)).is (hm.heldSub (List.Sublist.refl _)))) ?_   -- 129
    refine ow_val (val_move rfl) rfl ?_   -- 130
    refine ow_val (val_len rfl Tryd.underlying32) rfl ?_   -- 131
    refine ow_val (val_conv_n_u64 l.length Tryd.underlying3 Tryd.underlying46 rfl rfl) rfl ?_   -- 132
    refine ow_val ((val_eql_u64 rfl rfl).to (congrArg Value.bool (decide_eq_true (rfl)))) rfl ?_   -- 133
    refine ow_val (val_move rfl) rfl ?_   -- 134
    refine ow_guard_yes rfl rfl rfl ?_
    refine ow_val (val_move rfl) rfl ?_   -- 135
    refine ow_guard_yes rfl rfl rfl ?_
    refine ow_call_pure (v := vU64 (UInt64.ofNat l.length)) (callsTo Tryd.func24 rfl (by kernel_rfl) rfl) rfl (fun w hm => tsize_is b42 l w (((htr42.right (T' := es35)).left (T' := es48)).is (hm.heldSub (List.Sublist.refl _)))) ?_   -- 136
    refine ow_guard_yes rfl rfl rfl ?_
    refine ow_val (val_move rfl) rfl ?_   -- 137
    refine ow_guard_yes rfl rfl rfl ?_
    refine ow_call_pure (v := vU64 (UInt64.ofNat l.length)) (callsTo Tryd.func24 rfl (by kernel_rfl) rfl) rfl (fun w hm => tsize_is b35 l w (((htr35.left (T' := es42)).left (T' := es48)).is (hm.heldSub (List.Sublist.refl _)))) ?_   -- 138
    refine ow_guard_yes rfl rfl rfl ?_
    refine ow_val ((val_eql_u64 rfl rfl).to (congrArg Value.bool (decide_eq_true (rfl)))) rfl ?_   -- 139
    refine ow_val (val_pick_true rfl rfl) rfl ?_   -- 140
    refine ow_val (val_move rfl) rfl ?_   -- 141
    refine ow_guard_yes rfl rfl rfl ?_
    refine ow_val (val_move rfl) rfl ?_   -- 142
    refine ow_guard_yes rfl rfl rfl ?_
    refine ow_call_pure (v := vU64 (UInt64.ofNat l.length)) (callsTo Tryd.func24 rfl (by kernel_rfl) rfl) rfl (fun w hm => tsize_is b48 l w ((htr48.right (T' := (es35 ++ es42))).is (hm.heldSub (List.Sublist.refl _)))) ?_   -- 143
    refine ow_guard_yes rfl rfl rfl ?_
    refine ow_val (val_move rfl) rfl ?_   -- 144
    refine ow_guard_yes rfl rfl rfl ?_
    refine ow_call_pure (v := vU64 (UInt64.ofNat l.length)) (callsTo Tryd.func24 rfl (by kernel_rfl) rfl) rfl (fun w hm => tsize_is b35 l w (((htr35.left (T' := es42)).left (T' := es48)).is (hm.heldSub (List.Sublist.refl _)))) ?_   -- 145
    refine ow_guard_yes rfl rfl rfl ?_
    refine ow_val ((val_eql_u64 rfl rfl).to (congrArg Value.bool (decide_eq_true (rfl)))) rfl ?_   -- 146
    refine ow_val (val_pick_true rfl rfl) rfl ?_   -- 147
    refine ow_val (val_assign rfl) rfl ?_   -- 6
    refine ow_nil (into ?_)
    refine sw_ret (fun w hm => ?_)
    try dsimp only [thenP, blockP, Nat.beq, cond]
    exact ret_one _ rfl rfl ⟨rfl, hm.forgetAll⟩

theorem anyhow_c (k : Nat) (h1 : 1 ≤ k) (h2 : k ≤ 32) (s : Nat) (h5 : 1 ≤ s) (h6 : s ≤ 400) (w : World) (hK : KW w) (a : Option Addr) (c : Nat) (l : List (List UInt8)) (hdl : ∀ d ∈ l, d.length = 32) (hr : Rd w a (l.flatMap fun d => d.map vU8)) (hc : l.length ≤ c) (hl : l.length < 9223372036854775808) (hfl : ∀ d ∈ l, fm (k : Int) d = true) (h4 : l.length ≤ 400) : Calls Tryd.prog 8 #[vInt (k : Int), .slice a l.length c, vInt (s : Int)] w fun e w' => ∃ v, e = .returned v ∧ v = .bool true ∧ Mem w [] [] w' := by
  refine calls_of_sw (vs := [vInt (k : Int), .slice a l.length c, vInt (s : Int)]) Tryd.func8 rfl Tryd.ntmps8 rfl (SW.begin ?_)
  refine sw_seq ?_
  refine sw_region ?_
  refine ow_val (val_assign rfl) rfl ?_   -- 6
  refine ow_nil (into ?_)
  refine sw_seq ?_
  refine sw_seq ?_
  refine sw_region ?_
  refine ow_call_pure (v := .bool true) (callsTo Tryd.func12 rfl (by kernel_rfl) rfl) rfl (fun w hm => awake_any w (hK.mem0 hm)) ?_   -- 24
  refine ow_val (val_not rfl) rfl ?_   -- 25
  refine ow_nil (into ?_)
  refine sw_false rfl rfl ?_
  refine sw_skip (into ?_)
  refine sw_seq ?_
  refine sw_seq ?_
  refine sw_region ?_
  refine ow_val (val_move rfl) rfl ?_   -- 26
  refine ow_val ((val_lss_int rfl rfl).to (congrArg Value.bool (decide_eq_false (by omega)))) rfl ?_   -- 27
  refine ow_val (val_move rfl) rfl ?_   -- 28
  refine ow_guard_yes rfl rfl rfl ?_
  refine ow_val (val_move rfl) rfl ?_   -- 29
  refine ow_guard_yes rfl rfl rfl ?_
  refine ow_val ((val_gtr_int rfl rfl).to (congrArg Value.bool (decide_eq_false (by omega)))) rfl ?_   -- 30
  refine ow_val (val_pick_false rfl rfl) rfl ?_   -- 31
  refine ow_nil (into ?_)
  refine sw_false rfl rfl ?_
  refine sw_skip (into ?_)
  refine sw_seq ?_
  refine sw_region ?_
  refine ow_val (val_move rfl) rfl ?_   -- 33
  refine ow_val (val_move rfl) rfl ?_   -- 34
  refine ow_call_tail (σ := Nat × List Ent) (fun q9 => .tuple #[vPtr q9.1, .bool true]) (fun q9 => q9.2) (fun q9 => TrOn 95 75 k q9.2 q9.1 l) (callsTo Tryd.func18 rfl (by kernel_rfl) rfl) rfl (fun w hm => grown_any k h1 h2 1 (by omega) (by omega) w (hK.mem0 hm) a l.length c l rfl hdl (hr.mem hm) (by omega) (by omega) (by omega) (by assumption)) ?_   -- 35
  rintro ⟨b35, es35⟩ htr35
  simp only at htr35 ⊢
  refine ow_val (val_move rfl) rfl ?_   -- 32
  refine ow_val (val_extract rfl rfl) rfl ?_   -- 36
  refine ow_val (val_extract rfl rfl) rfl ?_   -- 37
  refine ow_val (val_assign rfl) rfl ?_   -- 7
  refine ow_val (val_assign rfl) rfl ?_   -- 8
  refine ow_nil (into ?_)
  refine sw_seq ?_
  refine sw_region ?_
  refine ow_val (val_move rfl) rfl ?_   -- 39
  refine ow_val (val_move rfl) rfl ?_   -- 40
  refine ow_val (val_move rfl) rfl ?_   -- 41
  refine ow_call_tail (σ := Nat × List Ent) (fun q9 => .tuple #[vPtr q9.1, .bool true]) (fun q9 => q9.2) (fun q9 => TrOn 95 75 k q9.2 q9.1 l) (callsTo Tryd.func18 rfl (by kernel_rfl) rfl) rfl (fun w hm => grown_any k h1 h2 s (by omega) (by omega) w (hK.mem0 hm) a l.length c l rfl hdl (hr.mem hm) (by omega) (by omega) (by omega) (by assumption)) ?_   -- 42
  rintro ⟨b42, es42⟩ htr42
  simp only at htr42 ⊢
  refine ow_val (val_move rfl) rfl ?_   -- 38
  refine ow_val (val_extract rfl rfl) rfl ?_   -- 43
  refine ow_val (val_extract rfl rfl) rfl ?_   -- 44
  refine ow_val (val_assign rfl) rfl ?_   -- 9
  refine ow_val (val_assign rfl) rfl ?_   -- 10
  refine ow_nil (into ?_)
  refine sw_seq ?_
  refine sw_region ?_
  refine ow_val (val_move rfl) rfl ?_   -- 46
  refine ow_val (val_move rfl) rfl ?_   -- 47
  refine ow_call_tail (σ := Nat × List Ent) (fun q9 => .tuple #[vPtr q9.1, .bool true]) (fun q9 => q9.2) (fun q9 => TrOn 95 75 k q9.2 q9.1 l) (callsTo Tryd.func18 rfl (by kernel_rfl) rfl) rfl (fun w hm => grown_any k h1 h2 400 (by omega) (by omega) w (hK.mem0 hm) a l.length c l rfl hdl (hr.mem hm) (by omega) (by omega) (by omega) (by assumption)) ?_   -- 48
  rintro ⟨b48, es48⟩ htr48
  simp only at htr48 ⊢
  refine ow_val (val_move rfl) rfl ?_   -- 45
  refine ow_val (val_extract rfl rfl) rfl ?_   -- 49
  refine ow_val (val_extract rfl rfl) rfl ?_   -- 50
  refine ow_val (val_assign rfl) rfl ?_   -- 11
  refine ow_val (val_assign rfl) rfl ?_   -- 12
  refine ow_nil (into ?_)
  refine sw_seq ?_
  refine sw_seq ?_
  refine sw_region ?_
  refine ow_val (val_move rfl) rfl ?_   -- 51
  refine ow_val (val_not rfl) rfl ?_   -- 52
  refine ow_nil (into ?_)
  refine sw_false rfl rfl ?_
  refine sw_skip (into ?_)
  refine sw_seq ?_
  refine sw_seq ?_
  refine sw_region ?_
  refine ow_val (val_assign rfl) rfl ?_   -- 13
  refine ow_nil (into ?_)
  refine sw_block ?_
  refine sw_loop (σ := Nat) (fun i => i ≤ l.length + 1) (fun i => [(13, vInt (i : Int)), (1, .slice a l.length c), (7, vPtr b35), (9, vPtr b42), (11, vPtr b48)]) (fun _ => Mem w [] ((es35 ++ es42) ++ es48)) (fun i => l.length + 1 - i) 0 (Nat.zero_le _) ⟨rfl, rfl, rfl, rfl, rfl, trivial⟩ (fun w hm => hm.only (List.Sublist.refl _)) ?_
  intro i hi
  refine sw_seq ?_
  refine sw_seq ?_
  refine sw_region ?_
  refine ow_val (val_move rfl) rfl ?_   -- 53
  refine ow_val (val_move rfl) rfl ?_   -- 54
  refine ow_val (val_len rfl Tryd.underlying32) rfl ?_   -- 55
  refine ow_val (val_leq_int rfl rfl) rfl ?_   -- 56
  refine ow_nil (into ?_)
  refine sw_if rfl (fun h0 => ?_) (fun h0 => ?_)
  · -- then
    refine sw_skip (into ?_)
    refine sw_seq ?_
    refine sw_block ?_
    refine sw_seq ?_
    refine sw_region ?_
    refine ow_val (val_move rfl) rfl ?_   -- 60
    refine ow_val (val_move rfl) rfl ?_   -- 61
    refine ow_call_pure (v := .tuple #[.agg ((lg k (seg l 0 i)).map vU8).toArray, .bool true]) (callsTo Tryd.func31 rfl (by kernel_rfl) rfl) rfl (fun w hm => rooted_any k h1 h2 w (hK.mem0 hm) b35 l (((htr35.left (T' := es42)).left (T' := es48)).is (hm.heldSub (List.Sublist.refl _))) (by assumption) (by assumption) i (by omega) (by omega)) ?_   -- 62
    refine ow_val (val_move rfl) rfl ?_   -- 59
    refine ow_val (val_extract rfl rfl) rfl ?_   -- 63
    refine ow_val (val_extract rfl rfl) rfl ?_   -- 64
    refine ow_new (acts_alloc zD) rfl (fun b14 hb14 => ?_)   -- 14
    refine ow_do_eq (does_store_all 0 rfl rfl rfl (one_u8s _) Tryd.sizeOf43 (by show (List.map vU8 (lg k (seg l 0 i))).length = _; rw [List.length_map]; exact (lg_len h2 _ rfl (seg_all (by assumption)))) (by show (List.map vU8 zeros32).length = _; rw [List.length_map]; exact zeros32_len)) ?_
    refine ow_val (val_assign rfl) rfl ?_   -- 15
    refine ow_nil (into ?_)
    refine sw_seq ?_
    refine sw_region ?_
    refine ow_val (val_move rfl) rfl ?_   -- 66
    refine ow_val (val_move rfl) rfl ?_   -- 67
    refine ow_call_pure (v := .tuple #[.agg ((lg k (seg l 0 i)).map vU8).toArray, .bool true]) (callsTo Tryd.func31 rfl (by kernel_rfl) rfl) rfl (fun w hm => rooted_any k h1 h2 w (hK.mem0 hm) b42 l (((htr42.right (T' := es35)).left (T' := es48)).is (hm.heldSub (.cons _ (List.Sublist.refl _)))) (by assumption) (by assumption) i (by omega) (by omega)) ?_   -- 68
    refine ow_val (val_move rfl) rfl ?_   -- 65
    refine ow_val (val_extract rfl rfl) rfl ?_   -- 69
    refine ow_val (val_extract rfl rfl) rfl ?_   -- 70
    refine ow_new (acts_alloc zD) rfl (fun b16 hb16 => ?_)   -- 16
    refine ow_do_eq (does_store_all 0 rfl rfl rfl (one_u8s _) Tryd.sizeOf43 (by show (List.map vU8 (lg k (seg l 0 i))).length = _; rw [List.length_map]; exact (lg_len h2 _ rfl (seg_all (by assumption)))) (by show (List.map vU8 zeros32).length = _; rw [List.length_map]; exact zeros32_len)) ?_
    refine ow_val (val_assign rfl) rfl ?_   -- 17
    refine ow_nil (into ?_)
    refine sw_seq ?_
    refine sw_region ?_
    refine ow_val (val_move rfl) rfl ?_   -- 72
    refine ow_val (val_move rfl) rfl ?_   -- 73
    refine ow_call_pure (v := .tuple #[.agg ((lg k (seg l 0 i)).map vU8).toArray, .bool true]) (callsTo Tryd.func31 rfl (by kernel_rfl) rfl) rfl (fun w hm => rooted_any k h1 h2 w (hK.mem0 hm) b48 l ((htr48.right (T' := (es35 ++ es42))).is (hm.heldSub (.cons _ (.cons _ (List.Sublist.refl _))))) (by assumption) (by assumption) i (by omega) (by omega)) ?_   -- 74
    refine ow_val (val_move rfl) rfl ?_   -- 71
    refine ow_val (val_extract rfl rfl) rfl ?_   -- 75
    refine ow_val (val_extract rfl rfl) rfl ?_   -- 76
    refine ow_new (acts_alloc zD) rfl (fun b18 hb18 => ?_)   -- 18
    refine ow_do_eq (does_store_all 0 rfl rfl rfl (one_u8s _) Tryd.sizeOf43 (by show (List.map vU8 (lg k (seg l 0 i))).length = _; rw [List.length_map]; exact (lg_len h2 _ rfl (seg_all (by assumption)))) (by show (List.map vU8 zeros32).length = _; rw [List.length_map]; exact zeros32_len)) ?_
    refine ow_val (val_assign rfl) rfl ?_   -- 19
    refine ow_nil (into ?_)
    refine sw_seq ?_
    refine sw_seq ?_
    refine sw_region ?_
    refine ow_val (val_move rfl) rfl ?_   -- 77
    refine ow_val (val_not rfl) rfl ?_   -- 78
    refine ow_val (val_move rfl) rfl ?_   -- 79
    refine ow_guard_yes rfl rfl rfl ?_
    refine ow_val (val_move rfl) rfl ?_   -- 80
    refine ow_guard_yes rfl rfl rfl ?_
    refine ow_val (val_not rfl) rfl ?_   -- 81
    refine ow_val (val_pick_false rfl rfl) rfl ?_   -- 82
    refine ow_val (val_move rfl) rfl ?_   -- 83
    refine ow_guard_yes rfl rfl rfl ?_
    refine ow_val (val_move rfl) rfl ?_   -- 84
    refine ow_guard_yes rfl rfl rfl ?_
    refine ow_val (val_not rfl) rfl ?_   -- 85
    refine ow_val (val_pick_false rfl rfl) rfl ?_   -- 86
    refine ow_val (val_move rfl) rfl ?_   -- 87
    refine ow_guard_yes rfl rfl rfl ?_
    refine ow_val (val_load_all 2 rfl rfl Tryd.isAgg43 Tryd.sizeOf43 (by show (List.map vU8 (lg k (seg l 0 i))).length = _; rw [List.length_map]; exact (lg_len h2 _ rfl (seg_all (by assumption))))) rfl ?_   -- 88
    refine ow_guard_yes rfl rfl rfl ?_
    refine ow_val (val_load_all 1 rfl rfl Tryd.isAgg43 Tryd.sizeOf43 (by show (List.map vU8 (lg k (seg l 0 i))).length = _; rw [List.length_map]; exact (lg_len h2 _ rfl (seg_all (by assumption))))) rfl ?_   -- 89
    refine ow_guard_yes rfl rfl rfl ?_
    refine ow_val ((val_neq_u8s rfl rfl Tryd.eqGuardType43 Tryd.underlying43 Tryd.underlying5 Tryd.sizeOf5 Tryd.isAgg5 (lg_len h2 _ rfl (seg_all (by assumption))) (lg_len h2 _ rfl (seg_all (by assumption)))).to (congrArg Value.bool (show _ = false by simp [txt]))) rfl ?_   -- 90
    refine ow_val (val_pick_false rfl rfl) rfl ?_   -- 91
    refine ow_val (val_move rfl) rfl ?_   -- 92
    refine ow_guard_yes rfl rfl rfl ?_
    refine ow_val (val_load_all 1 rfl rfl Tryd.isAgg43 Tryd.sizeOf43 (by show (List.map vU8 (lg k (seg l 0 i))).length = _; rw [List.length_map]; exact (lg_len h2 _ rfl (seg_all (by assumption))))) rfl ?_   -- 93
    refine ow_guard_yes rfl rfl rfl ?_
    refine ow_val (val_load_all 0 rfl rfl Tryd.isAgg43 Tryd.sizeOf43 (by show (List.map vU8 (lg k (seg l 0 i))).length = _; rw [List.length_map]; exact (lg_len h2 _ rfl (seg_all (by assumption))))) rfl ?_   -- 94
    refine ow_guard_yes rfl rfl rfl ?_
    refine ow_val ((val_neq_u8s rfl rfl Tryd.eqGuardType43 Tryd.underlying43 Tryd.underlying5 Tryd.sizeOf5 Tryd.isAgg5 (lg_len h2 _ rfl (seg_all (by assumption))) (lg_len h2 _ rfl (seg_all (by assumption)))).to (congrArg Value.bool (show _ = false by simp [txt]))) rfl ?_   -- 95
    refine ow_val (val_pick_false rfl rfl) rfl ?_   -- 96
    refine ow_nil (into ?_)
    refine sw_false rfl rfl ?_
    refine sw_skip (into ?_)
    refine sw_seq ?_
    refine sw_region ?_
    refine ow_val (val_move rfl) rfl ?_   -- 98
    refine ow_val (val_move rfl) rfl ?_   -- 99
    refine ow_val (val_conv_n_u64 i Tryd.underlying3 Tryd.underlying46 rfl rfl) rfl ?_   -- 100
    refine ow_val ((val_quo_u64 rfl rfl (by decide)).to (congrArg vU64 (of_quo (by omega) (by decide)))) rfl ?_   -- 101
    refine ow_val (val_move rfl) rfl ?_   -- 102
    refine ow_val (val_conv_n_u64 i Tryd.underlying3 Tryd.underlying46 rfl rfl) rfl ?_   -- 103
    refine ow_call_pure (v := .tuple #[.agg ((lg k (seg l (i / 3) i)).map vU8).toArray, vInt ((0 : Nat) : Int)]) (callsTo Tryd.func19 rfl (by kernel_rfl) rfl) rfl (fun w hm => (by have h := range_any k h1 h2 b35 l (by assumption) (by assumption) (UInt64.ofNat (i / 3)) (UInt64.ofNat i) w (hK.mem0 hm) (((htr35.left (T' := es42)).left (T' := es48)).is (hm.heldSub (.cons _ (.cons _ (.cons _ (List.Sublist.refl _)))))) (by omega); rw [rngO_nat k (by omega) (by omega) (by omega)] at h; exact h)) ?_   -- 104
    refine ow_val (val_move rfl) rfl ?_   -- 97
    refine ow_val (val_extract rfl rfl) rfl ?_   -- 105
    refine ow_val (val_extract rfl rfl) rfl ?_   -- 106
    refine ow_new (acts_alloc zD) rfl (fun b20 hb20 => ?_)   -- 20
    refine ow_do_eq (does_store_all 0 rfl rfl rfl (one_u8s _) Tryd.sizeOf43 (by show (List.map vU8 (lg k (seg l (i / 3) i))).length = _; rw [List.length_map]; exact (lg_len h2 _ rfl (seg_all (by assumption)))) (by show (List.map vU8 zeros32).length = _; rw [List.length_map]; exact zeros32_len)) ?_
    refine ow_val (val_assign rfl) rfl ?_   -- 21
    refine ow_nil (into ?_)
    refine sw_seq ?_
    refine sw_region ?_
    refine ow_val (val_move rfl) rfl ?_   -- 108
    refine ow_val (val_move rfl) rfl ?_   -- 109
    refine ow_val (val_conv_n_u64 i Tryd.underlying3 Tryd.underlying46 rfl rfl) rfl ?_   -- 110
    refine ow_val ((val_quo_u64 rfl rfl (by decide)).to (congrArg vU64 (of_quo (by omega) (by decide)))) rfl ?_   -- 111
    refine ow_val (val_move rfl) rfl ?_   -- 112
    refine ow_val (val_conv_n_u64 i Tryd.underlying3 Tryd.underlying46 rfl rfl) rfl ?_   -- 113
    refine ow_call_pure (v := .tuple #[.agg ((lg k (seg l (i / 3) i)).map vU8).toArray, vInt ((0 : Nat) : Int)]) (callsTo Tryd.func19 rfl (by kernel_rfl) rfl) rfl (fun w hm => (by have h := range_any k h1 h2 b42 l (by assumption) (by assumption) (UInt64.ofNat (i / 3)) (UInt64.ofNat i) w (hK.mem0 hm) (((htr42.right (T' := es35)).left (T' := es48)).is (hm.heldSub (.cons _ (.cons _ (.cons _ (.cons _ (List.Sublist.refl _))))))) (by omega); rw [rngO_nat k (by omega) (by omega) (by omega)] at h; exact h)) ?_   -- 114
    refine ow_val (val_move rfl) rfl ?_   -- 107
    refine ow_val (val_extract rfl rfl) rfl ?_   -- 115
    refine ow_val (val_extract rfl rfl) rfl ?_   -- 116
    refine ow_new (acts_alloc zD) rfl (fun b22 hb22 => ?_)   -- 22
    refine ow_do_eq (does_store_all 0 rfl rfl rfl (one_u8s _) Tryd.sizeOf43 (by show (List.map vU8 (lg k (seg l (i / 3) i))).length = _; rw [List.length_map]; exact (lg_len h2 _ rfl (seg_all (by assumption)))) (by show (List.map vU8 zeros32).length = _; rw [List.length_map]; exact zeros32_len)) ?_
    refine ow_val (val_assign rfl) rfl ?_   -- 23
    refine ow_nil (into ?_)
    refine sw_seq ?_
    refine sw_region ?_
    refine ow_val (val_move rfl) rfl ?_   -- 117
    refine ow_val ((val_neq_int rfl rfl).to (v' := .bool false) (congrArg Value.bool (decide_eq_false (fun h => h (by simp))))) rfl ?_   -- 118
    refine ow_val (val_move rfl) rfl ?_   -- 119
    refine ow_guard_yes rfl rfl rfl ?_
    refine ow_val (val_move rfl) rfl ?_   -- 120
    refine ow_guard_yes rfl rfl rfl ?_
    refine ow_val ((val_neq_int rfl rfl).to (v' := .bool false) (congrArg Value.bool (decide_eq_false (fun h => h (by simp))))) rfl ?_   -- 121
    refine ow_val (val_pick_false rfl rfl) rfl ?_   -- 122
    refine ow_val (val_move rfl) rfl ?_   -- 123
    refine ow_guard_yes rfl rfl rfl ?_
    refine ow_val (val_load_all 1 rfl rfl Tryd.isAgg43 Tryd.sizeOf43 (by show (List.map vU8 (lg k (seg l (i / 3) i))).length = _; rw [List.length_map]; exact (lg_len h2 _ rfl (seg_all (by assumption))))) rfl ?_   -- 124
    refine ow_guard_yes rfl rfl rfl ?_
    refine ow_val (val_load_all 0 rfl rfl Tryd.isAgg43 Tryd.sizeOf43 (by show (List.map vU8 (lg k (seg l (i / 3) i))).length = _; rw [List.length_map]; exact (lg_len h2 _ rfl (seg_all (by assumption))))) rfl ?_   -- 125
    refine ow_guard_yes rfl rfl rfl ?_
    refine ow_val ((val_neq_u8s rfl rfl Tryd.eqGuardType43 Tryd.underlying43 Tryd.underlying5 Tryd.sizeOf5 Tryd.isAgg5 (lg_len h2 _ rfl (seg_all (by assumption))) (lg_len h2 _ rfl (seg_all (by assumption)))).to (congrArg Value.bool (show _ = false by simp [txt]))) rfl ?_   -- 126
    refine ow_val (val_pick_false rfl rfl) rfl ?_   -- 127
    refine ow_nil (into ?_)
    refine sw_false rfl rfl ?_
    refine sw_skip (into ?_)
    refine sw_region ?_
    refine ow_val (val_move rfl) rfl ?_   -- 57
    refine ow_val (val_add_int ((i + 1 : Nat) : Int) rfl rfl (by omega) (by omega)) rfl ?_   -- 58
    refine ow_val (val_assign rfl) rfl ?_   -- 13
    exact ow_nil (fun w hm => ⟨i + 1, by omega, by omega, ⟨rfl, rfl, rfl, rfl, rfl, trivial⟩, hm.only (.cons _ (.cons _ (.cons _ (.cons _ (.cons _ (List.Sublist.refl _))))))⟩)
  · -- else
    refine sw_exit (into ?_)
    refine sw_seq ?_
    refine sw_region ?_
    refine ow_val (val_move rfl) rfl ?_   -- 128
    refine ow_call_pure (v := vU64 (UInt64.ofNat l.length)) (callsTo Tryd.func24 rfl (by kernel_rfl) rfl) rfl (fun w hm => tsize_is b35 l w (((htr35.left (T' := es42)).left (T' := es48)).is (hm.heldSub (List.Sublist.refl _)))) ?_   -- 129
    refine ow_val (val_move rfl) rfl ?_   -- 130
    refine ow_val (val_len rfl Tryd.underlying32) rfl ?_   -- 131
    refine ow_val (val_conv_n_u64 l.length Tryd.underlying3 Tryd.underlying46 rfl rfl) rfl ?_   -- 132
    refine ow_val ((val_eql_u64 rfl rfl).to (congrArg Value.bool (decide_eq_true (rfl)))) rfl ?_   -- 133
    refine ow_val (val_move rfl) rfl ?_   -- 134
    refine ow_guard_yes rfl rfl rfl ?_
    refine ow_val (val_move rfl) rfl ?_   -- 135
    refine ow_guard_yes rfl rfl rfl ?_
    refine ow_call_pure (v := vU64 (UInt64.ofNat l.length)) (callsTo Tryd.func24 rfl (by kernel_rfl) rfl) rfl (fun w hm => tsize_is b42 l w (((htr42.right (T' := es35)).left (T' := es48)).is (hm.heldSub (List.Sublist.refl _)))) ?_   -- 136
    refine ow_guard_yes rfl rfl rfl ?_
    refine ow_val (val_move rfl) rfl ?_   -- 137
    refine ow_guard_yes rfl rfl rfl ?_
    refine ow_call_pure (v := vU64 (UInt64.ofNat l.length)) (callsTo Tryd.func24 rfl (by kernel_rfl) rfl) rfl (fun w hm => tsize_is b35 l w (((htr35.left (T' := es42)).left (T' := es48)).is (hm.heldSub (List.Sublist.refl _)))) ?_   -- 138
    refine ow_guard_yes rfl rfl rfl ?_
    refine ow_val ((val_eql_u64 rfl rfl).to (congrArg Value.bool (decide_eq_true (rfl)))) rfl ?_   -- 139
    refine ow_val (val_pick_true rfl rfl) rfl ?_   -- 140
    refine ow_val (val_move rfl) rfl ?_   -- 141
    refine ow_guard_yes rfl rfl rfl ?_
    refine ow_val (val_move rfl) rfl ?_   -- 142
    refine ow_guard_yes rfl rfl rfl ?_
    refine ow_call_pure (v := vU64 (UInt64.ofNat l.length)) (callsTo Tryd.func24 rfl (by kernel_rfl) rfl) rfl (fun w hm => tsize_is b48 l w ((htr48.right (T' := (es35 ++ es42))).is (hm.heldSub (List.Sublist.refl _)))) ?_   -- 143
    refine ow_guard_yes rfl rfl rfl ?_
    refine ow_val (val_move rfl) rfl ?_   -- 144
    refine ow_guard_yes rfl rfl rfl ?_
    refine ow_call_pure (v := vU64 (UInt64.ofNat l.length)) (callsTo Tryd.func24 rfl (by kernel_rfl) rfl) rfl (fun w hm => tsize_is b35 l w (((htr35.left (T' := es42)).left (T' := es48)).is (hm.heldSub (List.Sublist.refl _)))) ?_   -- 145
    refine ow_guard_yes rfl rfl rfl ?_
    refine ow_val ((val_eql_u64 rfl rfl).to (congrArg Value.bool (decide_eq_true (rfl)))) rfl ?_   -- 146
    refine ow_val (val_pick_true rfl rfl) rfl ?_   -- 147
    refine ow_val (val_assign rfl) rfl ?_   -- 6
    refine ow_nil (into ?_)
    exact sw_ret (fun w hm => ret_one _ rfl rfl ⟨rfl, hm.forgetAll⟩)

theorem mtreeAnyhow_any (v0 st : Int) (w : World) (hK : KW w) (a : Option Addr) (c : Nat) (l : List (List UInt8)) (hdl : ∀ d ∈ l, d.length = 32) (hr : Rd w a (l.flatMap fun d => d.map vU8)) (hc : l.length ≤ c) (hl : l.length < 9223372036854775808) : Calls Tryd.prog 8 #[vInt v0, .slice a l.length c, vInt st] w fun e w' => ∃ v, e = .returned v ∧ v = .bool true ∧ Mem w [] [] w' := by
  by_cases hno : l.length ≤ 400 ∧ fitO v0 l = true
  · obtain ⟨h4, hf⟩ := hno
    obtain ⟨hwd, hfl⟩ := fitO_iff.1 hf
    have h9 := wd_iff.1 hwd
    obtain ⟨k, rfl⟩ : ∃ k : Nat, v0 = (k : Int) := ⟨v0.toNat, by omega⟩
    by_cases h5 : st < 1
    · exact anyhow_a k (by omega) (by omega) st h5 w hK a c l hdl hr hc hl hfl h4
    by_cases h6 : 400 < st
    · exact anyhow_b k (by omega) (by omega) st h5 h6 w hK a c l hdl hr hc hl hfl h4
    · obtain ⟨s, rfl⟩ : ∃ s : Nat, st = (s : Int) := ⟨st.toNat, by omega⟩
      exact anyhow_c k (by omega) (by omega) s (by omega) (by omega) w hK a c l hdl hr hc hl hfl h4
  · exact anyhow_none v0 st w hK a c l hdl hr hc hl hno

theorem forks_none (v0 : Int) (w : World) (hK : KW w) (a : Option Addr) (c : Nat) (l : List (List UInt8)) (hdl : ∀ d ∈ l, d.length = 32) (hr : Rd w a (l.flatMap fun d => d.map vU8)) (hc : l.length ≤ c) (hl : l.length < 9223372036854775808) (a1 : Option Addr) (c1 : Nat) (lm : List (List UInt8)) (hd1 : ∀ d ∈ lm, d.length = 32) (hr1 : Rd w a1 (lm.flatMap fun d => d.map vU8)) (hc1 : lm.length ≤ c1) (hl1 : lm.length < 9223372036854775808) (a2 : Option Addr) (c2 : Nat) (lr : List (List UInt8)) (hd2 : ∀ d ∈ lr, d.length = 32) (hr2 : Rd w a2 (lr.flatMap fun d => d.map vU8)) (hc2 : lr.length ≤ c2) (hl2 : lr.length < 9223372036854775808) (hno : ¬ (l.length ≤ 400 ∧ fitO v0 l = true)) : Calls Tryd.prog 9 #[vInt v0, .slice a l.length c, .slice a1 lm.length c1, .slice a2 lr.length c2] w fun e w' => ∃ v, e = .returned v ∧ v = .bool true ∧ Mem w [] [] w' := by
  refine calls_of_sw (vs := [vInt v0, .slice a l.length c, .slice a1 lm.length c1, .slice a2 lr.length c2]) Tryd.func9 rfl Tryd.ntmps9 rfl (SW.begin ?_)
  refine sw_seq ?_
  refine sw_region ?_
  refine ow_val (val_assign rfl) rfl ?_   -- 8
  refine ow_nil (into ?_)
  refine sw_seq ?_
  refine sw_seq ?_
  refine sw_region ?_
  refine ow_call_pure (v := .bool true) (callsTo Tryd.func12 rfl (by kernel_rfl) rfl) rfl (fun w hm => awake_any w (hK.mem0 hm)) ?_   -- 38
  refine ow_val (val_not rfl) rfl ?_   -- 39
  refine ow_nil (into ?_)
  refine sw_false rfl rfl ?_
  refine sw_skip (into ?_)
  refine sw_seq ?_
  refine sw_region ?_
  refine ow_val (val_move rfl) rfl ?_   -- 41
  refine ow_val (val_move rfl) rfl ?_   -- 42
  refine ow_call_pure (v := .tuple #[.pointer none, .bool false]) (callsTo Tryd.func18 rfl (by kernel_rfl) rfl) rfl (fun w hm => grown_none v0 4 w a l.length c l rfl hdl (hr.mem hm) (by omega) (by omega) hno) ?_   -- 43
  refine ow_val (val_move rfl) rfl ?_   -- 40
  refine ow_val (val_extract rfl rfl) rfl ?_   -- 44
  refine ow_val (val_extract rfl rfl) rfl ?_   -- 45
  refine ow_val (val_assign rfl) rfl ?_   -- 9
  refine ow_val (val_assign rfl) rfl ?_   -- 10
  refine ow_nil (into ?_)
  refine sw_seq ?_
  refine sw_seq ?_
  refine sw_region ?_
  refine ow_val (val_move rfl) rfl ?_   -- 46
  refine ow_val (val_not rfl) rfl ?_   -- 47
  refine ow_val (val_move rfl) rfl ?_   -- 48
  first | refine ow_guard_no rfl rfl rfl rfl rfl ?_ | refine ow_guard_none rfl rfl rfl rfl rfl ?_
  first | refine ow_guard_no rfl rfl rfl rfl rfl ?_ | refine ow_guard_none rfl rfl rfl rfl rfl ?_
  first | refine ow_guard_no rfl rfl rfl rfl rfl ?_ | refine ow_guard_none rfl rfl rfl rfl rfl ?_
  first | refine ow_guard_no rfl rfl rfl rfl rfl ?_ | refine ow_guard_none rfl rfl rfl rfl rfl ?_
  refine ow_val (val_pick_true rfl rfl) rfl ?_   -- 53
  refine ow_val (val_move rfl) rfl ?_   -- 54
  first | refine ow_guard_no rfl rfl rfl rfl rfl ?_ | refine ow_guard_none rfl rfl rfl rfl rfl ?_
  first | refine ow_guard_no rfl rfl rfl rfl rfl ?_ | refine ow_guard_none rfl rfl rfl rfl rfl ?_
  first | refine ow_guard_no rfl rfl rfl rfl rfl ?_ | refine ow_guard_none rfl rfl rfl rfl rfl ?_
  first | refine ow_guard_no rfl rfl rfl rfl rfl ?_ | refine ow_guard_none rfl rfl rfl rfl rfl ?_
  refine ow_val (val_pick_true rfl rfl) rfl ?_   -- 59
  refine ow_val (val_move rfl) rfl ?_   -- 60
  first | refine ow_guard_no rfl rfl rfl rfl rfl ?_ | refine ow_guard_none rfl rfl rfl rfl rfl ?_
  first | refine ow_guard_no rfl rfl rfl rfl rfl ?_ | refine ow_guard_none rfl rfl rfl rfl rfl ?_
  first | refine ow_guard_no rfl rfl rfl rfl rfl ?_ | refine ow_guard_none rfl rfl rfl rfl rfl ?_
  first | refine ow_guard_no rfl rfl rfl rfl rfl ?_ | refine ow_guard_none rfl rfl rfl rfl rfl ?_
  first | refine ow_guard_no rfl rfl rfl rfl rfl ?_ | refine ow_guard_none rfl rfl rfl rfl rfl ?_
  first | refine ow_guard_no rfl rfl rfl rfl rfl ?_ | refine ow_guard_none rfl rfl rfl rfl rfl ?_
  refine ow_val (val_pick_true rfl rfl) rfl ?_   -- 67
  refine ow_nil (into ?_)
  refine sw_true rfl rfl ?_
  refine sw_seq ?_
  refine sw_region ?_
  refine ow_val (val_assign rfl) rfl ?_   -- 8
  refine ow_nil (into ?_)
  refine sw_ret (fun w hm => ?_)
  try dsimp only [thenP, blockP, Nat.beq, cond]
  exact ret_one _ rfl rfl ⟨rfl, hm.forgetAll⟩

theorem forks_a (k : Nat) (h1 : 1 ≤ k) (h2 : k ≤ 32) (w : World) (hK : KW w) (a : Option Addr) (c : Nat) (l : List (List UInt8)) (hdl : ∀ d ∈ l, d.length = 32) (hr : Rd w a (l.flatMap fun d => d.map vU8)) (hc : l.length ≤ c) (hl : l.length < 9223372036854775808) (a1 : Option Addr) (c1 : Nat) (lm : List (List UInt8)) (hd1 : ∀ d ∈ lm, d.length = 32) (hr1 : Rd w a1 (lm.flatMap fun d => d.map vU8)) (hc1 : lm.length ≤ c1) (hl1 : lm.length < 9223372036854775808) (a2 : Option Addr) (c2 : Nat) (lr : List (List UInt8)) (hd2 : ∀ d ∈ lr, d.length = 32) (hr2 : Rd w a2 (lr.flatMap fun d => d.map vU8)) (hc2 : lr.length ≤ c2) (hl2 : lr.length < 9223372036854775808) (hfl : ∀ d ∈ l, fm (k : Int) d = true) (h4 : l.length ≤ 400) (hq1 : fitO (k : Int) lm = false) : Calls Tryd.prog 9 #[vInt (k : Int), .slice a l.length c, .slice a1 lm.length c1, .slice a2 lr.length c2] w fun e w' => ∃ v, e = .returned v ∧ v = .bool true ∧ Mem w [] [] w' := by
  refine calls_of_sw (vs := [vInt (k : Int), .slice a l.length c, .slice a1 lm.length c1, .slice a2 lr.length c2]) Tryd.func9 rfl Tryd.ntmps9 rfl (SW.begin ?_)
  refine sw_seq ?_
  refine sw_region ?_
  refine ow_val (val_assign rfl) rfl ?_   -- 8
  refine ow_nil (into ?_)
  refine sw_seq ?_
  refine sw_seq ?_
  refine sw_region ?_
  refine ow_call_pure (v := .bool true) (callsTo Tryd.func12 rfl (by kernel_rfl) rfl) rfl (fun w hm => awake_any w (hK.mem0 hm)) ?_   -- 38
  refine ow_val (val_not rfl) rfl ?_   -- 39
  refine ow_nil (into ?_)
  refine sw_false rfl rfl ?_
  refine sw_skip (into ?_)
  refine sw_seq ?_
  refine sw_region ?_
  refine ow_val (val_move rfl) rfl ?_   -- 41
  refine ow_val (val_move rfl) rfl ?_   -- 42
  refine ow_call_tail (σ := Nat × List Ent) (fun q9 => .tuple #[vPtr q9.1, .bool true]) (fun q9 => q9.2) (fun q9 => TrOn 95 75 k q9.2 q9.1 l) (callsTo Tryd.func18 rfl (by kernel_rfl) rfl) rfl (fun w hm => grown_any k h1 h2 4 (by omega) (by omega) w (hK.mem0 hm) a l.length c l rfl hdl (hr.mem hm) (by omega) (by omega) (by omega) (by assumption)) ?_   -- 43
  rintro ⟨b43, es43⟩ htr43
  simp only at htr43 ⊢
  refine ow_val (val_move rfl) rfl ?_   -- 40
  refine ow_val (val_extract rfl rfl) rfl ?_   -- 44
  refine ow_val (val_extract rfl rfl) rfl ?_   -- 45
  refine ow_val (val_assign rfl) rfl ?_   -- 9
  refine ow_val (val_assign rfl) rfl ?_   -- 10
  refine ow_nil (into ?_)
  refine sw_seq ?_
  refine sw_seq ?_
  refine sw_region ?_
  refine ow_val (val_move rfl) rfl ?_   -- 46
  refine ow_val (val_not rfl) rfl ?_   -- 47
  refine ow_val (val_move rfl) rfl ?_   -- 48
  refine ow_guard_yes rfl rfl rfl ?_
  refine ow_val (val_move rfl) rfl ?_   -- 49
  refine ow_guard_yes rfl rfl rfl ?_
  refine ow_val (val_move rfl) rfl ?_   -- 50
  refine ow_guard_yes rfl rfl rfl ?_
  refine ow_call_pure (v := .bool false) (callsTo Tryd.func29 rfl (by kernel_rfl) rfl) rfl (fun w hm => fit_is w a1 lm.length c1 lm rfl hd1 (hr1.mem hm) (by omega) (by omega) hq1) ?_   -- 51
  refine ow_guard_yes rfl rfl rfl ?_
  refine ow_val (val_not rfl) rfl ?_   -- 52
  refine ow_val (val_pick_false rfl rfl) rfl ?_   -- 53
  refine ow_val (val_move rfl) rfl ?_   -- 54
  first | refine ow_guard_no rfl rfl rfl rfl rfl ?_ | refine ow_guard_none rfl rfl rfl rfl rfl ?_
  first | refine ow_guard_no rfl rfl rfl rfl rfl ?_ | refine ow_guard_none rfl rfl rfl rfl rfl ?_
  first | refine ow_guard_no rfl rfl rfl rfl rfl ?_ | refine ow_guard_none rfl rfl rfl rfl rfl ?_
  first | refine ow_guard_no rfl rfl rfl rfl rfl ?_ | refine ow_guard_none rfl rfl rfl rfl rfl ?_
  refine ow_val (val_pick_true rfl rfl) rfl ?_   -- 59
  refine ow_val (val_move rfl) rfl ?_   -- 60
  first | refine ow_guard_no rfl rfl rfl rfl rfl ?_ | refine ow_guard_none rfl rfl rfl rfl rfl ?_
  first | refine ow_guard_no rfl rfl rfl rfl rfl ?_ | refine ow_guard_none rfl rfl rfl rfl rfl ?_
  first | refine ow_guard_no rfl rfl rfl rfl rfl ?_ | refine ow_guard_none rfl rfl rfl rfl rfl ?_
  first | refine ow_guard_no rfl rfl rfl rfl rfl ?_ | refine ow_guard_none rfl rfl rfl rfl rfl ?_
  first | refine ow_guard_no rfl rfl rfl rfl rfl ?_ | refine ow_guard_none rfl rfl rfl rfl rfl ?_
  first | refine ow_guard_no rfl rfl rfl rfl rfl ?_ | refine ow_guard_none rfl rfl rfl rfl rfl ?_
  refine ow_val (val_pick_true rfl rfl) rfl ?_   -- 67
  refine ow_nil (into ?_)
  refine sw_true rfl rfl ?_
  refine sw_seq ?_
  refine sw_region ?_
  refine ow_val (val_assign rfl) rfl ?_   -- 8
  refine ow_nil (into ?_)
  refine sw_ret (fun w hm => ?_)
  try dsimp only [thenP, blockP, Nat.beq, cond]
  exact ret_one _ rfl rfl ⟨rfl, hm.forgetAll⟩

theorem forks_b (k : Nat) (h1 : 1 ≤ k) (h2 : k ≤ 32) (w : World) (hK : KW w) (a : Option Addr) (c : Nat) (l : List (List UInt8)) (hdl : ∀ d ∈ l, d.length = 32) (hr : Rd w a (l.flatMap fun d => d.map vU8)) (hc : l.length ≤ c) (hl : l.length < 9223372036854775808) (a1 : Option Addr) (c1 : Nat) (lm : List (List UInt8)) (hd1 : ∀ d ∈ lm, d.length = 32) (hr1 : Rd w a1 (lm.flatMap fun d => d.map vU8)) (hc1 : lm.length ≤ c1) (hl1 : lm.length < 9223372036854775808) (a2 : Option Addr) (c2 : Nat) (lr : List (List UInt8)) (hd2 : ∀ d ∈ lr, d.length = 32) (hr2 : Rd w a2 (lr.flatMap fun d => d.map vU8)) (hc2 : lr.length ≤ c2) (hl2 : lr.length < 9223372036854775808) (hfl : ∀ d ∈ l, fm (k : Int) d = true) (h4 : l.length ≤ 400) (hq1 : fitO (k : Int) lm = true) (hq2 : fitO (k : Int) lr = false) : Calls Tryd.prog 9 #[vInt (k : Int), .slice a l.length c, .slice a1 lm.length c1, .slice a2 lr.length c2] w fun e w' => ∃ v, e = .returned v ∧ v = .bool true ∧ Mem w [] [] w' := by
  refine calls_of_sw (vs := [vInt (k : Int), .slice a l.length c, .slice a1 lm.length c1, .slice a2 lr.length c2]) Tryd.func9 rfl Tryd.ntmps9 rfl (SW.begin ?_)
  refine sw_seq ?_
  refine sw_region ?_
  refine ow_val (val_assign rfl) rfl ?_   -- 8
  refine ow_nil (into ?_)
  refine sw_seq ?_
  refine sw_seq ?_
  refine sw_region ?_
  refine ow_call_pure (v := .bool true) (callsTo Tryd.func12 rfl (by kernel_rfl) rfl) rfl (fun w hm => awake_any w (hK.mem0 hm)) ?_   -- 38
  refine ow_val (val_not rfl) rfl ?_   -- 39
  refine ow_nil (into ?_)
  refine sw_false rfl rfl ?_
  refine sw_skip (into ?_)
  refine sw_seq ?_
  refine sw_region ?_
  refine ow_val (val_move rfl) rfl ?_   -- 41
  refine ow_val (val_move rfl) rfl ?_   -- 42
  refine ow_call_tail (σ := Nat × List Ent) (fun q9 => .tuple #[vPtr q9.1, .bool true]) (fun q9 => q9.2) (fun q9 => TrOn 95 75 k q9.2 q9.1 l) (callsTo Tryd.func18 rfl (by kernel_rfl) rfl) rfl (fun w hm => grown_any k h1 h2 4 (by omega) (by omega) w (hK.mem0 hm) a l.length c l rfl hdl (hr.mem hm) (by omega) (by omega) (by omega) (by assumption)) ?_   -- 43
  rintro ⟨b43, es43⟩ htr43
  simp only at htr43 ⊢
  refine ow_val (val_move rfl) rfl ?_   -- 40
  refine ow_val (val_extract rfl rfl) rfl ?_   -- 44
  refine ow_val (val_extract rfl rfl) rfl ?_   -- 45
  refine ow_val (val_assign rfl) rfl ?_   -- 9
  refine ow_val (val_assign rfl) rfl ?_   -- 10
  refine ow_nil (into ?_)
  refine sw_seq ?_
  refine sw_seq ?_
  refine sw_region ?_
  refine ow_val (val_move rfl) rfl ?_   -- 46
  refine ow_val (val_not rfl) rfl ?_   -- 47
  refine ow_val (val_move rfl) rfl ?_   -- 48
  refine ow_guard_yes rfl rfl rfl ?_
  refine ow_val (val_move rfl) rfl ?_   -- 49
  refine ow_guard_yes rfl rfl rfl ?_
  refine ow_val (val_move rfl) rfl ?_   -- 50
  refine ow_guard_yes rfl rfl rfl ?_
  refine ow_call_pure (v := .bool true) (callsTo Tryd.func29 rfl (by kernel_rfl) rfl) rfl (fun w hm => fit_is w a1 lm.length c1 lm rfl hd1 (hr1.mem hm) (by omega) (by omega) hq1) ?_   -- 51
  refine ow_guard_yes rfl rfl rfl ?_
  refine ow_val (val_not rfl) rfl ?_   -- 52
  refine ow_val (val_pick_false rfl rfl) rfl ?_   -- 53
  refine ow_val (val_move rfl) rfl ?_   -- 54
  refine ow_guard_yes rfl rfl rfl ?_
  refine ow_val (val_move rfl) rfl ?_   -- 55
  refine ow_guard_yes rfl rfl rfl ?_
  refine ow_val (val_move rfl) rfl ?_   -- 56
  refine ow_guard_yes rfl rfl rfl ?_
  refine ow_call_pure (v := .bool false) (callsTo Tryd.func29 rfl (by kernel_rfl) rfl) rfl (fun w hm => fit_is w a2 lr.length c2 lr rfl hd2 (hr2.mem hm) (by omega) (by omega) hq2) ?_   -- 57
  refine ow_guard_yes rfl rfl rfl ?_
  refine ow_val (val_not rfl) rfl ?_   -- 58
  refine ow_val (val_pick_false rfl rfl) rfl ?_   -- 59
  refine ow_val (val_move rfl) rfl ?_   -- 60
  first | refine ow_guard_no rfl rfl rfl rfl rfl ?_ | refine ow_guard_none rfl rfl rfl rfl rfl ?_
  first | refine ow_guard_no rfl rfl rfl rfl rfl ?_ | refine ow_guard_none rfl rfl rfl rfl rfl ?_
  first | refine ow_guard_no rfl rfl rfl rfl rfl ?_ | refine ow_guard_none rfl rfl rfl rfl rfl ?_
  first | refine ow_guard_no rfl rfl rfl rfl rfl ?_ | refine ow_guard_none rfl rfl rfl rfl rfl ?_
  first | refine ow_guard_no rfl rfl rfl rfl rfl ?_ | refine ow_guard_none rfl rfl rfl rfl rfl ?_
  first | refine ow_guard_no rfl rfl rfl rfl rfl ?_ | refine ow_guard_none rfl rfl rfl rfl rfl ?_
  refine ow_val (val_pick_true rfl rfl) rfl ?_   -- 67
  refine ow_nil (into ?_)
  refine sw_true rfl rfl ?_
  refine sw_seq ?_
  refine sw_region ?_
  refine ow_val (val_assign rfl) rfl ?_   -- 8
  refine ow_nil (into ?_)
  refine sw_ret (fun w hm => ?_)
  try dsimp only [thenP, blockP, Nat.beq, cond]
  exact ret_one _ rfl rfl ⟨rfl, hm.forgetAll⟩

theorem forks_c (k : Nat) (h1 : 1 ≤ k) (h2 : k ≤ 32) (w : World) (hK : KW w) (a : Option Addr) (c : Nat) (l : List (List UInt8)) (hdl : ∀ d ∈ l, d.length = 32) (hr : Rd w a (l.flatMap fun d => d.map vU8)) (hc : l.length ≤ c) (hl : l.length < 9223372036854775808) (a1 : Option Addr) (c1 : Nat) (lm : List (List UInt8)) (hd1 : ∀ d ∈ lm, d.length = 32) (hr1 : Rd w a1 (lm.flatMap fun d => d.map vU8)) (hc1 : lm.length ≤ c1) (hl1 : lm.length < 9223372036854775808) (a2 : Option Addr) (c2 : Nat) (lr : List (List UInt8)) (hd2 : ∀ d ∈ lr, d.length = 32) (hr2 : Rd w a2 (lr.flatMap fun d => d.map vU8)) (hc2 : lr.length ≤ c2) (hl2 : lr.length < 9223372036854775808) (hfl : ∀ d ∈ l, fm (k : Int) d = true) (h4 : l.length ≤ 400) (hq1 : fitO (k : Int) lm = true) (hq2 : fitO (k : Int) lr = true) (hz1 : lm.length < 4611686018427387904) (hz2 : lr.length < 4611686018427387904) (h5 : ¬ lm.length + lr.length ≤ 400) : Calls Tryd.prog 9 #[vInt (k : Int), .slice a l.length c, .slice a1 lm.length c1, .slice a2 lr.length c2] w fun e w' => ∃ v, e = .returned v ∧ v = .bool true ∧ Mem w [] [] w' := by
  refine calls_of_sw (vs := [vInt (k : Int), .slice a l.length c, .slice a1 lm.length c1, .slice a2 lr.length c2]) Tryd.func9 rfl Tryd.ntmps9 rfl (SW.begin ?_)
  refine sw_seq ?_
  refine sw_region ?_
  refine ow_val (val_assign rfl) rfl ?_   -- 8
  refine ow_nil (into ?_)
  refine sw_seq ?_
  refine sw_seq ?_
  refine sw_region ?_
  refine ow_call_pure (v := .bool true) (callsTo Tryd.func12 rfl (by kernel_rfl) rfl) rfl (fun w hm => awake_any w (hK.mem0 hm)) ?_   -- 38
  refine ow_val (val_not rfl) rfl ?_   -- 39
  refine ow_nil (into ?_)
  refine sw_false rfl rfl ?_
  refine sw_skip (into ?_)
  refine sw_seq ?_
  refine sw_region ?_
  refine ow_val (val_move rfl) rfl ?_   -- 41
  refine ow_val (val_move rfl) rfl ?_   -- 42
  refine ow_call_tail (σ := Nat × List Ent) (fun q9 => .tuple #[vPtr q9.1, .bool true]) (fun q9 => q9.2) (fun q9 => TrOn 95 75 k q9.2 q9.1 l) (callsTo Tryd.func18 rfl (by kernel_rfl) rfl) rfl (fun w hm => grown_any k h1 h2 4 (by omega) (by omega) w (hK.mem0 hm) a l.length c l rfl hdl (hr.mem hm) (by omega) (by omega) (by omega) (by assumption)) ?_   -- 43
  rintro ⟨b43, es43⟩ htr43
  simp only at htr43 ⊢
  refine ow_val (val_move rfl) rfl ?_   -- 40
  refine ow_val (val_extract rfl rfl) rfl ?_   -- 44
  refine ow_val (val_extract rfl rfl) rfl ?_   -- 45
  refine ow_val (val_assign rfl) rfl ?_   -- 9
  refine ow_val (val_assign rfl) rfl ?_   -- 10
  refine ow_nil (into ?_)
  refine sw_seq ?_
  refine sw_seq ?_
  refine sw_region ?_
  refine ow_val (val_move rfl) rfl ?_   -- 46
  refine ow_val (val_not rfl) rfl ?_   -- 47
  refine ow_val (val_move rfl) rfl ?_   -- 48
  refine ow_guard_yes rfl rfl rfl ?_
  refine ow_val (val_move rfl) rfl ?_   -- 49
  refine ow_guard_yes rfl rfl rfl ?_
  refine ow_val (val_move rfl) rfl ?_   -- 50
  refine ow_guard_yes rfl rfl rfl ?_
  refine ow_call_pure (v := .bool true) (callsTo Tryd.func29 rfl (by kernel_rfl) rfl) rfl (fun w hm => fit_is w a1 lm.length c1 lm rfl hd1 (hr1.mem hm) (by omega) (by omega) hq1) ?_   -- 51
  refine ow_guard_yes rfl rfl rfl ?_
  refine ow_val (val_not rfl) rfl ?_   -- 52
  refine ow_val (val_pick_false rfl rfl) rfl ?_   -- 53
  refine ow_val (val_move rfl) rfl ?_   -- 54
  refine ow_guard_yes rfl rfl rfl ?_
  refine ow_val (val_move rfl) rfl ?_   -- 55
  refine ow_guard_yes rfl rfl rfl ?_
  refine ow_val (val_move rfl) rfl ?_   -- 56
  refine ow_guard_yes rfl rfl rfl ?_
  refine ow_call_pure (v := .bool true) (callsTo Tryd.func29 rfl (by kernel_rfl) rfl) rfl (fun w hm => fit_is w a2 lr.length c2 lr rfl hd2 (hr2.mem hm) (by omega) (by omega) hq2) ?_   -- 57
  refine ow_guard_yes rfl rfl rfl ?_
  refine ow_val (val_not rfl) rfl ?_   -- 58
  refine ow_val (val_pick_false rfl rfl) rfl ?_   -- 59
  refine ow_val (val_move rfl) rfl ?_   -- 60
  refine ow_guard_yes rfl rfl rfl ?_
  refine ow_val (val_move rfl) rfl ?_   -- 61
  refine ow_guard_yes rfl rfl rfl ?_
  refine ow_val (val_len rfl Tryd.underlying32) rfl ?_   -- 62
  refine ow_guard_yes rfl rfl rfl ?_
  refine ow_val (val_move rfl) rfl ?_   -- 63
  refine ow_guard_yes rfl rfl rfl ?_
  refine ow_val (val_len rfl Tryd.underlying32) rfl ?_   -- 64
  refine ow_guard_yes rfl rfl rfl ?_
  refine ow_val (val_add_int ((lm.length + lr.length : Nat) : Int) rfl rfl (by omega) (by omega)) rfl ?_   -- 65
  refine ow_guard_yes rfl rfl rfl ?_
  refine ow_val ((val_gtr_int rfl rfl).to (congrArg Value.bool (decide_eq_true (by omega)))) rfl ?_   -- 66
  refine ow_val (val_pick_false rfl rfl) rfl ?_   -- 67
  refine ow_nil (into ?_)
  refine sw_true rfl rfl ?_
  refine sw_seq ?_
  refine sw_region ?_
  refine ow_val (val_assign rfl) rfl ?_   -- 8
  refine ow_nil (into ?_)
  refine sw_ret (fun w hm => ?_)
  try dsimp only [thenP, blockP, Nat.beq, cond]
  exact ret_one _ rfl rfl ⟨rfl, hm.forgetAll⟩

theorem forks_main (k : Nat) (h1 : 1 ≤ k) (h2 : k ≤ 32) (w : World) (hK : KW w) (a : Option Addr) (c : Nat) (l : List (List UInt8)) (hdl : ∀ d ∈ l, d.length = 32) (hr : Rd w a (l.flatMap fun d => d.map vU8)) (hc : l.length ≤ c) (hl : l.length < 9223372036854775808) (a1 : Option Addr) (c1 : Nat) (lm : List (List UInt8)) (hd1 : ∀ d ∈ lm, d.length = 32) (hr1 : Rd w a1 (lm.flatMap fun d => d.map vU8)) (hc1 : lm.length ≤ c1) (hl1 : lm.length < 9223372036854775808) (a2 : Option Addr) (c2 : Nat) (lr : List (List UInt8)) (hd2 : ∀ d ∈ lr, d.length = 32) (hr2 : Rd w a2 (lr.flatMap fun d => d.map vU8)) (hc2 : lr.length ≤ c2) (hl2 : lr.length < 9223372036854775808) (hfl : ∀ d ∈ l, fm (k : Int) d = true) (h4 : l.length ≤ 400) (hq1 : fitO (k : Int) lm = true) (hq2 : fitO (k : Int) lr = true) (h5 : lm.length + lr.length ≤ 400) (la lb lc : List (List UInt8)) (hla : l ++ lm = la) (hlb : l ++ lr = lb) (hlc : la ++ lr = lc) : Calls Tryd.prog 9 #[vInt (k : Int), .slice a l.length c, .slice a1 lm.length c1, .slice a2 lr.length c2] w fun e w' => ∃ v, e = .returned v ∧ v = .bool true ∧ Mem w [] [] w' := by
  have hf1 := (fitO_iff.1 hq1).2
  have hf2 := (fitO_iff.1 hq2).2
  have hda : ∀ d ∈ la, d.length = 32 := fun d hd => by rw [← hla] at hd; exact (List.mem_append.1 hd).elim (hdl d) (hd1 d)
  have hfa : ∀ d ∈ la, fm (k : Int) d = true := fun d hd => by rw [← hla] at hd; exact (List.mem_append.1 hd).elim (hfl d) (hf1 d)
  have hdb : ∀ d ∈ lb, d.length = 32 := fun d hd => by rw [← hlb] at hd; exact (List.mem_append.1 hd).elim (hdl d) (hd2 d)
  have hfb : ∀ d ∈ lb, fm (k : Int) d = true := fun d hd => by rw [← hlb] at hd; exact (List.mem_append.1 hd).elim (hfl d) (hf2 d)
  have hdc : ∀ d ∈ lc, d.length = 32 := fun d hd => by rw [← hlc] at hd; exact (List.mem_append.1 hd).elim (hda d) (hd2 d)
  have hfc : ∀ d ∈ lc, fm (k : Int) d = true := fun d hd => by rw [← hlc] at hd; exact (List.mem_append.1 hd).elim (hfa d) (hf2 d)
  have hna : la.length = l.length + lm.length := by rw [← hla, List.length_append]
  have hnb : lb.length = l.length + lr.length := by rw [← hlb, List.length_append]
  have hnc : lc.length = la.length + lr.length := by rw [← hlc, List.length_append]
  have hsa : ∀ i, i ≤ l.length → seg la 0 i = seg l 0 i := fun i hi => by rw [← hla]; exact seg_app hi
  have hsb : ∀ i, i ≤ l.length → seg lb 0 i = seg l 0 i := fun i hi => by rw [← hlb]; exact seg_app hi
  have hga : ∀ i, la.getD (l.length + i) default = lm.getD i default := fun i => by rw [← hla]; exact getD_app
  have hgb : ∀ i, lb.getD (l.length + i) default = lr.getD i default := fun i => by rw [← hlb]; exact getD_app
  have hgc : ∀ i, i < lm.length → lc.getD (l.length + i) default = lm.getD i default := fun i hi => by rw [← hlc, getD_app1 (by omega)]; exact hga i
  have hgd : ∀ i, lc.getD (l.length + lm.length + i) default = lr.getD i default := fun i => by rw [← hna, ← hlc]; exact getD_app
  refine calls_of_sw (vs := [vInt (k : Int), .slice a l.length c, .slice a1 lm.length c1, .slice a2 lr.length c2]) Tryd.func9 rfl Tryd.ntmps9 rfl (SW.begin ?_)
  refine sw_seq ?_
  refine sw_region ?_
  refine ow_val (val_assign rfl) rfl ?_   -- 8
  refine ow_nil (into ?_)
  refine sw_seq ?_
  refine sw_seq ?_
  refine sw_region ?_
  refine ow_call_pure (v := .bool true) (callsTo Tryd.func12 rfl (by kernel_rfl) rfl) rfl (fun w hm => awake_any w (hK.mem0 hm)) ?_   -- 38
  refine ow_val (val_not rfl) rfl ?_   -- 39
  refine ow_nil (into ?_)
  refine sw_false rfl rfl ?_
  refine sw_skip (into ?_)
  refine sw_seq ?_
  refine sw_region ?_
  refine ow_val (val_move rfl) rfl ?_   -- 41
  refine ow_val (val_move rfl) rfl ?_   -- 42
  refine ow_call_tail (σ := Nat × List Ent) (fun q9 => .tuple #[vPtr q9.1, .bool true]) (fun q9 => q9.2) (fun q9 => TrOn 95 75 k q9.2 q9.1 l) (callsTo Tryd.func18 rfl (by kernel_rfl) rfl) rfl (fun w hm => grown_any k h1 h2 4 (by omega) (by omega) w (hK.mem0 hm) a l.length c l rfl hdl (hr.mem hm) (by omega) (by omega) (by omega) (by assumption)) ?_   -- 43
  rintro ⟨b43, es43⟩ htr43
  simp only at htr43 ⊢
  refine ow_val (val_move rfl) rfl ?_   -- 40
  refine ow_val (val_extract rfl rfl) rfl ?_   -- 44
  refine ow_val (val_extract rfl rfl) rfl ?_   -- 45
  refine ow_val (val_assign rfl) rfl ?_   -- 9
  refine ow_val (val_assign rfl) rfl ?_   -- 10
  refine ow_nil (into ?_)
  refine sw_seq ?_
  refine sw_seq ?_
  refine sw_region ?_
  refine ow_val (val_move rfl) rfl ?_   -- 46
  refine ow_val (val_not rfl) rfl ?_   -- 47
  refine ow_val (val_move rfl) rfl ?_   -- 48
  refine ow_guard_yes rfl rfl rfl ?_
  refine ow_val (val_move rfl) rfl ?_   -- 49
  refine ow_guard_yes rfl rfl rfl ?_
  refine ow_val (val_move rfl) rfl ?_   -- 50
  refine ow_guard_yes rfl rfl rfl ?_
  refine ow_call_pure (v := .bool true) (callsTo Tryd.func29 rfl (by kernel_rfl) rfl) rfl (fun w hm => fit_is w a1 lm.length c1 lm rfl hd1 (hr1.mem hm) (by omega) (by omega) hq1) ?_   -- 51
  refine ow_guard_yes rfl rfl rfl ?_
  refine ow_val (val_not rfl) rfl ?_   -- 52
  refine ow_val (val_pick_false rfl rfl) rfl ?_   -- 53
  refine ow_val (val_move rfl) rfl ?_   -- 54
  refine ow_guard_yes rfl rfl rfl ?_
  refine ow_val (val_move rfl) rfl ?_   -- 55
  refine ow_guard_yes rfl rfl rfl ?_
  refine ow_val (val_move rfl) rfl ?_   -- 56
  refine ow_guard_yes rfl rfl rfl ?_
  refine ow_call_pure (v := .bool true) (callsTo Tryd.func29 rfl (by kernel_rfl) rfl) rfl (fun w hm => fit_is w a2 lr.length c2 lr rfl hd2 (hr2.mem hm) (by omega) (by omega) hq2) ?_   -- 57
  refine ow_guard_yes rfl rfl rfl ?_
  refine ow_val (val_not rfl) rfl ?_   -- 58
  refine ow_val (val_pick_false rfl rfl) rfl ?_   -- 59
  refine ow_val (val_move rfl) rfl ?_   -- 60
  refine ow_guard_yes rfl rfl rfl ?_
  refine ow_val (val_move rfl) rfl ?_   -- 61
  refine ow_guard_yes rfl rfl rfl ?_
  refine ow_val (val_len rfl Tryd.underlying32) rfl ?_   -- 62
  refine ow_guard_yes rfl rfl rfl ?_
  refine ow_val (val_move rfl) rfl ?_   -- 63
  refine ow_guard_yes rfl rfl rfl ?_
  refine ow_val (val_len rfl Tryd.underlying32) rfl ?_   -- 64
  refine ow_guard_yes rfl rfl rfl ?_
  refine ow_val (val_add_int ((lm.length + lr.length : Nat) : Int) rfl rfl (by omega) (by omega)) rfl ?_   -- 65
  refine ow_guard_yes rfl rfl rfl ?_
  refine ow_val ((val_gtr_int rfl rfl).to (congrArg Value.bool (decide_eq_false (by omega)))) rfl ?_   -- 66
  refine ow_val (val_pick_false rfl rfl) rfl ?_   -- 67
  refine ow_nil (into ?_)
  refine sw_false rfl rfl ?_
  refine sw_skip (into ?_)
  refine sw_seq ?_
  refine sw_region ?_
  refine ow_val (val_move rfl) rfl ?_   -- 69
  refine ow_val (val_move rfl) rfl ?_   -- 70
  refine ow_val (val_len rfl Tryd.underlying32) rfl ?_   -- 71
  refine ow_call_pure (v := .tuple #[.agg ((lg k (seg l 0 l.length)).map vU8).toArray, .bool true]) (callsTo Tryd.func31 rfl (by kernel_rfl) rfl) rfl (fun w hm => rooted_any k h1 h2 w (hK.mem0 hm) b43 l (htr43.is (hm.heldSub (List.Sublist.refl _))) (by assumption) (by assumption) l.length (by omega) (by omega)) ?_   -- 72
  refine ow_val (val_move rfl) rfl ?_   -- 68
  refine ow_val (val_extract rfl rfl) rfl ?_   -- 73
  refine ow_val (val_extract rfl rfl) rfl ?_   -- 74
  refine ow_new (acts_alloc zD) rfl (fun b11 hb11 => ?_)   -- 11
  refine ow_do_eq (does_store_all 0 rfl rfl rfl (one_u8s _) Tryd.sizeOf43 (by show (List.map vU8 (lg k (seg l 0 l.length))).length = _; rw [List.length_map]; exact (lg_len h2 _ rfl (seg_all (by assumption)))) (by show (List.map vU8 zeros32).length = _; rw [List.length_map]; exact zeros32_len)) ?_
  refine ow_val (val_assign rfl) rfl ?_   -- 10
  refine ow_nil (into ?_)
  refine sw_seq ?_
  refine sw_region ?_
  refine ow_val (val_move rfl) rfl ?_   -- 76
  refine ow_val (val_move rfl) rfl ?_   -- 77
  refine ow_call_tail (σ := Nat × List Ent) (fun q9 => .tuple #[vPtr q9.1, vInt ((0 : Nat) : Int)]) (fun q9 => q9.2) (fun q9 => TrOn 95 75 k (es43 ++ q9.2) q9.1 la) (callsTo Tryd.func16 rfl (by kernel_rfl) rfl) rfl (fun w hm => (append_tr k h1 h2 w (hK.mem0 hm) es43 (hm.heldSub (.cons _ (List.Sublist.refl _))) b43 l htr43 (by assumption) (by assumption) a1 lm.length c1 lm rfl hd1 (hr1.mem hm) (by omega) (by omega) hf1 (by omega)).mono fun _ _ ⟨u, he, q9, hu, hi, hm'⟩ => ⟨u, he, q9, hu, hi.cast hla, hm'⟩) ?_   -- 78
  rintro ⟨b78, es78⟩ htr78
  simp only at htr78 ⊢
  refine ow_val (val_move rfl) rfl ?_   -- 75
  refine ow_val (val_extract rfl rfl) rfl ?_   -- 79
  refine ow_val (val_extract rfl rfl) rfl ?_   -- 80
  refine ow_val (val_assign rfl) rfl ?_   -- 12
  refine ow_val (val_assign rfl) rfl ?_   -- 13
  refine ow_nil (into ?_)
  refine sw_seq ?_
  refine sw_region ?_
  refine ow_val (val_move rfl) rfl ?_   -- 82
  refine ow_val (val_move rfl) rfl ?_   -- 83
  refine ow_call_tail (σ := Nat × List Ent) (fun q9 => .tuple #[vPtr q9.1, vInt ((0 : Nat) : Int)]) (fun q9 => q9.2) (fun q9 => TrOn 95 75 k ((es43 ++ es78) ++ q9.2) q9.1 lb) (callsTo Tryd.func16 rfl (by kernel_rfl) rfl) rfl (fun w hm => (append_tr k h1 h2 w (hK.mem0 hm) (es43 ++ es78) (hm.heldSub (.cons _ (List.Sublist.refl _))) b43 l (htr43.left (T' := es78)) (by assumption) (by assumption) a2 lr.length c2 lr rfl hd2 (hr2.mem hm) (by omega) (by omega) hf2 (by omega)).mono fun _ _ ⟨u, he, q9, hu, hi, hm'⟩ => ⟨u, he, q9, hu, hi.cast hlb, hm'⟩) ?_   -- 84
  rintro ⟨b84, es84⟩ htr84
  simp only at htr84 ⊢
  refine ow_val (val_move rfl) rfl ?_   -- 81
  refine ow_val (val_extract rfl rfl) rfl ?_   -- 85
  refine ow_val (val_extract rfl rfl) rfl ?_   -- 86
  refine ow_val (val_assign rfl) rfl ?_   -- 14
  refine ow_val (val_assign rfl) rfl ?_   -- 15
  refine ow_nil (into ?_)
  refine sw_seq ?_
  refine sw_region ?_
  refine ow_val (val_move rfl) rfl ?_   -- 88
  refine ow_val (val_move rfl) rfl ?_   -- 89
  refine ow_call_tail (σ := Nat × List Ent) (fun q9 => .tuple #[vPtr q9.1, vInt ((0 : Nat) : Int)]) (fun q9 => q9.2) (fun q9 => TrOn 95 75 k (((es43 ++ es78) ++ es84) ++ q9.2) q9.1 lc) (callsTo Tryd.func16 rfl (by kernel_rfl) rfl) rfl (fun w hm => (append_tr k h1 h2 w (hK.mem0 hm) (((es43 ++ es78) ++ es84)) (hm.heldSub (.cons _ (List.Sublist.refl _))) b78 la (htr78.left (T' := es84)) (by assumption) (by assumption) a2 lr.length c2 lr rfl hd2 (hr2.mem hm) (by omega) (by omega) hf2 (by omega)).mono fun _ _ ⟨u, he, q9, hu, hi, hm'⟩ => ⟨u, he, q9, hu, hi.cast hlc, hm'⟩) ?_   -- 90
  rintro ⟨b90, es90⟩ htr90
  simp only at htr90 ⊢
  refine ow_val (val_move rfl) rfl ?_   -- 87
  refine ow_val (val_extract rfl rfl) rfl ?_   -- 91
  refine ow_val (val_extract rfl rfl) rfl ?_   -- 92
  refine ow_val (val_assign rfl) rfl ?_   -- 16
  refine ow_val (val_assign rfl) rfl ?_   -- 17
  refine ow_nil (into ?_)
  refine sw_seq ?_
  refine sw_seq ?_
  refine sw_region ?_
  refine ow_val (val_move rfl) rfl ?_   -- 93
  refine ow_val (val_not rfl) rfl ?_   -- 94
  refine ow_val (val_move rfl) rfl ?_   -- 95
  refine ow_guard_yes rfl rfl rfl ?_
  refine ow_val (val_move rfl) rfl ?_   -- 96
  refine ow_guard_yes rfl rfl rfl ?_
  refine ow_val ((val_neq_int rfl rfl).to (v' := .bool false) (congrArg Value.bool (decide_eq_false (fun h => h (by simp))))) rfl ?_   -- 97
  refine ow_val (val_pick_false rfl rfl) rfl ?_   -- 98
  refine ow_val (val_move rfl) rfl ?_   -- 99
  refine ow_guard_yes rfl rfl rfl ?_
  refine ow_val (val_move rfl) rfl ?_   -- 100
  refine ow_guard_yes rfl rfl rfl ?_
  refine ow_val ((val_neq_int rfl rfl).to (v' := .bool false) (congrArg Value.bool (decide_eq_false (fun h => h (by simp))))) rfl ?_   -- 101
  refine ow_val (val_pick_false rfl rfl) rfl ?_   -- 102
  refine ow_val (val_move rfl) rfl ?_   -- 103
  refine ow_guard_yes rfl rfl rfl ?_
  refine ow_val (val_move rfl) rfl ?_   -- 104
  refine ow_guard_yes rfl rfl rfl ?_
  refine ow_val ((val_neq_int rfl rfl).to (v' := .bool false) (congrArg Value.bool (decide_eq_false (fun h => h (by simp))))) rfl ?_   -- 105
  refine ow_val (val_pick_false rfl rfl) rfl ?_   -- 106
  refine ow_nil (into ?_)
  refine sw_false rfl rfl ?_
  refine sw_skip (into ?_)
  refine sw_seq ?_
  refine sw_seq ?_
  refine sw_region ?_
  refine ow_val (val_assign rfl) rfl ?_   -- 18
  refine ow_nil (into ?_)
  refine sw_block ?_
  refine sw_loop (σ := Nat) (fun i => i ≤ l.length + 1) (fun i => [(18, vInt (i : Int)), (1, .slice a l.length c), (2, .slice a1 lm.length c1), (3, .slice a2 lr.length c2), (9, vPtr b43), (12, vPtr b78), (14, vPtr b84), (16, vPtr b90), (11, .pointer (some ⟨b11, 0, none⟩))]) (fun _ => Mem w [] (some (b11, blk ((lg k (seg l 0 l.length)).map vU8) 43) :: (((es43 ++ es78) ++ es84) ++ es90))) (fun i => l.length + 1 - i) 0 (Nat.zero_le _) ⟨rfl, rfl, rfl, rfl, rfl, rfl, rfl, rfl, rfl, trivial⟩ (fun w hm => hm.only (.cons_cons _ (List.Sublist.refl _))) ?_
  intro i hi
  refine sw_seq ?_
  refine sw_seq ?_
  refine sw_region ?_
  refine ow_val (val_move rfl) rfl ?_   -- 107
  refine ow_val (val_move rfl) rfl ?_   -- 108
  refine ow_val (val_len rfl Tryd.underlying32) rfl ?_   -- 109
  refine ow_val (val_leq_int rfl rfl) rfl ?_   -- 110
  refine ow_nil (into ?_)
  refine sw_if rfl (fun h0 => ?_) (fun h0 => ?_)
  · -- then
    refine sw_skip (into ?_)
    refine sw_seq ?_
    refine sw_block ?_
    refine sw_seq ?_
    refine sw_region ?_
    refine ow_val (val_move rfl) rfl ?_   -- 114
    refine ow_val (val_move rfl) rfl ?_   -- 115
    refine ow_call_pure (v := .tuple #[.agg ((lg k (seg l 0 i)).map vU8).toArray, .bool true]) (callsTo Tryd.func31 rfl (by kernel_rfl) rfl) rfl (fun w hm => rooted_any k h1 h2 w (hK.mem0 hm) b43 l ((((htr43.left (T' := es78)).left (T' := es84)).left (T' := es90)).is (hm.heldSub (.cons _ (List.Sublist.refl _)))) (by assumption) (by assumption) i (by omega) (by omega)) ?_   -- 116
    refine ow_val (val_move rfl) rfl ?_   -- 113
    refine ow_val (val_extract rfl rfl) rfl ?_   -- 117
    refine ow_val (val_extract rfl rfl) rfl ?_   -- 118
    refine ow_new (acts_alloc zD) rfl (fun b19 hb19 => ?_)   -- 19
    refine ow_do_eq (does_store_all 0 rfl rfl rfl (one_u8s _) Tryd.sizeOf43 (by show (List.map vU8 (lg k (seg l 0 i))).length = _; rw [List.length_map]; exact (lg_len h2 _ rfl (seg_all (by assumption)))) (by show (List.map vU8 zeros32).length = _; rw [List.length_map]; exact zeros32_len)) ?_
    refine ow_val (val_assign rfl) rfl ?_   -- 20
    refine ow_nil (into ?_)
    refine sw_seq ?_
    refine sw_region ?_
    refine ow_val (val_move rfl) rfl ?_   -- 120
    refine ow_val (val_move rfl) rfl ?_   -- 121
    refine ow_call_pure (v := .tuple #[.agg ((lg k (seg l 0 i)).map vU8).toArray, .bool true]) (callsTo Tryd.func31 rfl (by kernel_rfl) rfl) rfl (fun w hm => (by have h := rooted_any k h1 h2 w (hK.mem0 hm) b78 la (((htr78.left (T' := es84)).left (T' := es90)).is (hm.heldSub (.cons _ (.cons _ (List.Sublist.refl _))))) (by assumption) (by assumption) i (by omega) (by omega); rw [hsa i (by omega)] at h; exact h)) ?_   -- 122
    refine ow_val (val_move rfl) rfl ?_   -- 119
    refine ow_val (val_extract rfl rfl) rfl ?_   -- 123
    refine ow_val (val_extract rfl rfl) rfl ?_   -- 124
    refine ow_new (acts_alloc zD) rfl (fun b21 hb21 => ?_)   -- 21
    refine ow_do_eq (does_store_all 0 rfl rfl rfl (one_u8s _) Tryd.sizeOf43 (by show (List.map vU8 (lg k (seg l 0 i))).length = _; rw [List.length_map]; exact (lg_len h2 _ rfl (seg_all (by assumption)))) (by show (List.map vU8 zeros32).length = _; rw [List.length_map]; exact zeros32_len)) ?_
    refine ow_val (val_assign rfl) rfl ?_   -- 22
    refine ow_nil (into ?_)
    refine sw_seq ?_
    refine sw_region ?_
    refine ow_val (val_move rfl) rfl ?_   -- 126
    refine ow_val (val_move rfl) rfl ?_   -- 127
    refine ow_call_pure (v := .tuple #[.agg ((lg k (seg l 0 i)).map vU8).toArray, .bool true]) (callsTo Tryd.func31 rfl (by kernel_rfl) rfl) rfl (fun w hm => (by have h := rooted_any k h1 h2 w (hK.mem0 hm) b84 lb ((htr84.left (T' := es90)).is (hm.heldSub (.cons _ (.cons _ (.cons _ (List.Sublist.refl _)))))) (by assumption) (by assumption) i (by omega) (by omega); rw [hsb i (by omega)] at h; exact h)) ?_   -- 128
    refine ow_val (val_move rfl) rfl ?_   -- 125
    refine ow_val (val_extract rfl rfl) rfl ?_   -- 129
    refine ow_val (val_extract rfl rfl) rfl ?_   -- 130
    refine ow_new (acts_alloc zD) rfl (fun b23 hb23 => ?_)   -- 23
    refine ow_do_eq (does_store_all 0 rfl rfl rfl (one_u8s _) Tryd.sizeOf43 (by show (List.map vU8 (lg k (seg l 0 i))).length = _; rw [List.length_map]; exact (lg_len h2 _ rfl (seg_all (by assumption)))) (by show (List.map vU8 zeros32).length = _; rw [List.length_map]; exact zeros32_len)) ?_
    refine ow_val (val_assign rfl) rfl ?_   -- 24
    refine ow_nil (into ?_)
    refine sw_seq ?_
    refine sw_region ?_
    refine ow_val (val_move rfl) rfl ?_   -- 131
    refine ow_val (val_not rfl) rfl ?_   -- 132
    refine ow_val (val_move rfl) rfl ?_   -- 133
    refine ow_guard_yes rfl rfl rfl ?_
    refine ow_val (val_move rfl) rfl ?_   -- 134
    refine ow_guard_yes rfl rfl rfl ?_
    refine ow_val (val_not rfl) rfl ?_   -- 135
    refine ow_val (val_pick_false rfl rfl) rfl ?_   -- 136
    refine ow_val (val_move rfl) rfl ?_   -- 137
    refine ow_guard_yes rfl rfl rfl ?_
    refine ow_val (val_move rfl) rfl ?_   -- 138
    refine ow_guard_yes rfl rfl rfl ?_
    refine ow_val (val_not rfl) rfl ?_   -- 139
    refine ow_val (val_pick_false rfl rfl) rfl ?_   -- 140
    refine ow_val (val_move rfl) rfl ?_   -- 141
    refine ow_guard_yes rfl rfl rfl ?_
    refine ow_val (val_load_all 2 rfl rfl Tryd.isAgg43 Tryd.sizeOf43 (by show (List.map vU8 (lg k (seg l 0 i))).length = _; rw [List.length_map]; exact (lg_len h2 _ rfl (seg_all (by assumption))))) rfl ?_   -- 142
    refine ow_guard_yes rfl rfl rfl ?_
    refine ow_val (val_load_all 1 rfl rfl Tryd.isAgg43 Tryd.sizeOf43 (by show (List.map vU8 (lg k (seg l 0 i))).length = _; rw [List.length_map]; exact (lg_len h2 _ rfl (seg_all (by assumption))))) rfl ?_   -- 143
    refine ow_guard_yes rfl rfl rfl ?_
    refine ow_val ((val_neq_u8s rfl rfl Tryd.eqGuardType43 Tryd.underlying43 Tryd.underlying5 Tryd.sizeOf5 Tryd.isAgg5 (lg_len h2 _ rfl (seg_all (by assumption))) (lg_len h2 _ rfl (seg_all (by assumption)))).to (congrArg Value.bool (show _ = false by simp [txt]))) rfl ?_   -- 144
    refine ow_val (val_pick_false rfl rfl) rfl ?_   -- 145
    refine ow_val (val_move rfl) rfl ?_   -- 146
    refine ow_guard_yes rfl rfl rfl ?_
    refine ow_val (val_load_all 2 rfl rfl Tryd.isAgg43 Tryd.sizeOf43 (by show (List.map vU8 (lg k (seg l 0 i))).length = _; rw [List.length_map]; exact (lg_len h2 _ rfl (seg_all (by assumption))))) rfl ?_   -- 147
    refine ow_guard_yes rfl rfl rfl ?_
    refine ow_val (val_load_all 0 rfl rfl Tryd.isAgg43 Tryd.sizeOf43 (by show (List.map vU8 (lg k (seg l 0 i))).length = _; rw [List.length_map]; exact (lg_len h2 _ rfl (seg_all (by assumption))))) rfl ?_   -- 148
    refine ow_guard_yes rfl rfl rfl ?_
    refine ow_val ((val_neq_u8s rfl rfl Tryd.eqGuardType43 Tryd.underlying43 Tryd.underlying5 Tryd.sizeOf5 Tryd.isAgg5 (lg_len h2 _ rfl (seg_all (by assumption))) (lg_len h2 _ rfl (seg_all (by assumption)))).to (congrArg Value.bool (show _ = false by simp [txt]))) rfl ?_   -- 149
    refine ow_val (val_pick_false rfl rfl) rfl ?_   -- 150
    refine ow_nil (into ?_)
    refine sw_false rfl rfl ?_
    refine sw_skip (into ?_)
    refine sw_region ?_
    refine ow_val (val_move rfl) rfl ?_   -- 111
    refine ow_val (val_add_int ((i + 1 : Nat) : Int) rfl rfl (by omega) (by omega)) rfl ?_   -- 112
    refine ow_val (val_assign rfl) rfl ?_   -- 18
    exact ow_nil (fun w hm => ⟨i + 1, by omega, by omega, ⟨rfl, rfl, rfl, rfl, rfl, rfl, rfl, rfl, rfl, trivial⟩, hm.only (.cons _ (.cons _ (.cons _ (.cons_cons _ (List.Sublist.refl _)))))⟩)
  · -- else
    refine sw_exit (into ?_)
    refine sw_seq ?_
    refine sw_seq ?_
    refine sw_region ?_
    refine ow_val (val_move rfl) rfl ?_   -- 151
    refine ow_val (val_len rfl Tryd.underlying32) rfl ?_   -- 152
    refine ow_val (val_move rfl) rfl ?_   -- 153
    refine ow_nil (into ?_)
    refine sw_block ?_
    refine sw_loop (σ := Nat) (fun i => i ≤ lm.length) (fun i => [(153, vInt (i : Int)), (1, .slice a l.length c), (2, .slice a1 lm.length c1), (3, .slice a2 lr.length c2), (9, vPtr b43), (12, vPtr b78), (14, vPtr b84), (16, vPtr b90), (11, .pointer (some ⟨b11, 0, none⟩)), (151, .slice a1 lm.length c1), (152, vInt ((lm.length : Nat) : Int))]) (fun _ => Mem w [] (some (b11, blk ((lg k (seg l 0 l.length)).map vU8) 43) :: (((es43 ++ es78) ++ es84) ++ es90))) (fun i => lm.length - i) 0 (Nat.zero_le _) ⟨rfl, rfl, rfl, rfl, rfl, rfl, rfl, rfl, rfl, rfl, rfl, trivial⟩ (fun w hm => hm.only (.cons_cons _ (List.Sublist.refl _))) ?_
    intro i hi
    refine sw_seq ?_
    refine sw_region ?_
    refine ow_val (val_lss_int rfl rfl) rfl ?_   -- 154
    refine ow_nil (into ?_)
    refine sw_seq ?_
    refine sw_if rfl (fun h0b => ?_) (fun h0b => ?_)
    · -- then
      obtain ⟨b1, o1, rfl⟩ := hr1.addr (by rw [flatMap_size lm (n := 32) (fun y hy => by rw [List.length_map]; exact hd1 y hy)]; omega)
      refine sw_skip (into ?_)
      refine sw_seq ?_
      refine sw_block ?_
      refine sw_seq ?_
      refine sw_region ?_
      refine ow_val (val_move rfl) rfl ?_   -- 155
      refine ow_val (val_indexAddr_slice (i) (o1 + i * 32) rfl rfl Tryd.underlying32 Tryd.sizeOf43 (by omega) (by omega) (by omega)) rfl ?_   -- 156
      refine ow_val (val_load_elem (cells := fun d => d.map vU8) (l := lm) (o := o1) (i := i) rfl Tryd.isAgg43 Tryd.sizeOf43 (fun x hx => by rw [List.length_map]; exact hd1 x hx) (by omega) (by omega) (fun w' hm => hr1.mem hm)) rfl ?_   -- 157
      refine ow_new (acts_alloc zD) rfl (fun b26 hb26 => ?_)   -- 26
      refine ow_val (val_assign rfl) rfl ?_   -- 25
      refine ow_do_eq (does_store_all 0 rfl rfl rfl (one_u8s _) Tryd.sizeOf43 (by show (List.map vU8 (lm.getD i default)).length = _; rw [List.length_map]; exact (hd1 _ (getD_mem (by omega)))) (by show (List.map vU8 zeros32).length = _; rw [List.length_map]; exact zeros32_len)) ?_
      refine ow_nil (into ?_)
      refine sw_seq ?_
      refine sw_region ?_
      refine ow_val (val_move rfl) rfl ?_   -- 159
      refine ow_val (val_move rfl) rfl ?_   -- 160
      refine ow_val (val_len rfl Tryd.underlying32) rfl ?_   -- 161
      refine ow_val (val_move rfl) rfl ?_   -- 162
      refine ow_val (val_add_int ((l.length + i : Nat) : Int) rfl rfl (by omega) (by omega)) rfl ?_   -- 163
      refine ow_val (val_conv_n_u64 (l.length + i) Tryd.underlying3 Tryd.underlying46 rfl rfl) rfl ?_   -- 164
      refine ow_call_pure (v := .tuple #[.agg ((lm.getD i default).map vU8).toArray, vInt ((0 : Nat) : Int)]) (callsTo Tryd.func22 rfl (by kernel_rfl) rfl) rfl (fun w hm => (by have h := (by have h := tleaf_any k h1 h2 b78 la (by assumption) (UInt64.ofNat (l.length + i)) w (((htr78.left (T' := es84)).left (T' := es90)).is (hm.heldSub (.cons _ (.cons _ (List.Sublist.refl _))))) (by omega); rw [leafO_nat (by omega) (by omega)] at h; exact h); rw [hga i] at h; exact h)) ?_   -- 165
      refine ow_val (val_move rfl) rfl ?_   -- 158
      refine ow_val (val_extract rfl rfl) rfl ?_   -- 166
      refine ow_val (val_extract rfl rfl) rfl ?_   -- 167
      refine ow_new (acts_alloc zD) rfl (fun b27 hb27 => ?_)   -- 27
      refine ow_do_eq (does_store_all 0 rfl rfl rfl (one_u8s _) Tryd.sizeOf43 (by show (List.map vU8 (lm.getD i default)).length = _; rw [List.length_map]; exact (hd1 _ (getD_mem (by omega)))) (by show (List.map vU8 zeros32).length = _; rw [List.length_map]; exact zeros32_len)) ?_
      refine ow_val (val_assign rfl) rfl ?_   -- 28
      refine ow_nil (into ?_)
      refine sw_seq ?_
      refine sw_region ?_
      refine ow_val (val_move rfl) rfl ?_   -- 169
      refine ow_val (val_move rfl) rfl ?_   -- 170
      refine ow_val (val_len rfl Tryd.underlying32) rfl ?_   -- 171
      refine ow_val (val_move rfl) rfl ?_   -- 172
      refine ow_val (val_add_int ((l.length + i : Nat) : Int) rfl rfl (by omega) (by omega)) rfl ?_   -- 173
      refine ow_val (val_conv_n_u64 (l.length + i) Tryd.underlying3 Tryd.underlying46 rfl rfl) rfl ?_   -- 174
      refine ow_call_pure (v := .tuple #[.agg ((lm.getD i default).map vU8).toArray, vInt ((0 : Nat) : Int)]) (callsTo Tryd.func22 rfl (by kernel_rfl) rfl) rfl (fun w hm => (by have h := (by have h := tleaf_any k h1 h2 b90 lc (by assumption) (UInt64.ofNat (l.length + i)) w (htr90.is (hm.heldSub (.cons _ (.cons _ (.cons _ (List.Sublist.refl _)))))) (by omega); rw [leafO_nat (by omega) (by omega)] at h; exact h); rw [hgc i (by omega)] at h; exact h)) ?_   -- 175
      refine ow_val (val_move rfl) rfl ?_   -- 168
      refine ow_val (val_extract rfl rfl) rfl ?_   -- 176
      refine ow_val (val_extract rfl rfl) rfl ?_   -- 177
      refine ow_new (acts_alloc zD) rfl (fun b29 hb29 => ?_)   -- 29
      refine ow_do_eq (does_store_all 0 rfl rfl rfl (one_u8s _) Tryd.sizeOf43 (by show (List.map vU8 (lm.getD i default)).length = _; rw [List.length_map]; exact (hd1 _ (getD_mem (by omega)))) (by show (List.map vU8 zeros32).length = _; rw [List.length_map]; exact zeros32_len)) ?_
      refine ow_val (val_assign rfl) rfl ?_   -- 30
      refine ow_nil (into ?_)
      refine sw_seq ?_
      refine sw_region ?_
      refine ow_val (val_load_all 1 rfl rfl Tryd.isAgg43 Tryd.sizeOf43 (by show (List.map vU8 (lm.getD i default)).length = _; rw [List.length_map]; exact (hd1 _ (getD_mem (by omega))))) rfl ?_   -- 178
      refine ow_val (val_load_all 2 rfl rfl Tryd.isAgg43 Tryd.sizeOf43 (by show (List.map vU8 (lm.getD i default)).length = _; rw [List.length_map]; exact (hd1 _ (getD_mem (by omega))))) rfl ?_   -- 179
      refine ow_val ((val_neq_u8s rfl rfl Tryd.eqGuardType43 Tryd.underlying43 Tryd.underlying5 Tryd.sizeOf5 Tryd.isAgg5 (hd1 _ (getD_mem (by omega))) (hd1 _ (getD_mem (by omega)))).to (congrArg Value.bool (show _ = false by simp [txt]))) rfl ?_   -- 180
      refine ow_val (val_move rfl) rfl ?_   -- 181
      refine ow_guard_yes rfl rfl rfl ?_
      refine ow_val (val_load_all 0 rfl rfl Tryd.isAgg43 Tryd.sizeOf43 (by show (List.map vU8 (lm.getD i default)).length = _; rw [List.length_map]; exact (hd1 _ (getD_mem (by omega))))) rfl ?_   -- 182
      refine ow_guard_yes rfl rfl rfl ?_
      refine ow_val (val_load_all 2 rfl rfl Tryd.isAgg43 Tryd.sizeOf43 (by show (List.map vU8 (lm.getD i default)).length = _; rw [List.length_map]; exact (hd1 _ (getD_mem (by omega))))) rfl ?_   -- 183
      refine ow_guard_yes rfl rfl rfl ?_
      refine ow_val ((val_neq_u8s rfl rfl Tryd.eqGuardType43 Tryd.underlying43 Tryd.underlying5 Tryd.sizeOf5 Tryd.isAgg5 (hd1 _ (getD_mem (by omega))) (hd1 _ (getD_mem (by omega)))).to (congrArg Value.bool (show _ = false by simp [txt]))) rfl ?_   -- 184
      refine ow_val (val_pick_false rfl rfl) rfl ?_   -- 185
      refine ow_val (val_move rfl) rfl ?_   -- 186
      refine ow_guard_yes rfl rfl rfl ?_
      refine ow_val (val_move rfl) rfl ?_   -- 187
      refine ow_guard_yes rfl rfl rfl ?_
      refine ow_val ((val_neq_int rfl rfl).to (v' := .bool false) (congrArg Value.bool (decide_eq_false (fun h => h (by simp))))) rfl ?_   -- 188
      refine ow_val (val_pick_false rfl rfl) rfl ?_   -- 189
      refine ow_val (val_move rfl) rfl ?_   -- 190
      refine ow_guard_yes rfl rfl rfl ?_
      refine ow_val (val_move rfl) rfl ?_   -- 191
      refine ow_guard_yes rfl rfl rfl ?_
      refine ow_val ((val_neq_int rfl rfl).to (v' := .bool false) (congrArg Value.bool (decide_eq_false (fun h => h (by simp))))) rfl ?_   -- 192
      refine ow_val (val_pick_false rfl rfl) rfl ?_   -- 193
      refine ow_nil (into ?_)
      refine sw_false rfl rfl ?_
      refine sw_skip (into ?_)
      refine sw_region ?_
      refine ow_val (val_add_int ((i + 1 : Nat) : Int) rfl rfl (by omega) (by omega)) rfl ?_   -- 194
      refine ow_val (val_move rfl) rfl ?_   -- 153
      exact ow_nil (fun w hm => ⟨i + 1, by omega, by omega, ⟨rfl, rfl, rfl, rfl, rfl, rfl, rfl, rfl, rfl, rfl, rfl, trivial⟩, hm.only (.cons _ (.cons _ (.cons _ (.cons_cons _ (List.Sublist.refl _)))))⟩)
    · -- else
      refine sw_exit (into ?_)
      refine sw_seq ?_
      refine sw_seq ?_
      refine sw_region ?_
      refine ow_val (val_move rfl) rfl ?_   -- 195
      refine ow_val (val_len rfl Tryd.underlying32) rfl ?_   -- 196
      refine ow_val (val_move rfl) rfl ?_   -- 197
      refine ow_nil (into ?_)
      refine sw_block ?_
      refine sw_loop (σ := Nat) (fun i => i ≤ lr.length) (fun i => [(197, vInt (i : Int)), (1, .slice a l.length c), (2, .slice a1 lm.length c1), (3, .slice a2 lr.length c2), (9, vPtr b43), (12, vPtr b78), (14, vPtr b84), (16, vPtr b90), (11, .pointer (some ⟨b11, 0, none⟩)), (195, .slice a2 lr.length c2), (196, vInt ((lr.length : Nat) : Int))]) (fun _ => Mem w [] (some (b11, blk ((lg k (seg l 0 l.length)).map vU8) 43) :: (((es43 ++ es78) ++ es84) ++ es90))) (fun i => lr.length - i) 0 (Nat.zero_le _) ⟨rfl, rfl, rfl, rfl, rfl, rfl, rfl, rfl, rfl, rfl, rfl, trivial⟩ (fun w hm => hm.only (.cons_cons _ (List.Sublist.refl _))) ?_
      intro i hi
      refine sw_seq ?_
      refine sw_region ?_
      refine ow_val (val_lss_int rfl rfl) rfl ?_   -- 198
      refine ow_nil (into ?_)
      refine sw_seq ?_
      refine sw_if rfl (fun h0c => ?_) (fun h0c => ?_)
      · -- then
        obtain ⟨b2, o2, rfl⟩ := hr2.addr (by rw [flatMap_size lr (n := 32) (fun y hy => by rw [List.length_map]; exact hd2 y hy)]; omega)
        refine sw_skip (into ?_)
        refine sw_seq ?_
        refine sw_block ?_
        refine sw_seq ?_
        refine sw_region ?_
        refine ow_val (val_move rfl) rfl ?_   -- 199
        refine ow_val (val_indexAddr_slice (i) (o2 + i * 32) rfl rfl Tryd.underlying32 Tryd.sizeOf43 (by omega) (by omega) (by omega)) rfl ?_   -- 200
        refine ow_val (val_load_elem (cells := fun d => d.map vU8) (l := lr) (o := o2) (i := i) rfl Tryd.isAgg43 Tryd.sizeOf43 (fun x hx => by rw [List.length_map]; exact hd2 x hx) (by omega) (by omega) (fun w' hm => hr2.mem hm)) rfl ?_   -- 201
        refine ow_new (acts_alloc zD) rfl (fun b32 hb32 => ?_)   -- 32
        refine ow_val (val_assign rfl) rfl ?_   -- 31
        refine ow_do_eq (does_store_all 0 rfl rfl rfl (one_u8s _) Tryd.sizeOf43 (by show (List.map vU8 (lr.getD i default)).length = _; rw [List.length_map]; exact (hd2 _ (getD_mem (by omega)))) (by show (List.map vU8 zeros32).length = _; rw [List.length_map]; exact zeros32_len)) ?_
        refine ow_nil (into ?_)
        refine sw_seq ?_
        refine sw_region ?_
        refine ow_val (val_move rfl) rfl ?_   -- 203
        refine ow_val (val_move rfl) rfl ?_   -- 204
        refine ow_val (val_len rfl Tryd.underlying32) rfl ?_   -- 205
        refine ow_val (val_move rfl) rfl ?_   -- 206
        refine ow_val (val_add_int ((l.length + i : Nat) : Int) rfl rfl (by omega) (by omega)) rfl ?_   -- 207
        refine ow_val (val_conv_n_u64 (l.length + i) Tryd.underlying3 Tryd.underlying46 rfl rfl) rfl ?_   -- 208
        refine ow_call_pure (v := .tuple #[.agg ((lr.getD i default).map vU8).toArray, vInt ((0 : Nat) : Int)]) (callsTo Tryd.func22 rfl (by kernel_rfl) rfl) rfl (fun w hm => (by have h := (by have h := tleaf_any k h1 h2 b84 lb (by assumption) (UInt64.ofNat (l.length + i)) w ((htr84.left (T' := es90)).is (hm.heldSub (.cons _ (.cons _ (List.Sublist.refl _))))) (by omega); rw [leafO_nat (by omega) (by omega)] at h; exact h); rw [hgb i] at h; exact h)) ?_   -- 209
        refine ow_val (val_move rfl) rfl ?_   -- 202
        refine ow_val (val_extract rfl rfl) rfl ?_   -- 210
        refine ow_val (val_extract rfl rfl) rfl ?_   -- 211
        refine ow_new (acts_alloc zD) rfl (fun b33 hb33 => ?_)   -- 33
        refine ow_do_eq (does_store_all 0 rfl rfl rfl (one_u8s _) Tryd.sizeOf43 (by show (List.map vU8 (lr.getD i default)).length = _; rw [List.length_map]; exact (hd2 _ (getD_mem (by omega)))) (by show (List.map vU8 zeros32).length = _; rw [List.length_map]; exact zeros32_len)) ?_
        refine ow_val (val_assign rfl) rfl ?_   -- 34
        refine ow_nil (into ?_)
        refine sw_seq ?_
        refine sw_region ?_
        refine ow_val (val_move rfl) rfl ?_   -- 213
        refine ow_val (val_move rfl) rfl ?_   -- 214
        refine ow_val (val_len rfl Tryd.underlying32) rfl ?_   -- 215
        refine ow_val (val_move rfl) rfl ?_   -- 216
        refine ow_val (val_len rfl Tryd.underlying32) rfl ?_   -- 217
        refine ow_val (val_add_int ((l.length + lm.length : Nat) : Int) rfl rfl (by omega) (by omega)) rfl ?_   -- 218
        refine ow_val (val_move rfl) rfl ?_   -- 219
        refine ow_val (val_add_int ((l.length + lm.length + i : Nat) : Int) rfl rfl (by omega) (by omega)) rfl ?_   -- 220
        refine ow_val (val_conv_n_u64 (l.length + lm.length + i) Tryd.underlying3 Tryd.underlying46 rfl rfl) rfl ?_   -- 221
        refine ow_call_pure (v := .tuple #[.agg ((lr.getD i default).map vU8).toArray, vInt ((0 : Nat) : Int)]) (callsTo Tryd.func22 rfl (by kernel_rfl) rfl) rfl (fun w hm => (by have h := (by have h := tleaf_any k h1 h2 b90 lc (by assumption) (UInt64.ofNat (l.length + lm.length + i)) w (htr90.is (hm.heldSub (.cons _ (.cons _ (.cons _ (List.Sublist.refl _)))))) (by omega); rw [leafO_nat (by omega) (by omega)] at h; exact h); rw [hgd i] at h; exact h)) ?_   -- 222
        refine ow_val (val_move rfl) rfl ?_   -- 212
        refine ow_val (val_extract rfl rfl) rfl ?_   -- 223
        refine ow_val (val_extract rfl rfl) rfl ?_   -- 224
        refine ow_new (acts_alloc zD) rfl (fun b35 hb35 => ?_)   -- 35
        refine ow_do_eq (does_store_all 0 rfl rfl rfl (one_u8s _) Tryd.sizeOf43 (by show (List.map vU8 (lr.getD i default)).length = _; rw [List.length_map]; exact (hd2 _ (getD_mem (by omega)))) (by show (List.map vU8 zeros32).length = _; rw [List.length_map]; exact zeros32_len)) ?_
        refine ow_val (val_assign rfl) rfl ?_   -- 36
        refine ow_nil (into ?_)
        refine sw_seq ?_
        refine sw_region ?_
        refine ow_val (val_load_all 1 rfl rfl Tryd.isAgg43 Tryd.sizeOf43 (by show (List.map vU8 (lr.getD i default)).length = _; rw [List.length_map]; exact (hd2 _ (getD_mem (by omega))))) rfl ?_   -- 225
        refine ow_val (val_load_all 2 rfl rfl Tryd.isAgg43 Tryd.sizeOf43 (by show (List.map vU8 (lr.getD i default)).length = _; rw [List.length_map]; exact (hd2 _ (getD_mem (by omega))))) rfl ?_   -- 226
        refine ow_val ((val_neq_u8s rfl rfl Tryd.eqGuardType43 Tryd.underlying43 Tryd.underlying5 Tryd.sizeOf5 Tryd.isAgg5 (hd2 _ (getD_mem (by omega))) (hd2 _ (getD_mem (by omega)))).to (congrArg Value.bool (show _ = false by simp [txt]))) rfl ?_   -- 227
        refine ow_val (val_move rfl) rfl ?_   -- 228
        refine ow_guard_yes rfl rfl rfl ?_
        refine ow_val (val_load_all 0 rfl rfl Tryd.isAgg43 Tryd.sizeOf43 (by show (List.map vU8 (lr.getD i default)).length = _; rw [List.length_map]; exact (hd2 _ (getD_mem (by omega))))) rfl ?_   -- 229
        refine ow_guard_yes rfl rfl rfl ?_
        refine ow_val (val_load_all 2 rfl rfl Tryd.isAgg43 Tryd.sizeOf43 (by show (List.map vU8 (lr.getD i default)).length = _; rw [List.length_map]; exact (hd2 _ (getD_mem (by omega))))) rfl ?_   -- 230
        refine ow_guard_yes rfl rfl rfl ?_
        refine ow_val ((val_neq_u8s rfl rfl Tryd.eqGuardType43 Tryd.underlying43 Tryd.underlying5 Tryd.sizeOf5 Tryd.isAgg5 (hd2 _ (getD_mem (by omega))) (hd2 _ (getD_mem (by omega)))).to (congrArg Value.bool (show _ = false by simp [txt]))) rfl ?_   -- 231
        refine ow_val (val_pick_false rfl rfl) rfl ?_   -- 232
        refine ow_val (val_move rfl) rfl ?_   -- 233
        refine ow_guard_yes rfl rfl rfl ?_
        refine ow_val (val_move rfl) rfl ?_   -- 234
        refine ow_guard_yes rfl rfl rfl ?_
        refine ow_val ((val_neq_int rfl rfl).to (v' := .bool false) (congrArg Value.bool (decide_eq_false (fun h => h (by simp))))) rfl ?_   -- 235
        refine ow_val (val_pick_false rfl rfl) rfl ?_   -- 236
        refine ow_val (val_move rfl) rfl ?_   -- 237
        refine ow_guard_yes rfl rfl rfl ?_
        refine ow_val (val_move rfl) rfl ?_   -- 238
        refine ow_guard_yes rfl rfl rfl ?_
        refine ow_val ((val_neq_int rfl rfl).to (v' := .bool false) (congrArg Value.bool (decide_eq_false (fun h => h (by simp))))) rfl ?_   -- 239
        refine ow_val (val_pick_false rfl rfl) rfl ?_   -- 240
        refine ow_nil (into ?_)
        refine sw_false rfl rfl ?_
        refine sw_skip (into ?_)
        refine sw_region ?_
        refine ow_val (val_add_int ((i + 1 : Nat) : Int) rfl rfl (by omega) (by omega)) rfl ?_   -- 241
        refine ow_val (val_move rfl) rfl ?_   -- 197
        exact ow_nil (fun w hm => ⟨i + 1, by omega, by omega, ⟨rfl, rfl, rfl, rfl, rfl, rfl, rfl, rfl, rfl, rfl, rfl, trivial⟩, hm.only (.cons _ (.cons _ (.cons _ (.cons_cons _ (List.Sublist.refl _)))))⟩)
      · -- else
        refine sw_exit (into ?_)
        refine sw_seq ?_
        refine sw_region ?_
        refine ow_val (val_move rfl) rfl ?_   -- 243
        refine ow_val (val_move rfl) rfl ?_   -- 244
        refine ow_val (val_len rfl Tryd.underlying32) rfl ?_   -- 245
        refine ow_call_pure (v := .tuple #[.agg ((lg k (seg l 0 l.length)).map vU8).toArray, .bool true]) (callsTo Tryd.func31 rfl (by kernel_rfl) rfl) rfl (fun w hm => rooted_any k h1 h2 w (hK.mem0 hm) b43 l ((((htr43.left (T' := es78)).left (T' := es84)).left (T' := es90)).is (hm.heldSub (.cons _ (List.Sublist.refl _)))) (by assumption) (by assumption) l.length (by omega) (by omega)) ?_   -- 246
        refine ow_val (val_move rfl) rfl ?_   -- 242
        refine ow_val (val_extract rfl rfl) rfl ?_   -- 247
        refine ow_val (val_extract rfl rfl) rfl ?_   -- 248
        refine ow_new (acts_alloc zD) rfl (fun b37 hb37 => ?_)   -- 37
        refine ow_do_eq (does_store_all 0 rfl rfl rfl (one_u8s _) Tryd.sizeOf43 (by show (List.map vU8 (lg k (seg l 0 l.length))).length = _; rw [List.length_map]; exact (lg_len h2 _ rfl (seg_all (by assumption)))) (by show (List.map vU8 zeros32).length = _; rw [List.length_map]; exact zeros32_len)) ?_
        refine ow_val (val_assign rfl) rfl ?_   -- 10
        refine ow_nil (into ?_)
        refine sw_seq ?_
        refine sw_region ?_
        refine ow_val (val_move rfl) rfl ?_   -- 249
        refine ow_val (val_move rfl) rfl ?_   -- 250
        refine ow_guard_yes rfl rfl rfl ?_
        refine ow_val (val_load_all 0 rfl rfl Tryd.isAgg43 Tryd.sizeOf43 (by show (List.map vU8 (lg k (seg l 0 l.length))).length = _; rw [List.length_map]; exact (lg_len h2 _ rfl (seg_all (by assumption))))) rfl ?_   -- 251
        refine ow_guard_yes rfl rfl rfl ?_
        refine ow_val (val_load_all 1 rfl rfl Tryd.isAgg43 Tryd.sizeOf43 (by show (List.map vU8 (lg k (seg l 0 l.length))).length = _; rw [List.length_map]; exact (lg_len h2 _ rfl (seg_all (by assumption))))) rfl ?_   -- 252
        refine ow_guard_yes rfl rfl rfl ?_
        refine ow_val ((val_eql_u8s rfl rfl Tryd.eqGuardType43 Tryd.underlying43 Tryd.underlying5 Tryd.sizeOf5 Tryd.isAgg5 (lg_len h2 _ rfl (seg_all (by assumption))) (lg_len h2 _ rfl (seg_all (by assumption)))).to (congrArg Value.bool (show _ = true by simp [txt]))) rfl ?_   -- 253
        refine ow_val (val_pick_true rfl rfl) rfl ?_   -- 254
        refine ow_val (val_move rfl) rfl ?_   -- 255
        refine ow_guard_yes rfl rfl rfl ?_
        refine ow_val (val_move rfl) rfl ?_   -- 256
        refine ow_guard_yes rfl rfl rfl ?_
        refine ow_call_pure (v := vU64 (UInt64.ofNat l.length)) (callsTo Tryd.func24 rfl (by kernel_rfl) rfl) rfl (fun w hm => tsize_is b43 l w ((((htr43.left (T' := es78)).left (T' := es84)).left (T' := es90)).is (hm.heldSub (.cons _ (.cons _ (List.Sublist.refl _)))))) ?_   -- 257
        refine ow_guard_yes rfl rfl rfl ?_
        refine ow_val (val_move rfl) rfl ?_   -- 258
        refine ow_guard_yes rfl rfl rfl ?_
        refine ow_val (val_len rfl Tryd.underlying32) rfl ?_   -- 259
        refine ow_guard_yes rfl rfl rfl ?_
        refine ow_val (val_conv_n_u64 l.length Tryd.underlying3 Tryd.underlying46 rfl rfl) rfl ?_   -- 260
        refine ow_guard_yes rfl rfl rfl ?_
        refine ow_val ((val_eql_u64 rfl rfl).to (congrArg Value.bool (decide_eq_true (rfl)))) rfl ?_   -- 261
        refine ow_val (val_pick_true rfl rfl) rfl ?_   -- 262
        refine ow_val (val_assign rfl) rfl ?_   -- 8
        refine ow_nil (into ?_)
        exact sw_ret (fun w hm => ret_one _ rfl rfl ⟨rfl, hm.forgetAll⟩)

theorem mtreeForks_any (v0 : Int) (w : World) (hK : KW w) (a : Option Addr) (c : Nat) (l : List (List UInt8)) (hdl : ∀ d ∈ l, d.length = 32) (hr : Rd w a (l.flatMap fun d => d.map vU8)) (hc : l.length ≤ c) (hl : l.length < 9223372036854775808) (a1 : Option Addr) (c1 : Nat) (lm : List (List UInt8)) (hd1 : ∀ d ∈ lm, d.length = 32) (hr1 : Rd w a1 (lm.flatMap fun d => d.map vU8)) (hc1 : lm.length ≤ c1) (hl1 : lm.length < 9223372036854775808) (a2 : Option Addr) (c2 : Nat) (lr : List (List UInt8)) (hd2 : ∀ d ∈ lr, d.length = 32) (hr2 : Rd w a2 (lr.flatMap fun d => d.map vU8)) (hc2 : lr.length ≤ c2) (hl2 : lr.length < 9223372036854775808)  (hz1 : lm.length < 4611686018427387904) (hz2 : lr.length < 4611686018427387904) : Calls Tryd.prog 9 #[vInt v0, .slice a l.length c, .slice a1 lm.length c1, .slice a2 lr.length c2] w fun e w' => ∃ v, e = .returned v ∧ v = .bool true ∧ Mem w [] [] w' := by
  by_cases hno : l.length ≤ 400 ∧ fitO v0 l = true
  · obtain ⟨h4, hf⟩ := hno
    obtain ⟨hwd, hfl⟩ := fitO_iff.1 hf
    have h9 := wd_iff.1 hwd
    obtain ⟨k, rfl⟩ : ∃ k : Nat, v0 = (k : Int) := ⟨v0.toNat, by omega⟩
    cases hq1 : fitO (k : Int) lm with
    | false => exact forks_a k (by omega) (by omega) w hK a c l hdl hr hc hl a1 c1 lm hd1 hr1 hc1 hl1 a2 c2 lr hd2 hr2 hc2 hl2 hfl h4 hq1
    | true =>
      cases hq2 : fitO (k : Int) lr with
      | false => exact forks_b k (by omega) (by omega) w hK a c l hdl hr hc hl a1 c1 lm hd1 hr1 hc1 hl1 a2 c2 lr hd2 hr2 hc2 hl2 hfl h4 hq1 hq2
      | true =>
        by_cases h5 : lm.length + lr.length ≤ 400
        · exact forks_main k (by omega) (by omega) w hK a c l hdl hr hc hl a1 c1 lm hd1 hr1 hc1 hl1 a2 c2 lr hd2 hr2 hc2 hl2 hfl h4 hq1 hq2 h5 _ _ _ rfl rfl rfl
        · exact forks_c k (by omega) (by omega) w hK a c l hdl hr hc hl a1 c1 lm hd1 hr1 hc1 hl1 a2 c2 lr hd2 hr2 hc2 hl2 hfl h4 hq1 hq2 hz1 hz2 h5
  · exact forks_none v0 w hK a c l hdl hr hc hl a1 c1 lm hd1 hr1 hc1 hl1 a2 c2 lr hd2 hr2 hc2 hl2 hno
end Go.Proofs.YtcappcjogcekkaaDoor
