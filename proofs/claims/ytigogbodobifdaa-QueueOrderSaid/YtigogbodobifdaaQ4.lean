import Derived.Test.YtigogbodobifdaaQ3
import Derived.Test.YtigogbodobifdaaProg
set_option linter.unusedVariables false
set_option linter.unusedSimpArgs false
namespace Go.Proofs.Ytigogbodobifdaa
open Go.Sx
theorem one_any (w : World) (cl : Bool) (xs : List Value) (q p : Nat) (pl : Int) (hpl : 1 ≤ pl ∧ pl ≤ 64) (r1 r2 : Option Addr × Nat × Ent) (hI : qInv xs r1 r2) (hbig : (xs.length + 1) * 8 ≤ 140737488355328) (hm0 : Mem w (keys (qMem q p pl cl xs r1 r2)) (qMem q p pl cl xs r1 r2) w) (K z : Int) :
    Calls Try.prog 11 #[.pointer (some ⟨q, 0, none⟩), .pointer (some ⟨p, 0, none⟩), .agg #[vInt K, vInt z]] w fun en w' => ∃ u, en = .returned u ∧ ∃ s : Bool × List Value × (Option Addr × Nat × Ent) × (Option Addr × Nat × Ent), u = .bool true ∧ (qInv s.2.1 s.2.2.1 s.2.2.2 ∧ s.2.1.length ≤ xs.length + 1) ∧ Mem w (keys (qMem q p pl cl xs r1 r2)) (qMem q p pl s.1 s.2.1 s.2.2.1 s.2.2.2) w' := by
  obtain ⟨a, c, e⟩ := r1
  obtain ⟨a2, c2, e2⟩ := r2
  obtain ⟨hr, hr2, hX⟩ := hI
  by_cases h1 : K = 1
  · cases cl with
    | false => exact one_put w xs q p pl hpl a c e a2 c2 e2 hr hr2 hX hbig hm0 K z h1
    | true => exact one_shut w xs q p pl hpl a c e a2 c2 e2 hr hr2 hX hbig hm0 K z h1
  by_cases h2 : K = 2
  · match xs, hr, hr2, hX, hbig, hm0 with
    | [], hr, hr2, hX, hbig, hm0 => exact one_none w cl [] q p pl hpl a c e a2 c2 e2 hr hr2 hX hbig hm0 K z h2 rfl
    | v :: r, hr, hr2, hX, hbig, hm0 =>
      obtain ⟨z0, rfl⟩ := hX v (.head _)
      exact one_take w cl z0 r q p pl hpl a c e a2 c2 e2 hr hr2 hX hbig hm0 K z h2
  by_cases h3 : K = 3
  · cases cl with
    | false => exact one_close w xs q p pl hpl a c e a2 c2 e2 hr hr2 hX hbig hm0 K z h3
    | true => exact one_clos2 w xs q p pl hpl a c e a2 c2 e2 hr hr2 hX hbig hm0 K z h3
  · exact one_rest w cl xs q p pl hpl a c e a2 c2 e2 hr hr2 hX hbig hm0 K z ⟨h1, h2, h3⟩

theorem one_n1 (w : World) (K z : Int) (hK : K = 1) : Calls Try.prog 11 #[.pointer none, .pointer none, .agg #[vInt K, vInt z]] w fun e w' => ∃ v, e = .returned v ∧ v = .bool true ∧ Mem w [] [] w' := by
  refine calls_of_sw (vs := [.pointer none, .pointer none, .agg #[vInt K, vInt z]]) Try.func11 rfl Try.ntmps11 rfl (SW.begin ?_)
  refine sw_seq ?_
  refine sw_region ?_
  refine ow_new (acts_box rfl) rfl (fun b5 hb5 => ?_)   -- 5
  refine ow_val (val_assign rfl) rfl ?_   -- 6
  refine ow_nil (into ?_)
  refine sw_seq ?_
  refine sw_seq ?_
  refine sw_region ?_
  refine ow_val (val_fieldAddr (m := 0) (e := 0) rfl Try.underlying32 rfl rfl Try.sizeOf3 rfl) rfl ?_   -- 15
  refine ow_val (val_load_at 0 rfl rfl Try.isAgg3 rfl) rfl ?_   -- 16
  refine ow_nil (into ?_)
  refine sw_block ?_
  refine sw_seq ?_
  refine sw_region ?_
  refine ow_val ((val_eql_int rfl rfl).to (congrArg Value.bool (decide_eq_true (hK)))) rfl ?_   -- 18
  refine ow_val (val_assign rfl) rfl ?_   -- 17
  refine ow_nil (into ?_)
  refine sw_true rfl rfl ?_
  refine sw_seq ?_
  refine sw_region ?_
  refine ow_val (val_move rfl) rfl ?_   -- 20
  refine ow_val (val_fieldAddr (m := 0) (e := 1) rfl Try.underlying32 rfl rfl Try.sizeOf3 rfl) rfl ?_   -- 21
  refine ow_val (val_load_at 0 rfl rfl Try.isAgg3 rfl) rfl ?_   -- 22
  refine ow_call_pure (v := .tuple #[.bool false, vInt 5]) (callsTo Try.func19 rfl (by kernel_rfl) rfl) rfl (fun w hm => iPut_nil _ w) ?_   -- 23
  refine ow_val (val_move rfl) rfl ?_   -- 19
  refine ow_val (val_extract rfl rfl) rfl ?_   -- 24
  refine ow_val (val_extract rfl rfl) rfl ?_   -- 25
  refine ow_val (val_assign rfl) rfl ?_   -- 7
  refine ow_val (val_assign rfl) rfl ?_   -- 8
  refine ow_nil (into ?_)
  refine sw_seq ?_
  refine sw_region ?_
  refine ow_val (val_move rfl) rfl ?_   -- 27
  refine ow_val (val_fieldAddr (m := 0) (e := 1) rfl Try.underlying32 rfl rfl Try.sizeOf3 rfl) rfl ?_   -- 28
  refine ow_val (val_load_at 0 rfl rfl Try.isAgg3 rfl) rfl ?_   -- 29
  refine ow_call_pure (v := .tuple #[.bool false, vInt 5]) (callsTo Try.func31 rfl (by kernel_rfl) rfl) rfl (fun w hm => rPut_nil _ w) ?_   -- 30
  refine ow_val (val_move rfl) rfl ?_   -- 26
  refine ow_val (val_extract rfl rfl) rfl ?_   -- 31
  refine ow_val (val_extract rfl rfl) rfl ?_   -- 32
  refine ow_val (val_assign rfl) rfl ?_   -- 9
  refine ow_val (val_assign rfl) rfl ?_   -- 10
  refine ow_nil (into ?_)
  refine sw_seq ?_
  refine sw_region ?_
  refine ow_val (val_move rfl) rfl ?_   -- 33
  refine ow_val (val_move rfl) rfl ?_   -- 34
  refine ow_val (val_neq_bool Try.underlying4 rfl rfl) rfl ?_   -- 35
  refine ow_val (val_move rfl) rfl ?_   -- 36
  refine ow_guard_yes rfl rfl rfl ?_
  refine ow_val (val_move rfl) rfl ?_   -- 37
  refine ow_guard_yes rfl rfl rfl ?_
  refine ow_val (val_move rfl) rfl ?_   -- 38
  refine ow_guard_yes rfl rfl rfl ?_
  refine ow_val ((val_neq_int rfl rfl).to (v' := .bool false) (congrArg Value.bool (decide_eq_false (fun h => h rfl)))) rfl ?_   -- 39
  refine ow_val (val_pick_false rfl rfl) rfl ?_   -- 40
  refine ow_nil (into ?_)
  refine sw_false rfl rfl ?_
  refine sw_skip (into ?_)
  refine sw_seq ?_
  refine sw_region ?_
  refine ow_val (val_move rfl) rfl ?_   -- 68
  refine ow_call_pure (v := vInt 0) (callsTo Try.func23 rfl (by kernel_rfl) rfl) rfl (fun w hm => iLen_nil w) ?_   -- 69
  refine ow_val (val_move rfl) rfl ?_   -- 70
  refine ow_call_pure (v := vInt 0) (callsTo Try.func34 rfl (by kernel_rfl) rfl) rfl (fun w hm => rLen_nil w) ?_   -- 71
  refine ow_val ((val_eql_int rfl rfl).to (v' := .bool true) (congrArg Value.bool (decide_eq_true rfl))) rfl ?_   -- 72
  refine ow_val (val_move rfl) rfl ?_   -- 73
  refine ow_guard_yes rfl rfl rfl ?_
  refine ow_val (val_move rfl) rfl ?_   -- 74
  refine ow_guard_yes rfl rfl rfl ?_
  refine ow_call_pure (v := vInt 0) (callsTo Try.func24 rfl (by kernel_rfl) rfl) rfl (fun w hm => iLine_nil w) ?_   -- 75
  refine ow_guard_yes rfl rfl rfl ?_
  refine ow_val (val_move rfl) rfl ?_   -- 76
  refine ow_guard_yes rfl rfl rfl ?_
  refine ow_call_pure (v := vInt 0) (callsTo Try.func35 rfl (by kernel_rfl) rfl) rfl (fun w hm => rLine_nil w) ?_   -- 77
  refine ow_guard_yes rfl rfl rfl ?_
  refine ow_val ((val_eql_int rfl rfl).to (v' := .bool true) (congrArg Value.bool (decide_eq_true rfl))) rfl ?_   -- 78
  refine ow_val (val_pick_true rfl rfl) rfl ?_   -- 79
  refine ow_val (val_move rfl) rfl ?_   -- 80
  refine ow_guard_yes rfl rfl rfl ?_
  refine ow_val (val_move rfl) rfl ?_   -- 81
  refine ow_guard_yes rfl rfl rfl ?_
  refine ow_call_pure (v := .bool false) (callsTo Try.func26 rfl (by kernel_rfl) rfl) rfl (fun w hm => iClosed_nil w) ?_   -- 82
  refine ow_guard_yes rfl rfl rfl ?_
  refine ow_val (val_move rfl) rfl ?_   -- 83
  refine ow_guard_yes rfl rfl rfl ?_
  refine ow_call_pure (v := .bool false) (callsTo Try.func36 rfl (by kernel_rfl) rfl) rfl (fun w hm => rClosed_nil w) ?_   -- 84
  refine ow_guard_yes rfl rfl rfl ?_
  refine ow_val (val_eql_bool Try.underlying4 rfl rfl) rfl ?_   -- 85
  refine ow_val (val_pick_true rfl rfl) rfl ?_   -- 86
  refine ow_val (val_assign rfl) rfl ?_   -- 6
  refine ow_nil (into ?_)
  refine sw_ret (fun w hm => ?_)
  try dsimp only [thenP, blockP, Nat.beq, cond]
  exact ret_one _ rfl rfl ⟨rfl, hm.forgetAll⟩

theorem one_n2 (w : World) (K z : Int) (hK : K = 2) : Calls Try.prog 11 #[.pointer none, .pointer none, .agg #[vInt K, vInt z]] w fun e w' => ∃ v, e = .returned v ∧ v = .bool true ∧ Mem w [] [] w' := by
  refine calls_of_sw (vs := [.pointer none, .pointer none, .agg #[vInt K, vInt z]]) Try.func11 rfl Try.ntmps11 rfl (SW.begin ?_)
  refine sw_seq ?_
  refine sw_region ?_
  refine ow_new (acts_box rfl) rfl (fun b5 hb5 => ?_)   -- 5
  refine ow_val (val_assign rfl) rfl ?_   -- 6
  refine ow_nil (into ?_)
  refine sw_seq ?_
  refine sw_seq ?_
  refine sw_region ?_
  refine ow_val (val_fieldAddr (m := 0) (e := 0) rfl Try.underlying32 rfl rfl Try.sizeOf3 rfl) rfl ?_   -- 15
  refine ow_val (val_load_at 0 rfl rfl Try.isAgg3 rfl) rfl ?_   -- 16
  refine ow_nil (into ?_)
  refine sw_block ?_
  refine sw_seq ?_
  refine sw_region ?_
  refine ow_val ((val_eql_int rfl rfl).to (congrArg Value.bool (decide_eq_false (by omega)))) rfl ?_   -- 18
  refine ow_val (val_assign rfl) rfl ?_   -- 17
  refine ow_nil (into ?_)
  refine sw_false rfl rfl ?_
  refine sw_seq ?_
  refine sw_region ?_
  refine ow_val ((val_eql_int rfl rfl).to (congrArg Value.bool (decide_eq_true (hK)))) rfl ?_   -- 42
  refine ow_val (val_assign rfl) rfl ?_   -- 41
  refine ow_nil (into ?_)
  refine sw_true rfl rfl ?_
  refine sw_seq ?_
  refine sw_region ?_
  refine ow_val (val_move rfl) rfl ?_   -- 44
  refine ow_call_pure (v := .tuple #[vInt 0, .bool false]) (callsTo Try.func21 rfl (by kernel_rfl) rfl) rfl (fun w hm => iTake_nil w) ?_   -- 45
  refine ow_val (val_move rfl) rfl ?_   -- 43
  refine ow_val (val_extract rfl rfl) rfl ?_   -- 46
  refine ow_val (val_extract rfl rfl) rfl ?_   -- 47
  refine ow_val (val_assign rfl) rfl ?_   -- 11
  refine ow_val (val_assign rfl) rfl ?_   -- 12
  refine ow_nil (into ?_)
  refine sw_seq ?_
  refine sw_region ?_
  refine ow_val (val_move rfl) rfl ?_   -- 49
  refine ow_call_pure (v := .tuple #[vInt 0, .bool false]) (callsTo Try.func32 rfl (by kernel_rfl) rfl) rfl (fun w hm => rTake_nil w) ?_   -- 50
  refine ow_val (val_move rfl) rfl ?_   -- 48
  refine ow_val (val_extract rfl rfl) rfl ?_   -- 51
  refine ow_val (val_extract rfl rfl) rfl ?_   -- 52
  refine ow_val (val_assign rfl) rfl ?_   -- 13
  refine ow_val (val_assign rfl) rfl ?_   -- 14
  refine ow_nil (into ?_)
  refine sw_seq ?_
  refine sw_region ?_
  refine ow_val (val_move rfl) rfl ?_   -- 53
  refine ow_val (val_move rfl) rfl ?_   -- 54
  refine ow_val ((val_neq_int rfl rfl).to (v' := .bool false) (congrArg Value.bool (decide_eq_false (fun h => h rfl)))) rfl ?_   -- 55
  refine ow_val (val_move rfl) rfl ?_   -- 56
  refine ow_guard_yes rfl rfl rfl ?_
  refine ow_val (val_move rfl) rfl ?_   -- 57
  refine ow_guard_yes rfl rfl rfl ?_
  refine ow_val (val_move rfl) rfl ?_   -- 58
  refine ow_guard_yes rfl rfl rfl ?_
  refine ow_val (val_neq_bool Try.underlying4 rfl rfl) rfl ?_   -- 59
  refine ow_val (val_pick_false rfl rfl) rfl ?_   -- 60
  refine ow_nil (into ?_)
  refine sw_false rfl rfl ?_
  refine sw_skip (into ?_)
  refine sw_seq ?_
  refine sw_region ?_
  refine ow_val (val_move rfl) rfl ?_   -- 68
  refine ow_call_pure (v := vInt 0) (callsTo Try.func23 rfl (by kernel_rfl) rfl) rfl (fun w hm => iLen_nil w) ?_   -- 69
  refine ow_val (val_move rfl) rfl ?_   -- 70
  refine ow_call_pure (v := vInt 0) (callsTo Try.func34 rfl (by kernel_rfl) rfl) rfl (fun w hm => rLen_nil w) ?_   -- 71
  refine ow_val ((val_eql_int rfl rfl).to (v' := .bool true) (congrArg Value.bool (decide_eq_true rfl))) rfl ?_   -- 72
  refine ow_val (val_move rfl) rfl ?_   -- 73
  refine ow_guard_yes rfl rfl rfl ?_
  refine ow_val (val_move rfl) rfl ?_   -- 74
  refine ow_guard_yes rfl rfl rfl ?_
  refine ow_call_pure (v := vInt 0) (callsTo Try.func24 rfl (by kernel_rfl) rfl) rfl (fun w hm => iLine_nil w) ?_   -- 75
  refine ow_guard_yes rfl rfl rfl ?_
  refine ow_val (val_move rfl) rfl ?_   -- 76
  refine ow_guard_yes rfl rfl rfl ?_
  refine ow_call_pure (v := vInt 0) (callsTo Try.func35 rfl (by kernel_rfl) rfl) rfl (fun w hm => rLine_nil w) ?_   -- 77
  refine ow_guard_yes rfl rfl rfl ?_
  refine ow_val ((val_eql_int rfl rfl).to (v' := .bool true) (congrArg Value.bool (decide_eq_true rfl))) rfl ?_   -- 78
  refine ow_val (val_pick_true rfl rfl) rfl ?_   -- 79
  refine ow_val (val_move rfl) rfl ?_   -- 80
  refine ow_guard_yes rfl rfl rfl ?_
  refine ow_val (val_move rfl) rfl ?_   -- 81
  refine ow_guard_yes rfl rfl rfl ?_
  refine ow_call_pure (v := .bool false) (callsTo Try.func26 rfl (by kernel_rfl) rfl) rfl (fun w hm => iClosed_nil w) ?_   -- 82
  refine ow_guard_yes rfl rfl rfl ?_
  refine ow_val (val_move rfl) rfl ?_   -- 83
  refine ow_guard_yes rfl rfl rfl ?_
  refine ow_call_pure (v := .bool false) (callsTo Try.func36 rfl (by kernel_rfl) rfl) rfl (fun w hm => rClosed_nil w) ?_   -- 84
  refine ow_guard_yes rfl rfl rfl ?_
  refine ow_val (val_eql_bool Try.underlying4 rfl rfl) rfl ?_   -- 85
  refine ow_val (val_pick_true rfl rfl) rfl ?_   -- 86
  refine ow_val (val_assign rfl) rfl ?_   -- 6
  refine ow_nil (into ?_)
  refine sw_ret (fun w hm => ?_)
  try dsimp only [thenP, blockP, Nat.beq, cond]
  exact ret_one _ rfl rfl ⟨rfl, hm.forgetAll⟩

theorem one_n3 (w : World) (K z : Int) (hK : K = 3) : Calls Try.prog 11 #[.pointer none, .pointer none, .agg #[vInt K, vInt z]] w fun e w' => ∃ v, e = .returned v ∧ v = .bool true ∧ Mem w [] [] w' := by
  refine calls_of_sw (vs := [.pointer none, .pointer none, .agg #[vInt K, vInt z]]) Try.func11 rfl Try.ntmps11 rfl (SW.begin ?_)
  refine sw_seq ?_
  refine sw_region ?_
  refine ow_new (acts_box rfl) rfl (fun b5 hb5 => ?_)   -- 5
  refine ow_val (val_assign rfl) rfl ?_   -- 6
  refine ow_nil (into ?_)
  refine sw_seq ?_
  refine sw_seq ?_
  refine sw_region ?_
  refine ow_val (val_fieldAddr (m := 0) (e := 0) rfl Try.underlying32 rfl rfl Try.sizeOf3 rfl) rfl ?_   -- 15
  refine ow_val (val_load_at 0 rfl rfl Try.isAgg3 rfl) rfl ?_   -- 16
  refine ow_nil (into ?_)
  refine sw_block ?_
  refine sw_seq ?_
  refine sw_region ?_
  refine ow_val ((val_eql_int rfl rfl).to (congrArg Value.bool (decide_eq_false (by omega)))) rfl ?_   -- 18
  refine ow_val (val_assign rfl) rfl ?_   -- 17
  refine ow_nil (into ?_)
  refine sw_false rfl rfl ?_
  refine sw_seq ?_
  refine sw_region ?_
  refine ow_val ((val_eql_int rfl rfl).to (congrArg Value.bool (decide_eq_false (by omega)))) rfl ?_   -- 42
  refine ow_val (val_assign rfl) rfl ?_   -- 41
  refine ow_nil (into ?_)
  refine sw_false rfl rfl ?_
  refine sw_seq ?_
  refine sw_region ?_
  refine ow_val ((val_eql_int rfl rfl).to (congrArg Value.bool (decide_eq_true (hK)))) rfl ?_   -- 62
  refine ow_val (val_assign rfl) rfl ?_   -- 61
  refine ow_nil (into ?_)
  refine sw_true rfl rfl ?_
  refine sw_seq ?_
  refine sw_region ?_
  refine ow_val (val_move rfl) rfl ?_   -- 63
  refine ow_call_pure (v := vInt 5) (callsTo Try.func25 rfl (by kernel_rfl) rfl) rfl (fun w hm => iClose_nil w) ?_   -- 64
  refine ow_val (val_move rfl) rfl ?_   -- 65
  refine ow_call_pure (v := vInt 5) (callsTo Try.func33 rfl (by kernel_rfl) rfl) rfl (fun w hm => rClose_nil w) ?_   -- 66
  refine ow_val ((val_neq_int rfl rfl).to (v' := .bool false) (congrArg Value.bool (decide_eq_false (fun h => h rfl)))) rfl ?_   -- 67
  refine ow_nil (into ?_)
  refine sw_false rfl rfl ?_
  refine sw_skip (into ?_)
  refine sw_seq ?_
  refine sw_region ?_
  refine ow_val (val_move rfl) rfl ?_   -- 68
  refine ow_call_pure (v := vInt 0) (callsTo Try.func23 rfl (by kernel_rfl) rfl) rfl (fun w hm => iLen_nil w) ?_   -- 69
  refine ow_val (val_move rfl) rfl ?_   -- 70
  refine ow_call_pure (v := vInt 0) (callsTo Try.func34 rfl (by kernel_rfl) rfl) rfl (fun w hm => rLen_nil w) ?_   -- 71
  refine ow_val ((val_eql_int rfl rfl).to (v' := .bool true) (congrArg Value.bool (decide_eq_true rfl))) rfl ?_   -- 72
  refine ow_val (val_move rfl) rfl ?_   -- 73
  refine ow_guard_yes rfl rfl rfl ?_
  refine ow_val (val_move rfl) rfl ?_   -- 74
  refine ow_guard_yes rfl rfl rfl ?_
  refine ow_call_pure (v := vInt 0) (callsTo Try.func24 rfl (by kernel_rfl) rfl) rfl (fun w hm => iLine_nil w) ?_   -- 75
  refine ow_guard_yes rfl rfl rfl ?_
  refine ow_val (val_move rfl) rfl ?_   -- 76
  refine ow_guard_yes rfl rfl rfl ?_
  refine ow_call_pure (v := vInt 0) (callsTo Try.func35 rfl (by kernel_rfl) rfl) rfl (fun w hm => rLine_nil w) ?_   -- 77
  refine ow_guard_yes rfl rfl rfl ?_
  refine ow_val ((val_eql_int rfl rfl).to (v' := .bool true) (congrArg Value.bool (decide_eq_true rfl))) rfl ?_   -- 78
  refine ow_val (val_pick_true rfl rfl) rfl ?_   -- 79
  refine ow_val (val_move rfl) rfl ?_   -- 80
  refine ow_guard_yes rfl rfl rfl ?_
  refine ow_val (val_move rfl) rfl ?_   -- 81
  refine ow_guard_yes rfl rfl rfl ?_
  refine ow_call_pure (v := .bool false) (callsTo Try.func26 rfl (by kernel_rfl) rfl) rfl (fun w hm => iClosed_nil w) ?_   -- 82
  refine ow_guard_yes rfl rfl rfl ?_
  refine ow_val (val_move rfl) rfl ?_   -- 83
  refine ow_guard_yes rfl rfl rfl ?_
  refine ow_call_pure (v := .bool false) (callsTo Try.func36 rfl (by kernel_rfl) rfl) rfl (fun w hm => rClosed_nil w) ?_   -- 84
  refine ow_guard_yes rfl rfl rfl ?_
  refine ow_val (val_eql_bool Try.underlying4 rfl rfl) rfl ?_   -- 85
  refine ow_val (val_pick_true rfl rfl) rfl ?_   -- 86
  refine ow_val (val_assign rfl) rfl ?_   -- 6
  refine ow_nil (into ?_)
  refine sw_ret (fun w hm => ?_)
  try dsimp only [thenP, blockP, Nat.beq, cond]
  exact ret_one _ rfl rfl ⟨rfl, hm.forgetAll⟩

theorem one_n0 (w : World) (K z : Int) (hK : K ≠ 1 ∧ K ≠ 2 ∧ K ≠ 3) : Calls Try.prog 11 #[.pointer none, .pointer none, .agg #[vInt K, vInt z]] w fun e w' => ∃ v, e = .returned v ∧ v = .bool true ∧ Mem w [] [] w' := by
  refine calls_of_sw (vs := [.pointer none, .pointer none, .agg #[vInt K, vInt z]]) Try.func11 rfl Try.ntmps11 rfl (SW.begin ?_)
  refine sw_seq ?_
  refine sw_region ?_
  refine ow_new (acts_box rfl) rfl (fun b5 hb5 => ?_)   -- 5
  refine ow_val (val_assign rfl) rfl ?_   -- 6
  refine ow_nil (into ?_)
  refine sw_seq ?_
  refine sw_seq ?_
  refine sw_region ?_
  refine ow_val (val_fieldAddr (m := 0) (e := 0) rfl Try.underlying32 rfl rfl Try.sizeOf3 rfl) rfl ?_   -- 15
  refine ow_val (val_load_at 0 rfl rfl Try.isAgg3 rfl) rfl ?_   -- 16
  refine ow_nil (into ?_)
  refine sw_block ?_
  refine sw_seq ?_
  refine sw_region ?_
  refine ow_val ((val_eql_int rfl rfl).to (congrArg Value.bool (decide_eq_false (by omega)))) rfl ?_   -- 18
  refine ow_val (val_assign rfl) rfl ?_   -- 17
  refine ow_nil (into ?_)
  refine sw_false rfl rfl ?_
  refine sw_seq ?_
  refine sw_region ?_
  refine ow_val ((val_eql_int rfl rfl).to (congrArg Value.bool (decide_eq_false (by omega)))) rfl ?_   -- 42
  refine ow_val (val_assign rfl) rfl ?_   -- 41
  refine ow_nil (into ?_)
  refine sw_false rfl rfl ?_
  refine sw_seq ?_
  refine sw_region ?_
  refine ow_val ((val_eql_int rfl rfl).to (congrArg Value.bool (decide_eq_false (by omega)))) rfl ?_   -- 62
  refine ow_val (val_assign rfl) rfl ?_   -- 61
  refine ow_nil (into ?_)
  refine sw_false rfl rfl ?_
  refine sw_skip (into ?_)
  refine sw_seq ?_
  refine sw_region ?_
  refine ow_val (val_move rfl) rfl ?_   -- 68
  refine ow_call_pure (v := vInt 0) (callsTo Try.func23 rfl (by kernel_rfl) rfl) rfl (fun w hm => iLen_nil w) ?_   -- 69
  refine ow_val (val_move rfl) rfl ?_   -- 70
  refine ow_call_pure (v := vInt 0) (callsTo Try.func34 rfl (by kernel_rfl) rfl) rfl (fun w hm => rLen_nil w) ?_   -- 71
  refine ow_val ((val_eql_int rfl rfl).to (v' := .bool true) (congrArg Value.bool (decide_eq_true rfl))) rfl ?_   -- 72
  refine ow_val (val_move rfl) rfl ?_   -- 73
  refine ow_guard_yes rfl rfl rfl ?_
  refine ow_val (val_move rfl) rfl ?_   -- 74
  refine ow_guard_yes rfl rfl rfl ?_
  refine ow_call_pure (v := vInt 0) (callsTo Try.func24 rfl (by kernel_rfl) rfl) rfl (fun w hm => iLine_nil w) ?_   -- 75
  refine ow_guard_yes rfl rfl rfl ?_
  refine ow_val (val_move rfl) rfl ?_   -- 76
  refine ow_guard_yes rfl rfl rfl ?_
  refine ow_call_pure (v := vInt 0) (callsTo Try.func35 rfl (by kernel_rfl) rfl) rfl (fun w hm => rLine_nil w) ?_   -- 77
  refine ow_guard_yes rfl rfl rfl ?_
  refine ow_val ((val_eql_int rfl rfl).to (v' := .bool true) (congrArg Value.bool (decide_eq_true rfl))) rfl ?_   -- 78
  refine ow_val (val_pick_true rfl rfl) rfl ?_   -- 79
  refine ow_val (val_move rfl) rfl ?_   -- 80
  refine ow_guard_yes rfl rfl rfl ?_
  refine ow_val (val_move rfl) rfl ?_   -- 81
  refine ow_guard_yes rfl rfl rfl ?_
  refine ow_call_pure (v := .bool false) (callsTo Try.func26 rfl (by kernel_rfl) rfl) rfl (fun w hm => iClosed_nil w) ?_   -- 82
  refine ow_guard_yes rfl rfl rfl ?_
  refine ow_val (val_move rfl) rfl ?_   -- 83
  refine ow_guard_yes rfl rfl rfl ?_
  refine ow_call_pure (v := .bool false) (callsTo Try.func36 rfl (by kernel_rfl) rfl) rfl (fun w hm => rClosed_nil w) ?_   -- 84
  refine ow_guard_yes rfl rfl rfl ?_
  refine ow_val (val_eql_bool Try.underlying4 rfl rfl) rfl ?_   -- 85
  refine ow_val (val_pick_true rfl rfl) rfl ?_   -- 86
  refine ow_val (val_assign rfl) rfl ?_   -- 6
  refine ow_nil (into ?_)
  exact sw_ret (fun w hm => ret_one _ rfl rfl ⟨rfl, hm.forgetAll⟩)

theorem one_nil (w : World) (K z : Int) : Calls Try.prog 11 #[.pointer none, .pointer none, .agg #[vInt K, vInt z]] w fun e w' => ∃ v, e = .returned v ∧ v = .bool true ∧ Mem w [] [] w' := by
  by_cases h1 : K = 1
  · exact one_n1 w K z h1
  by_cases h2 : K = 2
  · exact one_n2 w K z h2
  by_cases h3 : K = 3
  · exact one_n3 w K z h3
  · exact one_n0 w K z ⟨h1, h2, h3⟩

theorem awake_any (w : World) : Calls Try.prog 8 #[] w fun e w' => ∃ v, e = .returned v ∧ v = .bool true ∧ Mem w [] [] w' := by
  have hpl : (1 : Int) ≤ 1 ∧ (1 : Int) ≤ 64 := by omega
  refine calls_of_sw (vs := []) Try.func8 rfl Try.ntmps8 rfl (SW.begin ?_)
  refine sw_seq ?_
  refine sw_region ?_
  refine ow_val (val_assign rfl) rfl ?_   -- 0
  refine ow_nil (into ?_)
  refine sw_seq ?_
  refine sw_region ?_
  refine ow_call_blk (fun q => .tuple #[.pointer (some ⟨q, 0, none⟩), vInt 0]) (callsTo Try.func9 rfl (by kernel_rfl) rfl) rfl (fun w hm => iNew_yes w 1 (by omega)) (fun q hq => ?_)   -- 10
  refine ow_place ?_
  refine ow_val (val_move rfl) rfl ?_   -- 9
  refine ow_val (val_extract rfl rfl) rfl ?_   -- 11
  refine ow_val (val_extract rfl rfl) rfl ?_   -- 12
  refine ow_val (val_assign rfl) rfl ?_   -- 1
  refine ow_val (val_assign rfl) rfl ?_   -- 2
  refine ow_nil (into ?_)
  refine sw_seq ?_
  refine sw_seq ?_
  refine sw_region ?_
  refine ow_val (val_move rfl) rfl ?_   -- 13
  refine ow_val ((val_neq_int rfl rfl).to (v' := .bool false) (congrArg Value.bool (decide_eq_false (fun h => h rfl)))) rfl ?_   -- 14
  refine ow_val (val_move rfl) rfl ?_   -- 15
  refine ow_guard_yes rfl rfl rfl ?_
  refine ow_val (val_move rfl) rfl ?_   -- 16
  refine ow_guard_yes rfl rfl rfl ?_
  refine ow_val (val_eql_nilptr Try.underlying24 rfl rfl) rfl ?_   -- 17
  refine ow_val (val_pick_false rfl rfl) rfl ?_   -- 18
  refine ow_nil (into ?_)
  refine sw_false rfl rfl ?_
  refine sw_skip (into ?_)
  refine sw_seq ?_
  refine sw_region ?_
  refine ow_val (val_move rfl) rfl ?_   -- 20
  refine ow_call_two' (σ := Option Addr × Nat × Ent) (fun _ => .tuple #[.bool true, vInt 0]) (fun s => blk [Value.int .i32 0, Value.int .u32 0, vInt 1, .slice s.1 (([] : List Value) ++ [vInt 7]).length s.2.1, Value.bool false] 70) (fun s => s.2.2) (fun s => RowO (.slice s.1 (([] : List Value) ++ [vInt 7]).length s.2.1) 3 (([] : List Value) ++ [vInt 7]) s.2.2) (fun s => [s.2.2, some (q, blk [Value.int .i32 0, Value.int .u32 0, vInt 1, .slice s.1 (([] : List Value) ++ [vInt 7]).length s.2.1, Value.bool false] 70)]) 1 0 rfl rfl (by decide) (fun _ => rfl) (callsTo Try.func19 rfl (by kernel_rfl) rfl) rfl (fun w hm hm2 => iPut_open w q none 0 ([] : List Value) none 1 hpl (RowO.nil _) (by simp) hm2 7 (by simp)) ?_   -- 21
  rintro ⟨a21, c21, e21⟩ hr21
  simp only at hr21 ⊢
  refine ow_val (val_move rfl) rfl ?_   -- 19
  refine ow_val (val_extract rfl rfl) rfl ?_   -- 22
  refine ow_val (val_extract rfl rfl) rfl ?_   -- 23
  refine ow_val (val_assign rfl) rfl ?_   -- 3
  refine ow_val (val_assign rfl) rfl ?_   -- 4
  refine ow_nil (into ?_)
  refine sw_seq ?_
  refine sw_region ?_
  refine ow_val (val_move rfl) rfl ?_   -- 25
  refine ow_call_two' (σ := Option Addr × Nat × Ent) (fun _ => .tuple #[.bool false, vInt 0]) (fun s => blk [Value.int .i32 0, Value.int .u32 0, vInt 1, .slice s.1 ((([] : List Value) ++ [vInt 7]) ++ [vInt 8]).length s.2.1, Value.bool false] 70) (fun s => s.2.2) (fun s => RowO (.slice s.1 ((([] : List Value) ++ [vInt 7]) ++ [vInt 8]).length s.2.1) 3 ((([] : List Value) ++ [vInt 7]) ++ [vInt 8]) s.2.2) (fun s => [s.2.2, some (q, blk [Value.int .i32 0, Value.int .u32 0, vInt 1, .slice s.1 ((([] : List Value) ++ [vInt 7]) ++ [vInt 8]).length s.2.1, Value.bool false] 70)]) 1 0 rfl rfl (by decide) (fun _ => rfl) (callsTo Try.func19 rfl (by kernel_rfl) rfl) rfl (fun w hm hm2 => iPut_open w q a21 c21 (([] : List Value) ++ [vInt 7]) e21 1 hpl hr21 (by simp) hm2 8 (by simp)) ?_   -- 26
  rintro ⟨a26, c26, e26⟩ hr26
  simp only at hr26 ⊢
  refine ow_val (val_move rfl) rfl ?_   -- 24
  refine ow_val (val_extract rfl rfl) rfl ?_   -- 27
  refine ow_val (val_extract rfl rfl) rfl ?_   -- 28
  refine ow_val (val_assign rfl) rfl ?_   -- 5
  refine ow_val (val_assign rfl) rfl ?_   -- 6
  refine ow_nil (into ?_)
  refine sw_seq ?_
  refine sw_seq ?_
  refine sw_region ?_
  refine ow_val (val_move rfl) rfl ?_   -- 29
  refine ow_val (val_not rfl) rfl ?_   -- 30
  refine ow_val (val_move rfl) rfl ?_   -- 31
  refine ow_guard_yes rfl rfl rfl ?_
  refine ow_val (val_move rfl) rfl ?_   -- 32
  refine ow_val (val_pick_false rfl rfl) rfl ?_   -- 33
  refine ow_val (val_move rfl) rfl ?_   -- 34
  refine ow_guard_yes rfl rfl rfl ?_
  refine ow_val (val_move rfl) rfl ?_   -- 35
  refine ow_guard_yes rfl rfl rfl ?_
  refine ow_val ((val_neq_int rfl rfl).to (v' := .bool false) (congrArg Value.bool (decide_eq_false (fun h => h rfl)))) rfl ?_   -- 36
  refine ow_val (val_pick_false rfl rfl) rfl ?_   -- 37
  refine ow_val (val_move rfl) rfl ?_   -- 38
  refine ow_guard_yes rfl rfl rfl ?_
  refine ow_val (val_move rfl) rfl ?_   -- 39
  refine ow_guard_yes rfl rfl rfl ?_
  refine ow_val ((val_neq_int rfl rfl).to (v' := .bool false) (congrArg Value.bool (decide_eq_false (fun h => h rfl)))) rfl ?_   -- 40
  refine ow_val (val_pick_false rfl rfl) rfl ?_   -- 41
  refine ow_val (val_move rfl) rfl ?_   -- 42
  refine ow_guard_yes rfl rfl rfl ?_
  refine ow_val (val_move rfl) rfl ?_   -- 43
  refine ow_guard_yes rfl rfl rfl ?_
  refine ow_call_keep (v := vInt 1) 1 0 rfl rfl (by decide) (callsTo Try.func23 rfl (by kernel_rfl) rfl) rfl (fun w hm hm2 => iLen_any w false q a26 c26 ((([] : List Value) ++ [vInt 7]) ++ [vInt 8]) e26 1 hpl hr26 (by simp) hm2) ?_   -- 44
  refine ow_guard_yes rfl rfl rfl ?_
  refine ow_val ((val_neq_int rfl rfl).to (v' := .bool false) (congrArg Value.bool (decide_eq_false (fun h => h rfl)))) rfl ?_   -- 45
  refine ow_val (val_pick_false rfl rfl) rfl ?_   -- 46
  refine ow_val (val_move rfl) rfl ?_   -- 47
  refine ow_guard_yes rfl rfl rfl ?_
  refine ow_val (val_move rfl) rfl ?_   -- 48
  refine ow_guard_yes rfl rfl rfl ?_
  refine ow_call_keep (v := vInt 1) 1 0 rfl rfl (by decide) (callsTo Try.func24 rfl (by kernel_rfl) rfl) rfl (fun w hm hm2 => iLine_any w false q a26 c26 ((([] : List Value) ++ [vInt 7]) ++ [vInt 8]) e26 1 hpl hr26 (by simp) hm2) ?_   -- 49
  refine ow_guard_yes rfl rfl rfl ?_
  refine ow_val ((val_neq_int rfl rfl).to (v' := .bool false) (congrArg Value.bool (decide_eq_false (fun h => h rfl)))) rfl ?_   -- 50
  refine ow_val (val_pick_false rfl rfl) rfl ?_   -- 51
  refine ow_nil (into ?_)
  refine sw_false rfl rfl ?_
  refine sw_skip (into ?_)
  refine sw_seq ?_
  refine sw_region ?_
  refine ow_val (val_move rfl) rfl ?_   -- 53
  refine ow_call_two' (σ := Option Addr × Nat × Ent) (fun _ => .tuple #[vInt 7, .bool true]) (fun s => blk [Value.int .i32 0, Value.int .u32 0, vInt 1, .slice s.1 [vInt 8].length s.2.1, Value.bool false] 70) (fun s => s.2.2) (fun s => RowO (.slice s.1 [vInt 8].length s.2.1) 3 [vInt 8] s.2.2) (fun s => [s.2.2, some (q, blk [Value.int .i32 0, Value.int .u32 0, vInt 1, .slice s.1 [vInt 8].length s.2.1, Value.bool false] 70)]) 1 0 rfl rfl (by decide) (fun _ => rfl) (callsTo Try.func21 rfl (by kernel_rfl) rfl) rfl (fun w hm hm2 => iTake_some w false q a26 c26 (vInt 7) [vInt 8] e26 1 hpl hr26 (by simp) hm2) ?_   -- 54
  rintro ⟨a54, c54, e54⟩ hr54
  simp only at hr54 ⊢
  refine ow_val (val_move rfl) rfl ?_   -- 52
  refine ow_val (val_extract rfl rfl) rfl ?_   -- 55
  refine ow_val (val_extract rfl rfl) rfl ?_   -- 56
  refine ow_val (val_assign rfl) rfl ?_   -- 7
  refine ow_val (val_assign rfl) rfl ?_   -- 8
  refine ow_nil (into ?_)
  refine sw_seq ?_
  refine sw_region ?_
  refine ow_val (val_move rfl) rfl ?_   -- 57
  refine ow_val ((val_eql_int rfl rfl).to (v' := .bool true) (congrArg Value.bool (decide_eq_true rfl))) rfl ?_   -- 58
  refine ow_val (val_move rfl) rfl ?_   -- 59
  refine ow_guard_yes rfl rfl rfl ?_
  refine ow_val (val_move rfl) rfl ?_   -- 60
  refine ow_val (val_pick_true rfl rfl) rfl ?_   -- 61
  refine ow_val (val_move rfl) rfl ?_   -- 62
  refine ow_guard_yes rfl rfl rfl ?_
  refine ow_val (val_move rfl) rfl ?_   -- 63
  refine ow_guard_yes rfl rfl rfl ?_
  refine ow_call_keep (v := vInt 1) 1 0 rfl rfl (by decide) (callsTo Try.func23 rfl (by kernel_rfl) rfl) rfl (fun w hm hm2 => iLen_any w false q a54 c54 ([vInt 8] : List Value) e54 1 hpl hr54 (by simp) hm2) ?_   -- 64
  refine ow_guard_yes rfl rfl rfl ?_
  refine ow_val ((val_eql_int rfl rfl).to (v' := .bool true) (congrArg Value.bool (decide_eq_true rfl))) rfl ?_   -- 65
  refine ow_val (val_pick_true rfl rfl) rfl ?_   -- 66
  refine ow_val (val_move rfl) rfl ?_   -- 67
  refine ow_guard_yes rfl rfl rfl ?_
  refine ow_val (val_move rfl) rfl ?_   -- 68
  refine ow_guard_yes rfl rfl rfl ?_
  refine ow_call_keep (v := vInt 0) 1 0 rfl rfl (by decide) (callsTo Try.func24 rfl (by kernel_rfl) rfl) rfl (fun w hm hm2 => iLine_any w false q a54 c54 ([vInt 8] : List Value) e54 1 hpl hr54 (by simp) hm2) ?_   -- 69
  refine ow_guard_yes rfl rfl rfl ?_
  refine ow_val ((val_eql_int rfl rfl).to (v' := .bool true) (congrArg Value.bool (decide_eq_true rfl))) rfl ?_   -- 70
  refine ow_val (val_pick_true rfl rfl) rfl ?_   -- 71
  refine ow_val (val_move rfl) rfl ?_   -- 72
  refine ow_guard_yes rfl rfl rfl ?_
  refine ow_val (val_move rfl) rfl ?_   -- 73
  refine ow_guard_yes rfl rfl rfl ?_
  refine ow_call_two' (σ := Unit) (fun _ => vInt 0) (fun _ => blk [Value.int .i32 0, Value.int .u32 0, vInt 1, .slice a54 ([vInt 8] : List Value).length c54, Value.bool true] 70) (fun _ => e54) (fun _ => True) (fun _ => [e54, some (q, blk [Value.int .i32 0, Value.int .u32 0, vInt 1, .slice a54 ([vInt 8] : List Value).length c54, Value.bool true] 70)]) 1 0 rfl rfl (by decide) (fun _ => rfl) (callsTo Try.func25 rfl (by kernel_rfl) rfl) rfl (fun w hm hm2 => (iClose_no w q a54 c54 ([vInt 8] : List Value) e54 1 hpl hr54 (by simp) hm2).mono fun _ _ ⟨u, he, hu, hm3⟩ => ⟨u, he, (), hu, trivial, hm3⟩) ?_   -- 74
  rintro ⟨⟩ -
  refine ow_guard_yes rfl rfl rfl ?_
  refine ow_val ((val_eql_int rfl rfl).to (v' := .bool true) (congrArg Value.bool (decide_eq_true rfl))) rfl ?_   -- 75
  refine ow_val (val_pick_true rfl rfl) rfl ?_   -- 76
  refine ow_val (val_move rfl) rfl ?_   -- 77
  refine ow_guard_yes rfl rfl rfl ?_
  refine ow_val (val_move rfl) rfl ?_   -- 78
  refine ow_guard_yes rfl rfl rfl ?_
  refine ow_call_keep (v := .bool true) 1 0 rfl rfl (by decide) (callsTo Try.func26 rfl (by kernel_rfl) rfl) rfl (fun w hm hm2 => iClosed_any w true q a54 c54 ([vInt 8] : List Value) e54 1 hpl hr54 (by simp) hm2) ?_   -- 79
  refine ow_val (val_pick_true rfl rfl) rfl ?_   -- 80
  refine ow_val (val_assign rfl) rfl ?_   -- 0
  refine ow_nil (into ?_)
  exact sw_ret (fun w hm => ret_one _ rfl rfl ⟨rfl, hm.forgetAll⟩)
end Go.Proofs.Ytigogbodobifdaa
