import Derived.Test.YtigogbodobifdaaQ2
import Derived.Test.YtigogbodobifdaaProg
set_option linter.unusedVariables false
set_option linter.unusedSimpArgs false
namespace Go.Proofs.Ytigogbodobifdaa
open Go.Sx
def qInv (xs : List Value) (r1 r2 : Option Addr × Nat × Ent) : Prop := RowO (.slice r1.1 xs.length r1.2.1) 3 xs r1.2.2 ∧ RowO (.slice r2.1 xs.length r2.2.1) 3 xs r2.2.2 ∧ ∀ v ∈ xs, ∃ z, v = vInt z
def qMem (q p : Nat) (pl : Int) (cl : Bool) (xs : List Value) (r1 r2 : Option Addr × Nat × Ent) : List Ent := [some (q, blk [Value.int .i32 0, Value.int .u32 0, vInt pl, .slice r1.1 xs.length r1.2.1, Value.bool cl] 70), r1.2.2, some (p, blk [vInt pl, .slice r2.1 xs.length r2.2.1, Value.bool cl] 72), r2.2.2]
theorem all_snoc {xs : List Value} {z : Int} (h : ∀ v ∈ xs, ∃ z, v = vInt z) : ∀ v ∈ xs ++ [vInt z], ∃ z, v = vInt z := fun v hv => (List.mem_append.1 hv).elim (h v) (fun h => ⟨z, List.mem_singleton.1 h⟩)

theorem one_put (w : World)  (xs : List Value) (q p : Nat) (pl : Int) (hpl : 1 ≤ pl ∧ pl ≤ 64) (a : Option Addr) (c : Nat) (e : Ent) (a2 : Option Addr) (c2 : Nat) (e2 : Ent) (hr : RowO (.slice a xs.length c) 3 xs e) (hr2 : RowO (.slice a2 xs.length c2) 3 xs e2) (hX : ∀ v ∈ xs, ∃ z, v = vInt z) (hbig : (xs.length + 1) * 8 ≤ 140737488355328) (hm0 : Mem w (keys [some (q, blk [Value.int .i32 0, Value.int .u32 0, vInt pl, .slice a xs.length c, Value.bool false] 70), e, some (p, blk [vInt pl, .slice a2 xs.length c2, Value.bool false] 72), e2]) [some (q, blk [Value.int .i32 0, Value.int .u32 0, vInt pl, .slice a xs.length c, Value.bool false] 70), e, some (p, blk [vInt pl, .slice a2 xs.length c2, Value.bool false] 72), e2] w) (K z : Int) (hK : K = 1) : Calls Try.prog 11 #[.pointer (some ⟨q, 0, none⟩), .pointer (some ⟨p, 0, none⟩), .agg #[vInt K, vInt z]] w fun en w' => ∃ u, en = .returned u ∧ ∃ s : Bool × List Value × (Option Addr × Nat × Ent) × (Option Addr × Nat × Ent), u = .bool true ∧ (qInv s.2.1 s.2.2.1 s.2.2.2 ∧ s.2.1.length ≤ xs.length + 1) ∧ Mem w (keys [some (q, blk [Value.int .i32 0, Value.int .u32 0, vInt pl, .slice a xs.length c, Value.bool false] 70), e, some (p, blk [vInt pl, .slice a2 xs.length c2, Value.bool false] 72), e2]) (qMem q p pl s.1 s.2.1 s.2.2.1 s.2.2.2) w' := by
  have hXl : (xs ++ [vInt z]).length = xs.length + 1 := by simp
  refine calls_of_sw (vs := [.pointer (some ⟨q, 0, none⟩), .pointer (some ⟨p, 0, none⟩), .agg #[vInt K, vInt z]]) Try.func11 rfl Try.ntmps11 rfl (SW.beginM hm0 ?_)
  refine sw_seq ?_
  refine sw_region ?_
  refine ow_new (acts_box rfl) rfl (fun b5 hb5 => ?_)   -- 5
  refine ow_val (val_assign rfl) rfl ?_   -- 6
  refine ow_nil (into ?_)
  refine sw_seq ?_
  refine sw_seq ?_
  refine sw_region ?_
  refine ow_val (val_fieldAddr (m := 0) (e := 0) rfl Try.underlying32 rfl rfl Try.sizeOf3 rfl) rfl ?_   -- 15
  refine ow_val (val_load_at 0 rfl rfl Try.isAgg3 rfl) rfl ?_   -- 16
  refine ow_nil (into ?_)
  refine sw_block ?_
  refine sw_seq ?_
  refine sw_region ?_
  refine ow_val ((val_eql_int rfl rfl).to (congrArg Value.bool (decide_eq_true (hK)))) rfl ?_   -- 18
  refine ow_val (val_assign rfl) rfl ?_   -- 17
  refine ow_nil (into ?_)
  refine sw_true rfl rfl ?_
  refine sw_seq ?_
  refine sw_region ?_
  refine ow_val (val_move rfl) rfl ?_   -- 20
  refine ow_val (val_fieldAddr (m := 0) (e := 1) rfl Try.underlying32 rfl rfl Try.sizeOf3 rfl) rfl ?_   -- 21
  refine ow_val (val_load_at 0 rfl rfl Try.isAgg3 rfl) rfl ?_   -- 22
  refine ow_call_two' (σ := Option Addr × Nat × Ent) (fun _ => .tuple #[.bool (decide ((xs.length : Int) < pl)), vInt 0]) (fun s => blk [Value.int .i32 0, Value.int .u32 0, vInt pl, .slice s.1 (xs ++ [vInt z]).length s.2.1, Value.bool false] 70) (fun s => s.2.2) (fun s => RowO (.slice s.1 (xs ++ [vInt z]).length s.2.1) 3 (xs ++ [vInt z]) s.2.2) (fun s => [some (b5, blk [vInt K, vInt z] 32), some (q, blk [Value.int .i32 0, Value.int .u32 0, vInt pl, .slice s.1 (xs ++ [vInt z]).length s.2.1, Value.bool false] 70), s.2.2, some (p, blk [vInt pl, .slice a2 xs.length c2, Value.bool false] 72), e2]) 1 2 rfl rfl (by decide) (fun _ => rfl) (callsTo Try.func19 rfl (by kernel_rfl) rfl) rfl (fun w hm hm2 => iPut_open w q a c xs e pl hpl hr (by omega) hm2 z (by omega)) ?_   -- 23
  rintro ⟨a23, c23, e23⟩ hr23
  simp only at hr23 ⊢
  refine ow_val (val_move rfl) rfl ?_   -- 19
  refine ow_val (val_extract rfl rfl) rfl ?_   -- 24
  refine ow_val (val_extract rfl rfl) rfl ?_   -- 25
  refine ow_val (val_assign rfl) rfl ?_   -- 7
  refine ow_val (val_assign rfl) rfl ?_   -- 8
  refine ow_nil (into ?_)
  refine sw_seq ?_
  refine sw_region ?_
  refine ow_val (val_move rfl) rfl ?_   -- 27
  refine ow_val (val_fieldAddr (m := 0) (e := 1) rfl Try.underlying32 rfl rfl Try.sizeOf3 rfl) rfl ?_   -- 28
  refine ow_val (val_load_at 0 rfl rfl Try.isAgg3 rfl) rfl ?_   -- 29
  refine ow_call_two' (σ := Option Addr × Nat × Ent) (fun _ => .tuple #[.bool (decide ((xs.length : Int) < pl)), vInt 0]) (fun s => blk [vInt pl, .slice s.1 (xs ++ [vInt z]).length s.2.1, Value.bool false] 72) (fun s => s.2.2) (fun s => RowO (.slice s.1 (xs ++ [vInt z]).length s.2.1) 3 (xs ++ [vInt z]) s.2.2) (fun s => [some (b5, blk [vInt K, vInt z] 32), some (q, blk [Value.int .i32 0, Value.int .u32 0, vInt pl, .slice a23 (xs ++ [vInt z]).length c23, Value.bool false] 70), e23, some (p, blk [vInt pl, .slice s.1 (xs ++ [vInt z]).length s.2.1, Value.bool false] 72), s.2.2]) 3 4 rfl rfl (by decide) (fun _ => rfl) (callsTo Try.func31 rfl (by kernel_rfl) rfl) rfl (fun w hm hm2 => rPut_open w p a2 c2 xs e2 pl hpl hr2 (by omega) hm2 z (by omega)) ?_   -- 30
  rintro ⟨a30, c30, e30⟩ hr30
  simp only at hr30 ⊢
  refine ow_val (val_move rfl) rfl ?_   -- 26
  refine ow_val (val_extract rfl rfl) rfl ?_   -- 31
  refine ow_val (val_extract rfl rfl) rfl ?_   -- 32
  refine ow_val (val_assign rfl) rfl ?_   -- 9
  refine ow_val (val_assign rfl) rfl ?_   -- 10
  refine ow_nil (into ?_)
  refine sw_seq ?_
  refine sw_region ?_
  refine ow_val (val_move rfl) rfl ?_   -- 33
  refine ow_val (val_move rfl) rfl ?_   -- 34
  refine ow_val ((val_neq_bool Try.underlying4 rfl rfl).to (v' := .bool false) (by simp)) rfl ?_   -- 35
  refine ow_val (val_move rfl) rfl ?_   -- 36
  refine ow_guard_yes rfl rfl rfl ?_
  refine ow_val (val_move rfl) rfl ?_   -- 37
  refine ow_guard_yes rfl rfl rfl ?_
  refine ow_val (val_move rfl) rfl ?_   -- 38
  refine ow_guard_yes rfl rfl rfl ?_
  refine ow_val ((val_neq_int rfl rfl).to (v' := .bool false) (congrArg Value.bool (decide_eq_false (fun h => h rfl)))) rfl ?_   -- 39
  refine ow_val (val_pick_false rfl rfl) rfl ?_   -- 40
  refine ow_nil (into ?_)
  refine sw_false rfl rfl ?_
  refine sw_skip (into ?_)
  refine sw_seq ?_
  refine sw_region ?_
  refine ow_val (val_move rfl) rfl ?_   -- 68
  refine ow_call_keep (v := vInt (min ((xs ++ [vInt z]).length : Int) pl)) 1 2 rfl rfl (by decide) (callsTo Try.func23 rfl (by kernel_rfl) rfl) rfl (fun w hm hm2 => iLen_any w false q a23 c23 (xs ++ [vInt z]) e23 pl hpl hr23 (by omega) hm2) ?_   -- 69
  refine ow_val (val_move rfl) rfl ?_   -- 70
  refine ow_call_keep (v := vInt (min ((xs ++ [vInt z]).length : Int) pl)) 3 4 rfl rfl (by decide) (callsTo Try.func34 rfl (by kernel_rfl) rfl) rfl (fun w hm hm2 => rLen_any w false p a30 c30 (xs ++ [vInt z]) e30 pl hpl hr30 (by omega) hm2) ?_   -- 71
  refine ow_val ((val_eql_int rfl rfl).to (congrArg Value.bool (decide_eq_true (rfl)))) rfl ?_   -- 72
  refine ow_val (val_move rfl) rfl ?_   -- 73
  refine ow_guard_yes rfl rfl rfl ?_
  refine ow_val (val_move rfl) rfl ?_   -- 74
  refine ow_guard_yes rfl rfl rfl ?_
  refine ow_call_keep (v := vInt (max 0 (((xs ++ [vInt z]).length : Int) - pl))) 1 2 rfl rfl (by decide) (callsTo Try.func24 rfl (by kernel_rfl) rfl) rfl (fun w hm hm2 => iLine_any w false q a23 c23 (xs ++ [vInt z]) e23 pl hpl hr23 (by omega) hm2) ?_   -- 75
  refine ow_guard_yes rfl rfl rfl ?_
  refine ow_val (val_move rfl) rfl ?_   -- 76
  refine ow_guard_yes rfl rfl rfl ?_
  refine ow_call_keep (v := vInt (max 0 (((xs ++ [vInt z]).length : Int) - pl))) 3 4 rfl rfl (by decide) (callsTo Try.func35 rfl (by kernel_rfl) rfl) rfl (fun w hm hm2 => rLine_any w false p a30 c30 (xs ++ [vInt z]) e30 pl hpl hr30 (by omega) hm2) ?_   -- 77
  refine ow_guard_yes rfl rfl rfl ?_
  refine ow_val ((val_eql_int rfl rfl).to (congrArg Value.bool (decide_eq_true (rfl)))) rfl ?_   -- 78
  refine ow_val (val_pick_true rfl rfl) rfl ?_   -- 79
  refine ow_val (val_move rfl) rfl ?_   -- 80
  refine ow_guard_yes rfl rfl rfl ?_
  refine ow_val (val_move rfl) rfl ?_   -- 81
  refine ow_guard_yes rfl rfl rfl ?_
  refine ow_call_keep (v := .bool false) 1 2 rfl rfl (by decide) (callsTo Try.func26 rfl (by kernel_rfl) rfl) rfl (fun w hm hm2 => iClosed_any w false q a23 c23 (xs ++ [vInt z]) e23 pl hpl hr23 (by omega) hm2) ?_   -- 82
  refine ow_guard_yes rfl rfl rfl ?_
  refine ow_val (val_move rfl) rfl ?_   -- 83
  refine ow_guard_yes rfl rfl rfl ?_
  refine ow_call_keep (v := .bool false) 3 4 rfl rfl (by decide) (callsTo Try.func36 rfl (by kernel_rfl) rfl) rfl (fun w hm hm2 => rClosed_any w false p a30 c30 (xs ++ [vInt z]) e30 pl hpl hr30 (by omega) hm2) ?_   -- 84
  refine ow_guard_yes rfl rfl rfl ?_
  refine ow_val ((val_eql_bool Try.underlying4 rfl rfl).to (v' := .bool true) (by simp)) rfl ?_   -- 85
  refine ow_val (val_pick_true rfl rfl) rfl ?_   -- 86
  refine ow_val (val_assign rfl) rfl ?_   -- 6
  refine ow_nil (into ?_)
  refine sw_ret (fun w hm => ?_)
  try dsimp only [thenP, blockP, Nat.beq, cond]
  exact ret_one _ rfl rfl ⟨(false, (xs ++ [vInt z]), (a23, c23, e23), (a30, c30, e30)), rfl, ⟨⟨hr23, hr30, all_snoc hX⟩, (by simp only [List.length_append, List.length_cons, List.length_nil]; omega)⟩, hm.only (.cons _ (List.Sublist.refl _))⟩

theorem one_shut (w : World)  (xs : List Value) (q p : Nat) (pl : Int) (hpl : 1 ≤ pl ∧ pl ≤ 64) (a : Option Addr) (c : Nat) (e : Ent) (a2 : Option Addr) (c2 : Nat) (e2 : Ent) (hr : RowO (.slice a xs.length c) 3 xs e) (hr2 : RowO (.slice a2 xs.length c2) 3 xs e2) (hX : ∀ v ∈ xs, ∃ z, v = vInt z) (hbig : (xs.length + 1) * 8 ≤ 140737488355328) (hm0 : Mem w (keys [some (q, blk [Value.int .i32 0, Value.int .u32 0, vInt pl, .slice a xs.length c, Value.bool true] 70), e, some (p, blk [vInt pl, .slice a2 xs.length c2, Value.bool true] 72), e2]) [some (q, blk [Value.int .i32 0, Value.int .u32 0, vInt pl, .slice a xs.length c, Value.bool true] 70), e, some (p, blk [vInt pl, .slice a2 xs.length c2, Value.bool true] 72), e2] w) (K z : Int) (hK : K = 1) : Calls Try.prog 11 #[.pointer (some ⟨q, 0, none⟩), .pointer (some ⟨p, 0, none⟩), .agg #[vInt K, vInt z]] w fun en w' => ∃ u, en = .returned u ∧ ∃ s : Bool × List Value × (Option Addr × Nat × Ent) × (Option Addr × Nat × Ent), u = .bool true ∧ (qInv s.2.1 s.2.2.1 s.2.2.2 ∧ s.2.1.length ≤ xs.length + 1) ∧ Mem w (keys [some (q, blk [Value.int .i32 0, Value.int .u32 0, vInt pl, .slice a xs.length c, Value.bool true] 70), e, some (p, blk [vInt pl, .slice a2 xs.length c2, Value.bool true] 72), e2]) (qMem q p pl s.1 s.2.1 s.2.2.1 s.2.2.2) w' := by
  refine calls_of_sw (vs := [.pointer (some ⟨q, 0, none⟩), .pointer (some ⟨p, 0, none⟩), .agg #[vInt K, vInt z]]) Try.func11 rfl Try.ntmps11 rfl (SW.beginM hm0 ?_)
  refine sw_seq ?_
  refine sw_region ?_
  refine ow_new (acts_box rfl) rfl (fun b5 hb5 => ?_)   -- 5
  refine ow_val (val_assign rfl) rfl ?_   -- 6
  refine ow_nil (into ?_)
  refine sw_seq ?_
  refine sw_seq ?_
  refine sw_region ?_
  refine ow_val (val_fieldAddr (m := 0) (e := 0) rfl Try.underlying32 rfl rfl Try.sizeOf3 rfl) rfl ?_   -- 15
  refine ow_val (val_load_at 0 rfl rfl Try.isAgg3 rfl) rfl ?_   -- 16
  refine ow_nil (into ?_)
  refine sw_block ?_
  refine sw_seq ?_
  refine sw_region ?_
  refine ow_val ((val_eql_int rfl rfl).to (congrArg Value.bool (decide_eq_true (hK)))) rfl ?_   -- 18
  refine ow_val (val_assign rfl) rfl ?_   -- 17
  refine ow_nil (into ?_)
  refine sw_true rfl rfl ?_
  refine sw_seq ?_
  refine sw_region ?_
  refine ow_val (val_move rfl) rfl ?_   -- 20
  refine ow_val (val_fieldAddr (m := 0) (e := 1) rfl Try.underlying32 rfl rfl Try.sizeOf3 rfl) rfl ?_   -- 21
  refine ow_val (val_load_at 0 rfl rfl Try.isAgg3 rfl) rfl ?_   -- 22
  refine ow_call_two' (σ := Option Addr × Nat × Ent) (fun _ => .tuple #[.bool false, vInt 9]) (fun s => blk [Value.int .i32 0, Value.int .u32 0, vInt pl, .slice s.1 xs.length s.2.1, Value.bool true] 70) (fun s => s.2.2) (fun s => RowO (.slice s.1 xs.length s.2.1) 3 xs s.2.2) (fun s => [some (b5, blk [vInt K, vInt z] 32), some (q, blk [Value.int .i32 0, Value.int .u32 0, vInt pl, .slice s.1 xs.length s.2.1, Value.bool true] 70), s.2.2, some (p, blk [vInt pl, .slice a2 xs.length c2, Value.bool true] 72), e2]) 1 2 rfl rfl (by decide) (fun _ => rfl) (callsTo Try.func19 rfl (by kernel_rfl) rfl) rfl (fun w hm hm2 => iPut_shut w q a c xs e pl hpl hr (by omega) hm2 z) ?_   -- 23
  rintro ⟨a23, c23, e23⟩ hr23
  simp only at hr23 ⊢
  refine ow_val (val_move rfl) rfl ?_   -- 19
  refine ow_val (val_extract rfl rfl) rfl ?_   -- 24
  refine ow_val (val_extract rfl rfl) rfl ?_   -- 25
  refine ow_val (val_assign rfl) rfl ?_   -- 7
  refine ow_val (val_assign rfl) rfl ?_   -- 8
  refine ow_nil (into ?_)
  refine sw_seq ?_
  refine sw_region ?_
  refine ow_val (val_move rfl) rfl ?_   -- 27
  refine ow_val (val_fieldAddr (m := 0) (e := 1) rfl Try.underlying32 rfl rfl Try.sizeOf3 rfl) rfl ?_   -- 28
  refine ow_val (val_load_at 0 rfl rfl Try.isAgg3 rfl) rfl ?_   -- 29
  refine ow_call_two' (σ := Option Addr × Nat × Ent) (fun _ => .tuple #[.bool false, vInt 9]) (fun s => blk [vInt pl, .slice s.1 xs.length s.2.1, Value.bool true] 72) (fun s => s.2.2) (fun s => RowO (.slice s.1 xs.length s.2.1) 3 xs s.2.2) (fun s => [some (b5, blk [vInt K, vInt z] 32), some (q, blk [Value.int .i32 0, Value.int .u32 0, vInt pl, .slice a23 xs.length c23, Value.bool true] 70), e23, some (p, blk [vInt pl, .slice s.1 xs.length s.2.1, Value.bool true] 72), s.2.2]) 3 4 rfl rfl (by decide) (fun _ => rfl) (callsTo Try.func31 rfl (by kernel_rfl) rfl) rfl (fun w hm hm2 => rPut_shut w p a2 c2 xs e2 pl hpl hr2 (by omega) hm2 z) ?_   -- 30
  rintro ⟨a30, c30, e30⟩ hr30
  simp only at hr30 ⊢
  refine ow_val (val_move rfl) rfl ?_   -- 26
  refine ow_val (val_extract rfl rfl) rfl ?_   -- 31
  refine ow_val (val_extract rfl rfl) rfl ?_   -- 32
  refine ow_val (val_assign rfl) rfl ?_   -- 9
  refine ow_val (val_assign rfl) rfl ?_   -- 10
  refine ow_nil (into ?_)
  refine sw_seq ?_
  refine sw_region ?_
  refine ow_val (val_move rfl) rfl ?_   -- 33
  refine ow_val (val_move rfl) rfl ?_   -- 34
  refine ow_val ((val_neq_bool Try.underlying4 rfl rfl).to (v' := .bool false) (by simp)) rfl ?_   -- 35
  refine ow_val (val_move rfl) rfl ?_   -- 36
  refine ow_guard_yes rfl rfl rfl ?_
  refine ow_val (val_move rfl) rfl ?_   -- 37
  refine ow_guard_yes rfl rfl rfl ?_
  refine ow_val (val_move rfl) rfl ?_   -- 38
  refine ow_guard_yes rfl rfl rfl ?_
  refine ow_val ((val_neq_int rfl rfl).to (v' := .bool false) (congrArg Value.bool (decide_eq_false (fun h => h rfl)))) rfl ?_   -- 39
  refine ow_val (val_pick_false rfl rfl) rfl ?_   -- 40
  refine ow_nil (into ?_)
  refine sw_false rfl rfl ?_
  refine sw_skip (into ?_)
  refine sw_seq ?_
  refine sw_region ?_
  refine ow_val (val_move rfl) rfl ?_   -- 68
  refine ow_call_keep (v := vInt (min (xs.length : Int) pl)) 1 2 rfl rfl (by decide) (callsTo Try.func23 rfl (by kernel_rfl) rfl) rfl (fun w hm hm2 => iLen_any w true q a23 c23 xs e23 pl hpl hr23 (by omega) hm2) ?_   -- 69
  refine ow_val (val_move rfl) rfl ?_   -- 70
  refine ow_call_keep (v := vInt (min (xs.length : Int) pl)) 3 4 rfl rfl (by decide) (callsTo Try.func34 rfl (by kernel_rfl) rfl) rfl (fun w hm hm2 => rLen_any w true p a30 c30 xs e30 pl hpl hr30 (by omega) hm2) ?_   -- 71
  refine ow_val ((val_eql_int rfl rfl).to (congrArg Value.bool (decide_eq_true (rfl)))) rfl ?_   -- 72
  refine ow_val (val_move rfl) rfl ?_   -- 73
  refine ow_guard_yes rfl rfl rfl ?_
  refine ow_val (val_move rfl) rfl ?_   -- 74
  refine ow_guard_yes rfl rfl rfl ?_
  refine ow_call_keep (v := vInt (max 0 ((xs.length : Int) - pl))) 1 2 rfl rfl (by decide) (callsTo Try.func24 rfl (by kernel_rfl) rfl) rfl (fun w hm hm2 => iLine_any w true q a23 c23 xs e23 pl hpl hr23 (by omega) hm2) ?_   -- 75
  refine ow_guard_yes rfl rfl rfl ?_
  refine ow_val (val_move rfl) rfl ?_   -- 76
  refine ow_guard_yes rfl rfl rfl ?_
  refine ow_call_keep (v := vInt (max 0 ((xs.length : Int) - pl))) 3 4 rfl rfl (by decide) (callsTo Try.func35 rfl (by kernel_rfl) rfl) rfl (fun w hm hm2 => rLine_any w true p a30 c30 xs e30 pl hpl hr30 (by omega) hm2) ?_   -- 77
  refine ow_guard_yes rfl rfl rfl ?_
  refine ow_val ((val_eql_int rfl rfl).to (congrArg Value.bool (decide_eq_true (rfl)))) rfl ?_   -- 78
  refine ow_val (val_pick_true rfl rfl) rfl ?_   -- 79
  refine ow_val (val_move rfl) rfl ?_   -- 80
  refine ow_guard_yes rfl rfl rfl ?_
  refine ow_val (val_move rfl) rfl ?_   -- 81
  refine ow_guard_yes rfl rfl rfl ?_
  refine ow_call_keep (v := .bool true) 1 2 rfl rfl (by decide) (callsTo Try.func26 rfl (by kernel_rfl) rfl) rfl (fun w hm hm2 => iClosed_any w true q a23 c23 xs e23 pl hpl hr23 (by omega) hm2) ?_   -- 82
  refine ow_guard_yes rfl rfl rfl ?_
  refine ow_val (val_move rfl) rfl ?_   -- 83
  refine ow_guard_yes rfl rfl rfl ?_
  refine ow_call_keep (v := .bool true) 3 4 rfl rfl (by decide) (callsTo Try.func36 rfl (by kernel_rfl) rfl) rfl (fun w hm hm2 => rClosed_any w true p a30 c30 xs e30 pl hpl hr30 (by omega) hm2) ?_   -- 84
  refine ow_guard_yes rfl rfl rfl ?_
  refine ow_val ((val_eql_bool Try.underlying4 rfl rfl).to (v' := .bool true) (by simp)) rfl ?_   -- 85
  refine ow_val (val_pick_true rfl rfl) rfl ?_   -- 86
  refine ow_val (val_assign rfl) rfl ?_   -- 6
  refine ow_nil (into ?_)
  refine sw_ret (fun w hm => ?_)
  try dsimp only [thenP, blockP, Nat.beq, cond]
  exact ret_one _ rfl rfl ⟨(true, xs, (a23, c23, e23), (a30, c30, e30)), rfl, ⟨⟨hr23, hr30, hX⟩, (Nat.le_succ _)⟩, hm.only (.cons _ (List.Sublist.refl _))⟩

theorem one_none (w : World) (cl : Bool) (xs : List Value) (q p : Nat) (pl : Int) (hpl : 1 ≤ pl ∧ pl ≤ 64) (a : Option Addr) (c : Nat) (e : Ent) (a2 : Option Addr) (c2 : Nat) (e2 : Ent) (hr : RowO (.slice a xs.length c) 3 xs e) (hr2 : RowO (.slice a2 xs.length c2) 3 xs e2) (hX : ∀ v ∈ xs, ∃ z, v = vInt z) (hbig : (xs.length + 1) * 8 ≤ 140737488355328) (hm0 : Mem w (keys [some (q, blk [Value.int .i32 0, Value.int .u32 0, vInt pl, .slice a xs.length c, Value.bool cl] 70), e, some (p, blk [vInt pl, .slice a2 xs.length c2, Value.bool cl] 72), e2]) [some (q, blk [Value.int .i32 0, Value.int .u32 0, vInt pl, .slice a xs.length c, Value.bool cl] 70), e, some (p, blk [vInt pl, .slice a2 xs.length c2, Value.bool cl] 72), e2] w) (K z : Int) (hK : K = 2) (hx : xs = []) : Calls Try.prog 11 #[.pointer (some ⟨q, 0, none⟩), .pointer (some ⟨p, 0, none⟩), .agg #[vInt K, vInt z]] w fun en w' => ∃ u, en = .returned u ∧ ∃ s : Bool × List Value × (Option Addr × Nat × Ent) × (Option Addr × Nat × Ent), u = .bool true ∧ (qInv s.2.1 s.2.2.1 s.2.2.2 ∧ s.2.1.length ≤ xs.length + 1) ∧ Mem w (keys [some (q, blk [Value.int .i32 0, Value.int .u32 0, vInt pl, .slice a xs.length c, Value.bool cl] 70), e, some (p, blk [vInt pl, .slice a2 xs.length c2, Value.bool cl] 72), e2]) (qMem q p pl s.1 s.2.1 s.2.2.1 s.2.2.2) w' := by
  refine calls_of_sw (vs := [.pointer (some ⟨q, 0, none⟩), .pointer (some ⟨p, 0, none⟩), .agg #[vInt K, vInt z]]) Try.func11 rfl Try.ntmps11 rfl (SW.beginM hm0 ?_)
  refine sw_seq ?_
  refine sw_region ?_
  refine ow_new (acts_box rfl) rfl (fun b5 hb5 => ?_)   -- 5
  refine ow_val (val_assign rfl) rfl ?_   -- 6
  refine ow_nil (into ?_)
  refine sw_seq ?_
  refine sw_seq ?_
  refine sw_region ?_
  refine ow_val (val_fieldAddr (m := 0) (e := 0) rfl Try.underlying32 rfl rfl Try.sizeOf3 rfl) rfl ?_   -- 15
  refine ow_val (val_load_at 0 rfl rfl Try.isAgg3 rfl) rfl ?_   -- 16
  refine ow_nil (into ?_)
  refine sw_block ?_
  refine sw_seq ?_
  refine sw_region ?_
  refine ow_val ((val_eql_int rfl rfl).to (congrArg Value.bool (decide_eq_false (by omega)))) rfl ?_   -- 18
  refine ow_val (val_assign rfl) rfl ?_   -- 17
  refine ow_nil (into ?_)
  refine sw_false rfl rfl ?_
  refine sw_seq ?_
  refine sw_region ?_
  refine ow_val ((val_eql_int rfl rfl).to (congrArg Value.bool (decide_eq_true (hK)))) rfl ?_   -- 42
  refine ow_val (val_assign rfl) rfl ?_   -- 41
  refine ow_nil (into ?_)
  refine sw_true rfl rfl ?_
  refine sw_seq ?_
  refine sw_region ?_
  refine ow_val (val_move rfl) rfl ?_   -- 44
  refine ow_call_keep (v := .tuple #[vInt 0, .bool false]) 1 2 rfl rfl (by decide) (callsTo Try.func21 rfl (by kernel_rfl) rfl) rfl (fun w hm hm2 => iTake_none w cl q a c xs e pl hpl hr (by omega) hm2 hx) ?_   -- 45
  refine ow_val (val_move rfl) rfl ?_   -- 43
  refine ow_val (val_extract rfl rfl) rfl ?_   -- 46
  refine ow_val (val_extract rfl rfl) rfl ?_   -- 47
  refine ow_val (val_assign rfl) rfl ?_   -- 11
  refine ow_val (val_assign rfl) rfl ?_   -- 12
  refine ow_nil (into ?_)
  refine sw_seq ?_
  refine sw_region ?_
  refine ow_val (val_move rfl) rfl ?_   -- 49
  refine ow_call_keep (v := .tuple #[vInt 0, .bool false]) 3 4 rfl rfl (by decide) (callsTo Try.func32 rfl (by kernel_rfl) rfl) rfl (fun w hm hm2 => rTake_none w cl p a2 c2 xs e2 pl hpl hr2 (by omega) hm2 hx) ?_   -- 50
  refine ow_val (val_move rfl) rfl ?_   -- 48
  refine ow_val (val_extract rfl rfl) rfl ?_   -- 51
  refine ow_val (val_extract rfl rfl) rfl ?_   -- 52
  refine ow_val (val_assign rfl) rfl ?_   -- 13
  refine ow_val (val_assign rfl) rfl ?_   -- 14
  refine ow_nil (into ?_)
  refine sw_seq ?_
  refine sw_region ?_
  refine ow_val (val_move rfl) rfl ?_   -- 53
  refine ow_val (val_move rfl) rfl ?_   -- 54
  refine ow_val ((val_neq_int rfl rfl).to (v' := .bool false) (congrArg Value.bool (decide_eq_false (fun h => h rfl)))) rfl ?_   -- 55
  refine ow_val (val_move rfl) rfl ?_   -- 56
  refine ow_guard_yes rfl rfl rfl ?_
  refine ow_val (val_move rfl) rfl ?_   -- 57
  refine ow_guard_yes rfl rfl rfl ?_
  refine ow_val (val_move rfl) rfl ?_   -- 58
  refine ow_guard_yes rfl rfl rfl ?_
  refine ow_val (val_neq_bool Try.underlying4 rfl rfl) rfl ?_   -- 59
  refine ow_val (val_pick_false rfl rfl) rfl ?_   -- 60
  refine ow_nil (into ?_)
  refine sw_false rfl rfl ?_
  refine sw_skip (into ?_)
  refine sw_seq ?_
  refine sw_region ?_
  refine ow_val (val_move rfl) rfl ?_   -- 68
  refine ow_call_keep (v := vInt (min (xs.length : Int) pl)) 1 2 rfl rfl (by decide) (callsTo Try.func23 rfl (by kernel_rfl) rfl) rfl (fun w hm hm2 => iLen_any w cl q a c xs e pl hpl hr (by omega) hm2) ?_   -- 69
  refine ow_val (val_move rfl) rfl ?_   -- 70
  refine ow_call_keep (v := vInt (min (xs.length : Int) pl)) 3 4 rfl rfl (by decide) (callsTo Try.func34 rfl (by kernel_rfl) rfl) rfl (fun w hm hm2 => rLen_any w cl p a2 c2 xs e2 pl hpl hr2 (by omega) hm2) ?_   -- 71
  refine ow_val ((val_eql_int rfl rfl).to (congrArg Value.bool (decide_eq_true (rfl)))) rfl ?_   -- 72
  refine ow_val (val_move rfl) rfl ?_   -- 73
  refine ow_guard_yes rfl rfl rfl ?_
  refine ow_val (val_move rfl) rfl ?_   -- 74
  refine ow_guard_yes rfl rfl rfl ?_
  refine ow_call_keep (v := vInt (max 0 ((xs.length : Int) - pl))) 1 2 rfl rfl (by decide) (callsTo Try.func24 rfl (by kernel_rfl) rfl) rfl (fun w hm hm2 => iLine_any w cl q a c xs e pl hpl hr (by omega) hm2) ?_   -- 75
  refine ow_guard_yes rfl rfl rfl ?_
  refine ow_val (val_move rfl) rfl ?_   -- 76
  refine ow_guard_yes rfl rfl rfl ?_
  refine ow_call_keep (v := vInt (max 0 ((xs.length : Int) - pl))) 3 4 rfl rfl (by decide) (callsTo Try.func35 rfl (by kernel_rfl) rfl) rfl (fun w hm hm2 => rLine_any w cl p a2 c2 xs e2 pl hpl hr2 (by omega) hm2) ?_   -- 77
  refine ow_guard_yes rfl rfl rfl ?_
  refine ow_val ((val_eql_int rfl rfl).to (congrArg Value.bool (decide_eq_true (rfl)))) rfl ?_   -- 78
  refine ow_val (val_pick_true rfl rfl) rfl ?_   -- 79
  refine ow_val (val_move rfl) rfl ?_   -- 80
  refine ow_guard_yes rfl rfl rfl ?_
  refine ow_val (val_move rfl) rfl ?_   -- 81
  refine ow_guard_yes rfl rfl rfl ?_
  refine ow_call_keep (v := .bool cl) 1 2 rfl rfl (by decide) (callsTo Try.func26 rfl (by kernel_rfl) rfl) rfl (fun w hm hm2 => iClosed_any w cl q a c xs e pl hpl hr (by omega) hm2) ?_   -- 82
  refine ow_guard_yes rfl rfl rfl ?_
  refine ow_val (val_move rfl) rfl ?_   -- 83
  refine ow_guard_yes rfl rfl rfl ?_
  refine ow_call_keep (v := .bool cl) 3 4 rfl rfl (by decide) (callsTo Try.func36 rfl (by kernel_rfl) rfl) rfl (fun w hm hm2 => rClosed_any w cl p a2 c2 xs e2 pl hpl hr2 (by omega) hm2) ?_   -- 84
  refine ow_guard_yes rfl rfl rfl ?_
  refine ow_val ((val_eql_bool Try.underlying4 rfl rfl).to (v' := .bool true) (by simp)) rfl ?_   -- 85
  refine ow_val (val_pick_true rfl rfl) rfl ?_   -- 86
  refine ow_val (val_assign rfl) rfl ?_   -- 6
  refine ow_nil (into ?_)
  refine sw_ret (fun w hm => ?_)
  try dsimp only [thenP, blockP, Nat.beq, cond]
  exact ret_one _ rfl rfl ⟨(cl, xs, (a, c, e), (a2, c2, e2)), rfl, ⟨⟨hr, hr2, hX⟩, (Nat.le_succ _)⟩, hm.only (.cons _ (List.Sublist.refl _))⟩

theorem one_take (w : World) (cl : Bool) (z0 : Int) (xs : List Value) (q p : Nat) (pl : Int) (hpl : 1 ≤ pl ∧ pl ≤ 64) (a : Option Addr) (c : Nat) (e : Ent) (a2 : Option Addr) (c2 : Nat) (e2 : Ent) (hr : RowO (.slice a (vInt z0 :: xs).length c) 3 (vInt z0 :: xs) e) (hr2 : RowO (.slice a2 (vInt z0 :: xs).length c2) 3 (vInt z0 :: xs) e2) (hX : ∀ v ∈ (vInt z0 :: xs), ∃ z, v = vInt z) (hbig : ((vInt z0 :: xs).length + 1) * 8 ≤ 140737488355328) (hm0 : Mem w (keys [some (q, blk [Value.int .i32 0, Value.int .u32 0, vInt pl, .slice a (vInt z0 :: xs).length c, Value.bool cl] 70), e, some (p, blk [vInt pl, .slice a2 (vInt z0 :: xs).length c2, Value.bool cl] 72), e2]) [some (q, blk [Value.int .i32 0, Value.int .u32 0, vInt pl, .slice a (vInt z0 :: xs).length c, Value.bool cl] 70), e, some (p, blk [vInt pl, .slice a2 (vInt z0 :: xs).length c2, Value.bool cl] 72), e2] w) (K z : Int) (hK : K = 2) : Calls Try.prog 11 #[.pointer (some ⟨q, 0, none⟩), .pointer (some ⟨p, 0, none⟩), .agg #[vInt K, vInt z]] w fun en w' => ∃ u, en = .returned u ∧ ∃ s : Bool × List Value × (Option Addr × Nat × Ent) × (Option Addr × Nat × Ent), u = .bool true ∧ (qInv s.2.1 s.2.2.1 s.2.2.2 ∧ s.2.1.length ≤ (vInt z0 :: xs).length + 1) ∧ Mem w (keys [some (q, blk [Value.int .i32 0, Value.int .u32 0, vInt pl, .slice a (vInt z0 :: xs).length c, Value.bool cl] 70), e, some (p, blk [vInt pl, .slice a2 (vInt z0 :: xs).length c2, Value.bool cl] 72), e2]) (qMem q p pl s.1 s.2.1 s.2.2.1 s.2.2.2) w' := by
  have hbig2 : (xs.length + 1 + 1) * 8 ≤ 140737488355328 := hbig
  refine calls_of_sw (vs := [.pointer (some ⟨q, 0, none⟩), .pointer (some ⟨p, 0, none⟩), .agg #[vInt K, vInt z]]) Try.func11 rfl Try.ntmps11 rfl (SW.beginM hm0 ?_)
  refine sw_seq ?_
  refine sw_region ?_
  refine ow_new (acts_box rfl) rfl (fun b5 hb5 => ?_)   -- 5
  refine ow_val (val_assign rfl) rfl ?_   -- 6
  refine ow_nil (into ?_)
  refine sw_seq ?_
  refine sw_seq ?_
  refine sw_region ?_
  refine ow_val (val_fieldAddr (m := 0) (e := 0) rfl Try.underlying32 rfl rfl Try.sizeOf3 rfl) rfl ?_   -- 15
  refine ow_val (val_load_at 0 rfl rfl Try.isAgg3 rfl) rfl ?_   -- 16
  refine ow_nil (into ?_)
  refine sw_block ?_
  refine sw_seq ?_
  refine sw_region ?_
  refine ow_val ((val_eql_int rfl rfl).to (congrArg Value.bool (decide_eq_false (by omega)))) rfl ?_   -- 18
  refine ow_val (val_assign rfl) rfl ?_   -- 17
  refine ow_nil (into ?_)
  refine sw_false rfl rfl ?_
  refine sw_seq ?_
  refine sw_region ?_
  refine ow_val ((val_eql_int rfl rfl).to (congrArg Value.bool (decide_eq_true (hK)))) rfl ?_   -- 42
  refine ow_val (val_assign rfl) rfl ?_   -- 41
  refine ow_nil (into ?_)
  refine sw_true rfl rfl ?_
  refine sw_seq ?_
  refine sw_region ?_
  refine ow_val (val_move rfl) rfl ?_   -- 44
  refine ow_call_two' (σ := Option Addr × Nat × Ent) (fun _ => .tuple #[vInt z0, .bool true]) (fun s => blk [Value.int .i32 0, Value.int .u32 0, vInt pl, .slice s.1 xs.length s.2.1, Value.bool cl] 70) (fun s => s.2.2) (fun s => RowO (.slice s.1 xs.length s.2.1) 3 xs s.2.2) (fun s => [some (b5, blk [vInt K, vInt z] 32), some (q, blk [Value.int .i32 0, Value.int .u32 0, vInt pl, .slice s.1 xs.length s.2.1, Value.bool cl] 70), s.2.2, some (p, blk [vInt pl, .slice a2 (vInt z0 :: xs).length c2, Value.bool cl] 72), e2]) 1 2 rfl rfl (by decide) (fun _ => rfl) (callsTo Try.func21 rfl (by kernel_rfl) rfl) rfl (fun w hm hm2 => iTake_some w cl q a c (vInt z0) xs e pl hpl hr (by omega) hm2) ?_   -- 45
  rintro ⟨a45, c45, e45⟩ hr45
  simp only at hr45 ⊢
  refine ow_val (val_move rfl) rfl ?_   -- 43
  refine ow_val (val_extract rfl rfl) rfl ?_   -- 46
  refine ow_val (val_extract rfl rfl) rfl ?_   -- 47
  refine ow_val (val_assign rfl) rfl ?_   -- 11
  refine ow_val (val_assign rfl) rfl ?_   -- 12
  refine ow_nil (into ?_)
  refine sw_seq ?_
  refine sw_region ?_
  refine ow_val (val_move rfl) rfl ?_   -- 49
  refine ow_call_two' (σ := Option Addr × Nat × Ent) (fun _ => .tuple #[vInt z0, .bool true]) (fun s => blk [vInt pl, .slice s.1 xs.length s.2.1, Value.bool cl] 72) (fun s => s.2.2) (fun s => RowO (.slice s.1 xs.length s.2.1) 3 xs s.2.2) (fun s => [some (b5, blk [vInt K, vInt z] 32), some (q, blk [Value.int .i32 0, Value.int .u32 0, vInt pl, .slice a45 xs.length c45, Value.bool cl] 70), e45, some (p, blk [vInt pl, .slice s.1 xs.length s.2.1, Value.bool cl] 72), s.2.2]) 3 4 rfl rfl (by decide) (fun _ => rfl) (callsTo Try.func32 rfl (by kernel_rfl) rfl) rfl (fun w hm hm2 => rTake_some w cl p a2 c2 (vInt z0) xs e2 pl hpl hr2 (by omega) hm2) ?_   -- 50
  rintro ⟨a50, c50, e50⟩ hr50
  simp only at hr50 ⊢
  refine ow_val (val_move rfl) rfl ?_   -- 48
  refine ow_val (val_extract rfl rfl) rfl ?_   -- 51
  refine ow_val (val_extract rfl rfl) rfl ?_   -- 52
  refine ow_val (val_assign rfl) rfl ?_   -- 13
  refine ow_val (val_assign rfl) rfl ?_   -- 14
  refine ow_nil (into ?_)
  refine sw_seq ?_
  refine sw_region ?_
  refine ow_val (val_move rfl) rfl ?_   -- 53
  refine ow_val (val_move rfl) rfl ?_   -- 54
  refine ow_val ((val_neq_int rfl rfl).to (congrArg Value.bool (decide_eq_false ((fun h => h rfl))))) rfl ?_   -- 55
  refine ow_val (val_move rfl) rfl ?_   -- 56
  refine ow_guard_yes rfl rfl rfl ?_
  refine ow_val (val_move rfl) rfl ?_   -- 57
  refine ow_guard_yes rfl rfl rfl ?_
  refine ow_val (val_move rfl) rfl ?_   -- 58
  refine ow_guard_yes rfl rfl rfl ?_
  refine ow_val (val_neq_bool Try.underlying4 rfl rfl) rfl ?_   -- 59
  refine ow_val (val_pick_false rfl rfl) rfl ?_   -- 60
  refine ow_nil (into ?_)
  refine sw_false rfl rfl ?_
  refine sw_skip (into ?_)
  refine sw_seq ?_
  refine sw_region ?_
  refine ow_val (val_move rfl) rfl ?_   -- 68
  refine ow_call_keep (v := vInt (min (xs.length : Int) pl)) 1 2 rfl rfl (by decide) (callsTo Try.func23 rfl (by kernel_rfl) rfl) rfl (fun w hm hm2 => iLen_any w cl q a45 c45 xs e45 pl hpl hr45 (by simp only [List.length_cons] at *; omega) hm2) ?_   -- 69
  refine ow_val (val_move rfl) rfl ?_   -- 70
  refine ow_call_keep (v := vInt (min (xs.length : Int) pl)) 3 4 rfl rfl (by decide) (callsTo Try.func34 rfl (by kernel_rfl) rfl) rfl (fun w hm hm2 => rLen_any w cl p a50 c50 xs e50 pl hpl hr50 (by simp only [List.length_cons] at *; omega) hm2) ?_   -- 71
  refine ow_val ((val_eql_int rfl rfl).to (congrArg Value.bool (decide_eq_true (rfl)))) rfl ?_   -- 72
  refine ow_val (val_move rfl) rfl ?_   -- 73
  refine ow_guard_yes rfl rfl rfl ?_
  refine ow_val (val_move rfl) rfl ?_   -- 74
  refine ow_guard_yes rfl rfl rfl ?_
  refine ow_call_keep (v := vInt (max 0 ((xs.length : Int) - pl))) 1 2 rfl rfl (by decide) (callsTo Try.func24 rfl (by kernel_rfl) rfl) rfl (fun w hm hm2 => iLine_any w cl q a45 c45 xs e45 pl hpl hr45 (by simp only [List.length_cons] at *; omega) hm2) ?_   -- 75
  refine ow_guard_yes rfl rfl rfl ?_
  refine ow_val (val_move rfl) rfl ?_   -- 76
  refine ow_guard_yes rfl rfl rfl ?_
  refine ow_call_keep (v := vInt (max 0 ((xs.length : Int) - pl))) 3 4 rfl rfl (by decide) (callsTo Try.func35 rfl (by kernel_rfl) rfl) rfl (fun w hm hm2 => rLine_any w cl p a50 c50 xs e50 pl hpl hr50 (by simp only [List.length_cons] at *; omega) hm2) ?_   -- 77
  refine ow_guard_yes rfl rfl rfl ?_
  refine ow_val ((val_eql_int rfl rfl).to (congrArg Value.bool (decide_eq_true (rfl)))) rfl ?_   -- 78
  refine ow_val (val_pick_true rfl rfl) rfl ?_   -- 79
  refine ow_val (val_move rfl) rfl ?_   -- 80
  refine ow_guard_yes rfl rfl rfl ?_
  refine ow_val (val_move rfl) rfl ?_   -- 81
  refine ow_guard_yes rfl rfl rfl ?_
  refine ow_call_keep (v := .bool cl) 1 2 rfl rfl (by decide) (callsTo Try.func26 rfl (by kernel_rfl) rfl) rfl (fun w hm hm2 => iClosed_any w cl q a45 c45 xs e45 pl hpl hr45 (by simp only [List.length_cons] at *; omega) hm2) ?_   -- 82
  refine ow_guard_yes rfl rfl rfl ?_
  refine ow_val (val_move rfl) rfl ?_   -- 83
  refine ow_guard_yes rfl rfl rfl ?_
  refine ow_call_keep (v := .bool cl) 3 4 rfl rfl (by decide) (callsTo Try.func36 rfl (by kernel_rfl) rfl) rfl (fun w hm hm2 => rClosed_any w cl p a50 c50 xs e50 pl hpl hr50 (by simp only [List.length_cons] at *; omega) hm2) ?_   -- 84
  refine ow_guard_yes rfl rfl rfl ?_
  refine ow_val ((val_eql_bool Try.underlying4 rfl rfl).to (v' := .bool true) (by simp)) rfl ?_   -- 85
  refine ow_val (val_pick_true rfl rfl) rfl ?_   -- 86
  refine ow_val (val_assign rfl) rfl ?_   -- 6
  refine ow_nil (into ?_)
  refine sw_ret (fun w hm => ?_)
  try dsimp only [thenP, blockP, Nat.beq, cond]
  exact ret_one _ rfl rfl ⟨(cl, xs, (a45, c45, e45), (a50, c50, e50)), rfl, ⟨⟨hr45, hr50, fun v hv => hX v (List.mem_cons_of_mem _ hv)⟩, (by simp only [List.length_append, List.length_cons, List.length_nil]; omega)⟩, hm.only (.cons _ (List.Sublist.refl _))⟩

theorem one_close (w : World)  (xs : List Value) (q p : Nat) (pl : Int) (hpl : 1 ≤ pl ∧ pl ≤ 64) (a : Option Addr) (c : Nat) (e : Ent) (a2 : Option Addr) (c2 : Nat) (e2 : Ent) (hr : RowO (.slice a xs.length c) 3 xs e) (hr2 : RowO (.slice a2 xs.length c2) 3 xs e2) (hX : ∀ v ∈ xs, ∃ z, v = vInt z) (hbig : (xs.length + 1) * 8 ≤ 140737488355328) (hm0 : Mem w (keys [some (q, blk [Value.int .i32 0, Value.int .u32 0, vInt pl, .slice a xs.length c, Value.bool false] 70), e, some (p, blk [vInt pl, .slice a2 xs.length c2, Value.bool false] 72), e2]) [some (q, blk [Value.int .i32 0, Value.int .u32 0, vInt pl, .slice a xs.length c, Value.bool false] 70), e, some (p, blk [vInt pl, .slice a2 xs.length c2, Value.bool false] 72), e2] w) (K z : Int) (hK : K = 3) : Calls Try.prog 11 #[.pointer (some ⟨q, 0, none⟩), .pointer (some ⟨p, 0, none⟩), .agg #[vInt K, vInt z]] w fun en w' => ∃ u, en = .returned u ∧ ∃ s : Bool × List Value × (Option Addr × Nat × Ent) × (Option Addr × Nat × Ent), u = .bool true ∧ (qInv s.2.1 s.2.2.1 s.2.2.2 ∧ s.2.1.length ≤ xs.length + 1) ∧ Mem w (keys [some (q, blk [Value.int .i32 0, Value.int .u32 0, vInt pl, .slice a xs.length c, Value.bool false] 70), e, some (p, blk [vInt pl, .slice a2 xs.length c2, Value.bool false] 72), e2]) (qMem q p pl s.1 s.2.1 s.2.2.1 s.2.2.2) w' := by
  refine calls_of_sw (vs := [.pointer (some ⟨q, 0, none⟩), .pointer (some ⟨p, 0, none⟩), .agg #[vInt K, vInt z]]) Try.func11 rfl Try.ntmps11 rfl (SW.beginM hm0 ?_)
  refine sw_seq ?_
  refine sw_region ?_
  refine ow_new (acts_box rfl) rfl (fun b5 hb5 => ?_)   -- 5
  refine ow_val (val_assign rfl) rfl ?_   -- 6
  refine ow_nil (into ?_)
  refine sw_seq ?_
  refine sw_seq ?_
  refine sw_region ?_
  refine ow_val (val_fieldAddr (m := 0) (e := 0) rfl Try.underlying32 rfl rfl Try.sizeOf3 rfl) rfl ?_   -- 15
  refine ow_val (val_load_at 0 rfl rfl Try.isAgg3 rfl) rfl ?_   -- 16
  refine ow_nil (into ?_)
  refine sw_block ?_
  refine sw_seq ?_
  refine sw_region ?_
  refine ow_val ((val_eql_int rfl rfl).to (congrArg Value.bool (decide_eq_false (by omega)))) rfl ?_   -- 18
  refine ow_val (val_assign rfl) rfl ?_   -- 17
  refine ow_nil (into ?_)
  refine sw_false rfl rfl ?_
  refine sw_seq ?_
  refine sw_region ?_
  refine ow_val ((val_eql_int rfl rfl).to (congrArg Value.bool (decide_eq_false (by omega)))) rfl ?_   -- 42
  refine ow_val (val_assign rfl) rfl ?_   -- 41
  refine ow_nil (into ?_)
  refine sw_false rfl rfl ?_
  refine sw_seq ?_
  refine sw_region ?_
  refine ow_val ((val_eql_int rfl rfl).to (congrArg Value.bool (decide_eq_true (hK)))) rfl ?_   -- 62
  refine ow_val (val_assign rfl) rfl ?_   -- 61
  refine ow_nil (into ?_)
  refine sw_true rfl rfl ?_
  refine sw_seq ?_
  refine sw_region ?_
  refine ow_val (val_move rfl) rfl ?_   -- 63
  refine ow_call_two' (σ := Unit) (fun _ => vInt 0) (fun _ => blk [Value.int .i32 0, Value.int .u32 0, vInt pl, .slice a xs.length c, Value.bool true] 70) (fun _ => e) (fun _ => True) (fun _ => [some (b5, blk [vInt K, vInt z] 32), some (q, blk [Value.int .i32 0, Value.int .u32 0, vInt pl, .slice a xs.length c, Value.bool true] 70), e, some (p, blk [vInt pl, .slice a2 xs.length c2, Value.bool false] 72), e2]) 1 2 rfl rfl (by decide) (fun _ => rfl) (callsTo Try.func25 rfl (by kernel_rfl) rfl) rfl (fun w hm hm2 => (iClose_no w q a c xs e pl hpl hr (by omega) hm2).mono fun _ _ ⟨u, he, hu, hm3⟩ => ⟨u, he, (), hu, trivial, hm3⟩) ?_   -- 64
  rintro ⟨⟩ -
  refine ow_val (val_move rfl) rfl ?_   -- 65
  refine ow_call_two' (σ := Unit) (fun _ => vInt 0) (fun _ => blk [vInt pl, .slice a2 xs.length c2, Value.bool true] 72) (fun _ => e2) (fun _ => True) (fun _ => [some (b5, blk [vInt K, vInt z] 32), some (q, blk [Value.int .i32 0, Value.int .u32 0, vInt pl, .slice a xs.length c, Value.bool true] 70), e, some (p, blk [vInt pl, .slice a2 xs.length c2, Value.bool true] 72), e2]) 3 4 rfl rfl (by decide) (fun _ => rfl) (callsTo Try.func33 rfl (by kernel_rfl) rfl) rfl (fun w hm hm2 => (rClose_no w p a2 c2 xs e2 pl hpl hr2 (by omega) hm2).mono fun _ _ ⟨u, he, hu, hm3⟩ => ⟨u, he, (), hu, trivial, hm3⟩) ?_   -- 66
  rintro ⟨⟩ -
  refine ow_val ((val_neq_int rfl rfl).to (v' := .bool false) (congrArg Value.bool (decide_eq_false (fun h => h rfl)))) rfl ?_   -- 67
  refine ow_nil (into ?_)
  refine sw_false rfl rfl ?_
  refine sw_skip (into ?_)
  refine sw_seq ?_
  refine sw_region ?_
  refine ow_val (val_move rfl) rfl ?_   -- 68
  refine ow_call_keep (v := vInt (min (xs.length : Int) pl)) 1 2 rfl rfl (by decide) (callsTo Try.func23 rfl (by kernel_rfl) rfl) rfl (fun w hm hm2 => iLen_any w true q a c xs e pl hpl hr (by omega) hm2) ?_   -- 69
  refine ow_val (val_move rfl) rfl ?_   -- 70
  refine ow_call_keep (v := vInt (min (xs.length : Int) pl)) 3 4 rfl rfl (by decide) (callsTo Try.func34 rfl (by kernel_rfl) rfl) rfl (fun w hm hm2 => rLen_any w true p a2 c2 xs e2 pl hpl hr2 (by omega) hm2) ?_   -- 71
  refine ow_val ((val_eql_int rfl rfl).to (congrArg Value.bool (decide_eq_true (rfl)))) rfl ?_   -- 72
  refine ow_val (val_move rfl) rfl ?_   -- 73
  refine ow_guard_yes rfl rfl rfl ?_
  refine ow_val (val_move rfl) rfl ?_   -- 74
  refine ow_guard_yes rfl rfl rfl ?_
  refine ow_call_keep (v := vInt (max 0 ((xs.length : Int) - pl))) 1 2 rfl rfl (by decide) (callsTo Try.func24 rfl (by kernel_rfl) rfl) rfl (fun w hm hm2 => iLine_any w true q a c xs e pl hpl hr (by omega) hm2) ?_   -- 75
  refine ow_guard_yes rfl rfl rfl ?_
  refine ow_val (val_move rfl) rfl ?_   -- 76
  refine ow_guard_yes rfl rfl rfl ?_
  refine ow_call_keep (v := vInt (max 0 ((xs.length : Int) - pl))) 3 4 rfl rfl (by decide) (callsTo Try.func35 rfl (by kernel_rfl) rfl) rfl (fun w hm hm2 => rLine_any w true p a2 c2 xs e2 pl hpl hr2 (by omega) hm2) ?_   -- 77
  refine ow_guard_yes rfl rfl rfl ?_
  refine ow_val ((val_eql_int rfl rfl).to (congrArg Value.bool (decide_eq_true (rfl)))) rfl ?_   -- 78
  refine ow_val (val_pick_true rfl rfl) rfl ?_   -- 79
  refine ow_val (val_move rfl) rfl ?_   -- 80
  refine ow_guard_yes rfl rfl rfl ?_
  refine ow_val (val_move rfl) rfl ?_   -- 81
  refine ow_guard_yes rfl rfl rfl ?_
  refine ow_call_keep (v := .bool true) 1 2 rfl rfl (by decide) (callsTo Try.func26 rfl (by kernel_rfl) rfl) rfl (fun w hm hm2 => iClosed_any w true q a c xs e pl hpl hr (by omega) hm2) ?_   -- 82
  refine ow_guard_yes rfl rfl rfl ?_
  refine ow_val (val_move rfl) rfl ?_   -- 83
  refine ow_guard_yes rfl rfl rfl ?_
  refine ow_call_keep (v := .bool true) 3 4 rfl rfl (by decide) (callsTo Try.func36 rfl (by kernel_rfl) rfl) rfl (fun w hm hm2 => rClosed_any w true p a2 c2 xs e2 pl hpl hr2 (by omega) hm2) ?_   -- 84
  refine ow_guard_yes rfl rfl rfl ?_
  refine ow_val ((val_eql_bool Try.underlying4 rfl rfl).to (v' := .bool true) (by simp)) rfl ?_   -- 85
  refine ow_val (val_pick_true rfl rfl) rfl ?_   -- 86
  refine ow_val (val_assign rfl) rfl ?_   -- 6
  refine ow_nil (into ?_)
  refine sw_ret (fun w hm => ?_)
  try dsimp only [thenP, blockP, Nat.beq, cond]
  exact ret_one _ rfl rfl ⟨(true, xs, (a, c, e), (a2, c2, e2)), rfl, ⟨⟨hr, hr2, hX⟩, (Nat.le_succ _)⟩, hm.only (.cons _ (List.Sublist.refl _))⟩

theorem one_clos2 (w : World)  (xs : List Value) (q p : Nat) (pl : Int) (hpl : 1 ≤ pl ∧ pl ≤ 64) (a : Option Addr) (c : Nat) (e : Ent) (a2 : Option Addr) (c2 : Nat) (e2 : Ent) (hr : RowO (.slice a xs.length c) 3 xs e) (hr2 : RowO (.slice a2 xs.length c2) 3 xs e2) (hX : ∀ v ∈ xs, ∃ z, v = vInt z) (hbig : (xs.length + 1) * 8 ≤ 140737488355328) (hm0 : Mem w (keys [some (q, blk [Value.int .i32 0, Value.int .u32 0, vInt pl, .slice a xs.length c, Value.bool true] 70), e, some (p, blk [vInt pl, .slice a2 xs.length c2, Value.bool true] 72), e2]) [some (q, blk [Value.int .i32 0, Value.int .u32 0, vInt pl, .slice a xs.length c, Value.bool true] 70), e, some (p, blk [vInt pl, .slice a2 xs.length c2, Value.bool true] 72), e2] w) (K z : Int) (hK : K = 3) : Calls Try.prog 11 #[.pointer (some ⟨q, 0, none⟩), .pointer (some ⟨p, 0, none⟩), .agg #[vInt K, vInt z]] w fun en w' => ∃ u, en = .returned u ∧ ∃ s : Bool × List Value × (Option Addr × Nat × Ent) × (Option Addr × Nat × Ent), u = .bool true ∧ (qInv s.2.1 s.2.2.1 s.2.2.2 ∧ s.2.1.length ≤ xs.length + 1) ∧ Mem w (keys [some (q, blk [Value.int .i32 0, Value.int .u32 0, vInt pl, .slice a xs.length c, Value.bool true] 70), e, some (p, blk [vInt pl, .slice a2 xs.length c2, Value.bool true] 72), e2]) (qMem q p pl s.1 s.2.1 s.2.2.1 s.2.2.2) w' := by
  refine calls_of_sw (vs := [.pointer (some ⟨q, 0, none⟩), .pointer (some ⟨p, 0, none⟩), .agg #[vInt K, vInt z]]) Try.func11 rfl Try.ntmps11 rfl (SW.beginM hm0 ?_)
  refine sw_seq ?_
  refine sw_region ?_
  refine ow_new (acts_box rfl) rfl (fun b5 hb5 => ?_)   -- 5
  refine ow_val (val_assign rfl) rfl ?_   -- 6
  refine ow_nil (into ?_)
  refine sw_seq ?_
  refine sw_seq ?_
  refine sw_region ?_
  refine ow_val (val_fieldAddr (m := 0) (e := 0) rfl Try.underlying32 rfl rfl Try.sizeOf3 rfl) rfl ?_   -- 15
  refine ow_val (val_load_at 0 rfl rfl Try.isAgg3 rfl) rfl ?_   -- 16
  refine ow_nil (into ?_)
  refine sw_block ?_
  refine sw_seq ?_
  refine sw_region ?_
  refine ow_val ((val_eql_int rfl rfl).to (congrArg Value.bool (decide_eq_false (by omega)))) rfl ?_   -- 18
  refine ow_val (val_assign rfl) rfl ?_   -- 17
  refine ow_nil (into ?_)
  refine sw_false rfl rfl ?_
  refine sw_seq ?_
  refine sw_region ?_
  refine ow_val ((val_eql_int rfl rfl).to (congrArg Value.bool (decide_eq_false (by omega)))) rfl ?_   -- 42
  refine ow_val (val_assign rfl) rfl ?_   -- 41
  refine ow_nil (into ?_)
  refine sw_false rfl rfl ?_
  refine sw_seq ?_
  refine sw_region ?_
  refine ow_val ((val_eql_int rfl rfl).to (congrArg Value.bool (decide_eq_true (hK)))) rfl ?_   -- 62
  refine ow_val (val_assign rfl) rfl ?_   -- 61
  refine ow_nil (into ?_)
  refine sw_true rfl rfl ?_
  refine sw_seq ?_
  refine sw_region ?_
  refine ow_val (val_move rfl) rfl ?_   -- 63
  refine ow_call_keep (v := vInt 9) 1 2 rfl rfl (by decide) (callsTo Try.func25 rfl (by kernel_rfl) rfl) rfl (fun w hm hm2 => iClose_yes w q a c xs e pl hpl hr (by omega) hm2) ?_   -- 64
  refine ow_val (val_move rfl) rfl ?_   -- 65
  refine ow_call_keep (v := vInt 9) 3 4 rfl rfl (by decide) (callsTo Try.func33 rfl (by kernel_rfl) rfl) rfl (fun w hm hm2 => rClose_yes w p a2 c2 xs e2 pl hpl hr2 (by omega) hm2) ?_   -- 66
  refine ow_val ((val_neq_int rfl rfl).to (v' := .bool false) (congrArg Value.bool (decide_eq_false (fun h => h rfl)))) rfl ?_   -- 67
  refine ow_nil (into ?_)
  refine sw_false rfl rfl ?_
  refine sw_skip (into ?_)
  refine sw_seq ?_
  refine sw_region ?_
  refine ow_val (val_move rfl) rfl ?_   -- 68
  refine ow_call_keep (v := vInt (min (xs.length : Int) pl)) 1 2 rfl rfl (by decide) (callsTo Try.func23 rfl (by kernel_rfl) rfl) rfl (fun w hm hm2 => iLen_any w true q a c xs e pl hpl hr (by omega) hm2) ?_   -- 69
  refine ow_val (val_move rfl) rfl ?_   -- 70
  refine ow_call_keep (v := vInt (min (xs.length : Int) pl)) 3 4 rfl rfl (by decide) (callsTo Try.func34 rfl (by kernel_rfl) rfl) rfl (fun w hm hm2 => rLen_any w true p a2 c2 xs e2 pl hpl hr2 (by omega) hm2) ?_   -- 71
  refine ow_val ((val_eql_int rfl rfl).to (congrArg Value.bool (decide_eq_true (rfl)))) rfl ?_   -- 72
  refine ow_val (val_move rfl) rfl ?_   -- 73
  refine ow_guard_yes rfl rfl rfl ?_
  refine ow_val (val_move rfl) rfl ?_   -- 74
  refine ow_guard_yes rfl rfl rfl ?_
  refine ow_call_keep (v := vInt (max 0 ((xs.length : Int) - pl))) 1 2 rfl rfl (by decide) (callsTo Try.func24 rfl (by kernel_rfl) rfl) rfl (fun w hm hm2 => iLine_any w true q a c xs e pl hpl hr (by omega) hm2) ?_   -- 75
  refine ow_guard_yes rfl rfl rfl ?_
  refine ow_val (val_move rfl) rfl ?_   -- 76
  refine ow_guard_yes rfl rfl rfl ?_
  refine ow_call_keep (v := vInt (max 0 ((xs.length : Int) - pl))) 3 4 rfl rfl (by decide) (callsTo Try.func35 rfl (by kernel_rfl) rfl) rfl (fun w hm hm2 => rLine_any w true p a2 c2 xs e2 pl hpl hr2 (by omega) hm2) ?_   -- 77
  refine ow_guard_yes rfl rfl rfl ?_
  refine ow_val ((val_eql_int rfl rfl).to (congrArg Value.bool (decide_eq_true (rfl)))) rfl ?_   -- 78
  refine ow_val (val_pick_true rfl rfl) rfl ?_   -- 79
  refine ow_val (val_move rfl) rfl ?_   -- 80
  refine ow_guard_yes rfl rfl rfl ?_
  refine ow_val (val_move rfl) rfl ?_   -- 81
  refine ow_guard_yes rfl rfl rfl ?_
  refine ow_call_keep (v := .bool true) 1 2 rfl rfl (by decide) (callsTo Try.func26 rfl (by kernel_rfl) rfl) rfl (fun w hm hm2 => iClosed_any w true q a c xs e pl hpl hr (by omega) hm2) ?_   -- 82
  refine ow_guard_yes rfl rfl rfl ?_
  refine ow_val (val_move rfl) rfl ?_   -- 83
  refine ow_guard_yes rfl rfl rfl ?_
  refine ow_call_keep (v := .bool true) 3 4 rfl rfl (by decide) (callsTo Try.func36 rfl (by kernel_rfl) rfl) rfl (fun w hm hm2 => rClosed_any w true p a2 c2 xs e2 pl hpl hr2 (by omega) hm2) ?_   -- 84
  refine ow_guard_yes rfl rfl rfl ?_
  refine ow_val ((val_eql_bool Try.underlying4 rfl rfl).to (v' := .bool true) (by simp)) rfl ?_   -- 85
  refine ow_val (val_pick_true rfl rfl) rfl ?_   -- 86
  refine ow_val (val_assign rfl) rfl ?_   -- 6
  refine ow_nil (into ?_)
  refine sw_ret (fun w hm => ?_)
  try dsimp only [thenP, blockP, Nat.beq, cond]
  exact ret_one _ rfl rfl ⟨(true, xs, (a, c, e), (a2, c2, e2)), rfl, ⟨⟨hr, hr2, hX⟩, (Nat.le_succ _)⟩, hm.only (.cons _ (List.Sublist.refl _))⟩

theorem one_rest (w : World) (cl : Bool) (xs : List Value) (q p : Nat) (pl : Int) (hpl : 1 ≤ pl ∧ pl ≤ 64) (a : Option Addr) (c : Nat) (e : Ent) (a2 : Option Addr) (c2 : Nat) (e2 : Ent) (hr : RowO (.slice a xs.length c) 3 xs e) (hr2 : RowO (.slice a2 xs.length c2) 3 xs e2) (hX : ∀ v ∈ xs, ∃ z, v = vInt z) (hbig : (xs.length + 1) * 8 ≤ 140737488355328) (hm0 : Mem w (keys [some (q, blk [Value.int .i32 0, Value.int .u32 0, vInt pl, .slice a xs.length c, Value.bool cl] 70), e, some (p, blk [vInt pl, .slice a2 xs.length c2, Value.bool cl] 72), e2]) [some (q, blk [Value.int .i32 0, Value.int .u32 0, vInt pl, .slice a xs.length c, Value.bool cl] 70), e, some (p, blk [vInt pl, .slice a2 xs.length c2, Value.bool cl] 72), e2] w) (K z : Int) (hK : K ≠ 1 ∧ K ≠ 2 ∧ K ≠ 3) : Calls Try.prog 11 #[.pointer (some ⟨q, 0, none⟩), .pointer (some ⟨p, 0, none⟩), .agg #[vInt K, vInt z]] w fun en w' => ∃ u, en = .returned u ∧ ∃ s : Bool × List Value × (Option Addr × Nat × Ent) × (Option Addr × Nat × Ent), u = .bool true ∧ (qInv s.2.1 s.2.2.1 s.2.2.2 ∧ s.2.1.length ≤ xs.length + 1) ∧ Mem w (keys [some (q, blk [Value.int .i32 0, Value.int .u32 0, vInt pl, .slice a xs.length c, Value.bool cl] 70), e, some (p, blk [vInt pl, .slice a2 xs.length c2, Value.bool cl] 72), e2]) (qMem q p pl s.1 s.2.1 s.2.2.1 s.2.2.2) w' := by
  refine calls_of_sw (vs := [.pointer (some ⟨q, 0, none⟩), .pointer (some ⟨p, 0, none⟩), .agg #[vInt K, vInt z]]) Try.func11 rfl Try.ntmps11 rfl (SW.beginM hm0 ?_)
  refine sw_seq ?_
  refine sw_region ?_
  refine ow_new (acts_box rfl) rfl (fun b5 hb5 => ?_)   -- 5
  refine ow_val (val_assign rfl) rfl ?_   -- 6
  refine ow_nil (into ?_)
  refine sw_seq ?_
  refine sw_seq ?_
  refine sw_region ?_
  refine ow_val (val_fieldAddr (m := 0) (e := 0) rfl Try.underlying32 rfl rfl Try.sizeOf3 rfl) rfl ?_   -- 15
  refine ow_val (val_load_at 0 rfl rfl Try.isAgg3 rfl) rfl ?_   -- 16
  refine ow_nil (into ?_)
  refine sw_block ?_
  refine sw_seq ?_
  refine sw_region ?_
  refine ow_val ((val_eql_int rfl rfl).to (congrArg Value.bool (decide_eq_false (by omega)))) rfl ?_   -- 18
  refine ow_val (val_assign rfl) rfl ?_   -- 17
  refine ow_nil (into ?_)
  refine sw_false rfl rfl ?_
  refine sw_seq ?_
  refine sw_region ?_
  refine ow_val ((val_eql_int rfl rfl).to (congrArg Value.bool (decide_eq_false (by omega)))) rfl ?_   -- 42
  refine ow_val (val_assign rfl) rfl ?_   -- 41
  refine ow_nil (into ?_)
  refine sw_false rfl rfl ?_
  refine sw_seq ?_
  refine sw_region ?_
  refine ow_val ((val_eql_int rfl rfl).to (congrArg Value.bool (decide_eq_false (by omega)))) rfl ?_   -- 62
  refine ow_val (val_assign rfl) rfl ?_   -- 61
  refine ow_nil (into ?_)
  refine sw_false rfl rfl ?_
  refine sw_skip (into ?_)
  refine sw_seq ?_
  refine sw_region ?_
  refine ow_val (val_move rfl) rfl ?_   -- 68
  refine ow_call_keep (v := vInt (min (xs.length : Int) pl)) 1 2 rfl rfl (by decide) (callsTo Try.func23 rfl (by kernel_rfl) rfl) rfl (fun w hm hm2 => iLen_any w cl q a c xs e pl hpl hr (by omega) hm2) ?_   -- 69
  refine ow_val (val_move rfl) rfl ?_   -- 70
  refine ow_call_keep (v := vInt (min (xs.length : Int) pl)) 3 4 rfl rfl (by decide) (callsTo Try.func34 rfl (by kernel_rfl) rfl) rfl (fun w hm hm2 => rLen_any w cl p a2 c2 xs e2 pl hpl hr2 (by omega) hm2) ?_   -- 71
  refine ow_val ((val_eql_int rfl rfl).to (congrArg Value.bool (decide_eq_true (rfl)))) rfl ?_   -- 72
  refine ow_val (val_move rfl) rfl ?_   -- 73
  refine ow_guard_yes rfl rfl rfl ?_
  refine ow_val (val_move rfl) rfl ?_   -- 74
  refine ow_guard_yes rfl rfl rfl ?_
  refine ow_call_keep (v := vInt (max 0 ((xs.length : Int) - pl))) 1 2 rfl rfl (by decide) (callsTo Try.func24 rfl (by kernel_rfl) rfl) rfl (fun w hm hm2 => iLine_any w cl q a c xs e pl hpl hr (by omega) hm2) ?_   -- 75
  refine ow_guard_yes rfl rfl rfl ?_
  refine ow_val (val_move rfl) rfl ?_   -- 76
  refine ow_guard_yes rfl rfl rfl ?_
  refine ow_call_keep (v := vInt (max 0 ((xs.length : Int) - pl))) 3 4 rfl rfl (by decide) (callsTo Try.func35 rfl (by kernel_rfl) rfl) rfl (fun w hm hm2 => rLine_any w cl p a2 c2 xs e2 pl hpl hr2 (by omega) hm2) ?_   -- 77
  refine ow_guard_yes rfl rfl rfl ?_
  refine ow_val ((val_eql_int rfl rfl).to (congrArg Value.bool (decide_eq_true (rfl)))) rfl ?_   -- 78
  refine ow_val (val_pick_true rfl rfl) rfl ?_   -- 79
  refine ow_val (val_move rfl) rfl ?_   -- 80
  refine ow_guard_yes rfl rfl rfl ?_
  refine ow_val (val_move rfl) rfl ?_   -- 81
  refine ow_guard_yes rfl rfl rfl ?_
  refine ow_call_keep (v := .bool cl) 1 2 rfl rfl (by decide) (callsTo Try.func26 rfl (by kernel_rfl) rfl) rfl (fun w hm hm2 => iClosed_any w cl q a c xs e pl hpl hr (by omega) hm2) ?_   -- 82
  refine ow_guard_yes rfl rfl rfl ?_
  refine ow_val (val_move rfl) rfl ?_   -- 83
  refine ow_guard_yes rfl rfl rfl ?_
  refine ow_call_keep (v := .bool cl) 3 4 rfl rfl (by decide) (callsTo Try.func36 rfl (by kernel_rfl) rfl) rfl (fun w hm hm2 => rClosed_any w cl p a2 c2 xs e2 pl hpl hr2 (by omega) hm2) ?_   -- 84
  refine ow_guard_yes rfl rfl rfl ?_
  refine ow_val ((val_eql_bool Try.underlying4 rfl rfl).to (v' := .bool true) (by simp)) rfl ?_   -- 85
  refine ow_val (val_pick_true rfl rfl) rfl ?_   -- 86
  refine ow_val (val_assign rfl) rfl ?_   -- 6
  refine ow_nil (into ?_)
  exact sw_ret (fun w hm => ret_one _ rfl rfl ⟨(cl, xs, (a, c, e), (a2, c2, e2)), rfl, ⟨⟨hr, hr2, hX⟩, (Nat.le_succ _)⟩, hm.only (.cons _ (List.Sublist.refl _))⟩)
end Go.Proofs.Ytigogbodobifdaa
