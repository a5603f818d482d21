import Derived.Test.YtigogbodobifdaaQ1
import Derived.Test.YtigogbodobifdaaProg
set_option linter.unusedVariables false
set_option linter.unusedSimpArgs false
namespace Go.Proofs.Ytigogbodobifdaa
open Go.Sx
theorem iNew_no (w : World) (pl : Int) (hw : ¬ (1 ≤ pl ∧ pl ≤ 64)) : Calls Try.prog 9 #[vInt pl] w fun e w' => ∃ v, e = .returned v ∧ v = .tuple #[.pointer none, vInt 1] ∧ Mem w [] [] w' := by
  refine calls_of_sw (vs := [vInt pl]) Try.func9 rfl Try.ntmps9 rfl (SW.begin ?_)
  refine sw_seq ?_
  refine sw_region ?_
  refine ow_val (val_assign rfl) rfl ?_   -- 2
  refine ow_val (val_assign rfl) rfl ?_   -- 3
  refine ow_nil (into ?_)
  refine sw_seq ?_
  refine sw_seq ?_
  refine sw_region ?_
  refine ow_val (val_move rfl) rfl ?_   -- 4
  by_cases hw1 : pl < 1
  · -- yes
    refine ow_val ((val_lss_int rfl rfl).to (congrArg Value.bool (decide_eq_true (by omega)))) rfl ?_   -- 5
    refine ow_val (val_move rfl) rfl ?_   -- 6
    first | refine ow_guard_no rfl rfl rfl rfl rfl ?_ | refine ow_guard_none rfl rfl rfl rfl rfl ?_
    first | refine ow_guard_no rfl rfl rfl rfl rfl ?_ | refine ow_guard_none rfl rfl rfl rfl rfl ?_
    refine ow_val (val_pick_true rfl rfl) rfl ?_   -- 9
    refine ow_nil (into ?_)
    refine sw_true rfl rfl ?_
    refine sw_seq ?_
    refine sw_region ?_
    refine ow_val (val_assign rfl) rfl ?_   -- 2
    refine ow_val (val_assign rfl) rfl ?_   -- 3
    refine ow_nil (into ?_)
    refine sw_ret (fun w hm => ?_)
    try dsimp only [thenP, blockP, Nat.beq, cond]
    exact ret_two _ _ rfl rfl rfl ⟨rfl, hm⟩
  · -- no
    refine ow_val ((val_lss_int rfl rfl).to (congrArg Value.bool (decide_eq_false (by omega)))) rfl ?_   -- 5
    refine ow_val (val_move rfl) rfl ?_   -- 6
    refine ow_guard_yes rfl rfl rfl ?_
    refine ow_val (val_move rfl) rfl ?_   -- 7
    by_cases hw2 : 64 < pl
    · -- yes
      refine ow_guard_yes rfl rfl rfl ?_
      refine ow_val ((val_gtr_int rfl rfl).to (congrArg Value.bool (decide_eq_true (by omega)))) rfl ?_   -- 8
      refine ow_val (val_pick_false rfl rfl) rfl ?_   -- 9
      refine ow_nil (into ?_)
      refine sw_true rfl rfl ?_
      refine sw_seq ?_
      refine sw_region ?_
      refine ow_val (val_assign rfl) rfl ?_   -- 2
      refine ow_val (val_assign rfl) rfl ?_   -- 3
      refine ow_nil (into ?_)
      refine sw_ret (fun w hm => ?_)
      try dsimp only [thenP, blockP, Nat.beq, cond]
      exact ret_two _ _ rfl rfl rfl ⟨rfl, hm⟩
    · exfalso; omega

theorem iNew_yes (w : World) (pl : Int) (hw : 1 ≤ pl ∧ pl ≤ 64) : Calls Try.prog 9 #[vInt pl] w fun en w' => ∃ v, en = .returned v ∧ ∃ b, v = .tuple #[.pointer (some ⟨b, 0, none⟩), vInt 0] ∧ Mem w [] [some (b, blk [Value.int .i32 0, Value.int .u32 0, vInt pl, .slice none 0 0, Value.bool false] 70)] w' := by
  refine calls_of_sw (vs := [vInt pl]) Try.func9 rfl Try.ntmps9 rfl (SW.begin ?_)
  refine sw_seq ?_
  refine sw_region ?_
  refine ow_val (val_assign rfl) rfl ?_   -- 2
  refine ow_val (val_assign rfl) rfl ?_   -- 3
  refine ow_nil (into ?_)
  refine sw_seq ?_
  refine sw_seq ?_
  refine sw_region ?_
  refine ow_val (val_move rfl) rfl ?_   -- 4
  refine ow_val ((val_lss_int rfl rfl).to (congrArg Value.bool (decide_eq_false (by omega)))) rfl ?_   -- 5
  refine ow_val (val_move rfl) rfl ?_   -- 6
  refine ow_guard_yes rfl rfl rfl ?_
  refine ow_val (val_move rfl) rfl ?_   -- 7
  refine ow_guard_yes rfl rfl rfl ?_
  refine ow_val ((val_gtr_int rfl rfl).to (congrArg Value.bool (decide_eq_false (by omega)))) rfl ?_   -- 8
  refine ow_val (val_pick_false rfl rfl) rfl ?_   -- 9
  refine ow_nil (into ?_)
  refine sw_false rfl rfl ?_
  refine sw_skip (into ?_)
  refine sw_seq ?_
  refine sw_region ?_
  refine ow_val (val_move rfl) rfl ?_   -- 10
  refine ow_val (val_build' (cs := [Value.int .i32 0, Value.int .u32 0, vInt pl, .slice none 0 0, Value.bool false]) rfl (by kernel_rfl)) rfl ?_   -- 11
  refine ow_new (acts_box rfl) rfl (fun b12 hb12 => ?_)   -- 12
  refine ow_val (val_assign rfl) rfl ?_   -- 2
  refine ow_val (val_assign rfl) rfl ?_   -- 3
  refine ow_nil (into ?_)
  exact sw_ret (fun w hm => ret_two _ _ rfl rfl rfl ⟨b12, rfl, hm⟩)

theorem bNew_no (w : World) (pl : Int) (hw : ¬ (1 ≤ pl ∧ pl ≤ 64)) : Calls Try.prog 12 #[vInt pl] w fun e w' => ∃ v, e = .returned v ∧ v = .tuple #[.pointer none, vInt 1] ∧ Mem w [] [] w' := by
  refine calls_of_sw (vs := [vInt pl]) Try.func12 rfl Try.ntmps12 rfl (SW.begin ?_)
  refine sw_seq ?_
  refine sw_region ?_
  refine ow_val (val_assign rfl) rfl ?_   -- 2
  refine ow_val (val_assign rfl) rfl ?_   -- 3
  refine ow_nil (into ?_)
  refine sw_seq ?_
  refine sw_seq ?_
  refine sw_region ?_
  refine ow_val (val_move rfl) rfl ?_   -- 4
  by_cases hw1 : pl < 1
  · -- yes
    refine ow_val ((val_lss_int rfl rfl).to (congrArg Value.bool (decide_eq_true (by omega)))) rfl ?_   -- 5
    refine ow_val (val_move rfl) rfl ?_   -- 6
    first | refine ow_guard_no rfl rfl rfl rfl rfl ?_ | refine ow_guard_none rfl rfl rfl rfl rfl ?_
    first | refine ow_guard_no rfl rfl rfl rfl rfl ?_ | refine ow_guard_none rfl rfl rfl rfl rfl ?_
    refine ow_val (val_pick_true rfl rfl) rfl ?_   -- 9
    refine ow_nil (into ?_)
    refine sw_true rfl rfl ?_
    refine sw_seq ?_
    refine sw_region ?_
    refine ow_val (val_assign rfl) rfl ?_   -- 2
    refine ow_val (val_assign rfl) rfl ?_   -- 3
    refine ow_nil (into ?_)
    refine sw_ret (fun w hm => ?_)
    try dsimp only [thenP, blockP, Nat.beq, cond]
    exact ret_two _ _ rfl rfl rfl ⟨rfl, hm⟩
  · -- no
    refine ow_val ((val_lss_int rfl rfl).to (congrArg Value.bool (decide_eq_false (by omega)))) rfl ?_   -- 5
    refine ow_val (val_move rfl) rfl ?_   -- 6
    refine ow_guard_yes rfl rfl rfl ?_
    refine ow_val (val_move rfl) rfl ?_   -- 7
    by_cases hw2 : 64 < pl
    · -- yes
      refine ow_guard_yes rfl rfl rfl ?_
      refine ow_val ((val_gtr_int rfl rfl).to (congrArg Value.bool (decide_eq_true (by omega)))) rfl ?_   -- 8
      refine ow_val (val_pick_false rfl rfl) rfl ?_   -- 9
      refine ow_nil (into ?_)
      refine sw_true rfl rfl ?_
      refine sw_seq ?_
      refine sw_region ?_
      refine ow_val (val_assign rfl) rfl ?_   -- 2
      refine ow_val (val_assign rfl) rfl ?_   -- 3
      refine ow_nil (into ?_)
      refine sw_ret (fun w hm => ?_)
      try dsimp only [thenP, blockP, Nat.beq, cond]
      exact ret_two _ _ rfl rfl rfl ⟨rfl, hm⟩
    · exfalso; omega

theorem bNew_yes (w : World) (pl : Int) (hw : 1 ≤ pl ∧ pl ≤ 64) : Calls Try.prog 12 #[vInt pl] w fun en w' => ∃ v, en = .returned v ∧ ∃ b, v = .tuple #[.pointer (some ⟨b, 0, none⟩), vInt 0] ∧ Mem w [] [some (b, blk [Value.int .i32 0, Value.int .u32 0, vInt pl, .slice none 0 0, Value.bool false] 79)] w' := by
  refine calls_of_sw (vs := [vInt pl]) Try.func12 rfl Try.ntmps12 rfl (SW.begin ?_)
  refine sw_seq ?_
  refine sw_region ?_
  refine ow_val (val_assign rfl) rfl ?_   -- 2
  refine ow_val (val_assign rfl) rfl ?_   -- 3
  refine ow_nil (into ?_)
  refine sw_seq ?_
  refine sw_seq ?_
  refine sw_region ?_
  refine ow_val (val_move rfl) rfl ?_   -- 4
  refine ow_val ((val_lss_int rfl rfl).to (congrArg Value.bool (decide_eq_false (by omega)))) rfl ?_   -- 5
  refine ow_val (val_move rfl) rfl ?_   -- 6
  refine ow_guard_yes rfl rfl rfl ?_
  refine ow_val (val_move rfl) rfl ?_   -- 7
  refine ow_guard_yes rfl rfl rfl ?_
  refine ow_val ((val_gtr_int rfl rfl).to (congrArg Value.bool (decide_eq_false (by omega)))) rfl ?_   -- 8
  refine ow_val (val_pick_false rfl rfl) rfl ?_   -- 9
  refine ow_nil (into ?_)
  refine sw_false rfl rfl ?_
  refine sw_skip (into ?_)
  refine sw_seq ?_
  refine sw_region ?_
  refine ow_val (val_move rfl) rfl ?_   -- 10
  refine ow_val (val_build' (cs := [Value.int .i32 0, Value.int .u32 0, vInt pl, .slice none 0 0, Value.bool false]) rfl (by kernel_rfl)) rfl ?_   -- 11
  refine ow_new (acts_box rfl) rfl (fun b12 hb12 => ?_)   -- 12
  refine ow_val (val_assign rfl) rfl ?_   -- 2
  refine ow_val (val_assign rfl) rfl ?_   -- 3
  refine ow_nil (into ?_)
  exact sw_ret (fun w hm => ret_two _ _ rfl rfl rfl ⟨b12, rfl, hm⟩)

theorem rNew_no (w : World) (pl : Int) (hw : ¬ (1 ≤ pl ∧ pl ≤ 64)) : Calls Try.prog 10 #[vInt pl] w fun e w' => ∃ v, e = .returned v ∧ v = .tuple #[.pointer none, vInt 1] ∧ Mem w [] [] w' := by
  refine calls_of_sw (vs := [vInt pl]) Try.func10 rfl Try.ntmps10 rfl (SW.begin ?_)
  refine sw_seq ?_
  refine sw_region ?_
  refine ow_val (val_assign rfl) rfl ?_   -- 2
  refine ow_val (val_assign rfl) rfl ?_   -- 3
  refine ow_nil (into ?_)
  refine sw_seq ?_
  refine sw_seq ?_
  refine sw_region ?_
  refine ow_val (val_move rfl) rfl ?_   -- 4
  by_cases hw1 : pl < 1
  · -- yes
    refine ow_val ((val_lss_int rfl rfl).to (congrArg Value.bool (decide_eq_true (by omega)))) rfl ?_   -- 5
    refine ow_val (val_move rfl) rfl ?_   -- 6
    first | refine ow_guard_no rfl rfl rfl rfl rfl ?_ | refine ow_guard_none rfl rfl rfl rfl rfl ?_
    first | refine ow_guard_no rfl rfl rfl rfl rfl ?_ | refine ow_guard_none rfl rfl rfl rfl rfl ?_
    refine ow_val (val_pick_true rfl rfl) rfl ?_   -- 9
    refine ow_nil (into ?_)
    refine sw_true rfl rfl ?_
    refine sw_seq ?_
    refine sw_region ?_
    refine ow_val (val_assign rfl) rfl ?_   -- 2
    refine ow_val (val_assign rfl) rfl ?_   -- 3
    refine ow_nil (into ?_)
    refine sw_ret (fun w hm => ?_)
    try dsimp only [thenP, blockP, Nat.beq, cond]
    exact ret_two _ _ rfl rfl rfl ⟨rfl, hm⟩
  · -- no
    refine ow_val ((val_lss_int rfl rfl).to (congrArg Value.bool (decide_eq_false (by omega)))) rfl ?_   -- 5
    refine ow_val (val_move rfl) rfl ?_   -- 6
    refine ow_guard_yes rfl rfl rfl ?_
    refine ow_val (val_move rfl) rfl ?_   -- 7
    by_cases hw2 : 64 < pl
    · -- yes
      refine ow_guard_yes rfl rfl rfl ?_
      refine ow_val ((val_gtr_int rfl rfl).to (congrArg Value.bool (decide_eq_true (by omega)))) rfl ?_   -- 8
      refine ow_val (val_pick_false rfl rfl) rfl ?_   -- 9
      refine ow_nil (into ?_)
      refine sw_true rfl rfl ?_
      refine sw_seq ?_
      refine sw_region ?_
      refine ow_val (val_assign rfl) rfl ?_   -- 2
      refine ow_val (val_assign rfl) rfl ?_   -- 3
      refine ow_nil (into ?_)
      refine sw_ret (fun w hm => ?_)
      try dsimp only [thenP, blockP, Nat.beq, cond]
      exact ret_two _ _ rfl rfl rfl ⟨rfl, hm⟩
    · exfalso; omega

theorem rNew_yes (w : World) (pl : Int) (hw : 1 ≤ pl ∧ pl ≤ 64) : Calls Try.prog 10 #[vInt pl] w fun en w' => ∃ v, en = .returned v ∧ ∃ b, v = .tuple #[.pointer (some ⟨b, 0, none⟩), vInt 0] ∧ Mem w [] [some (b, blk [vInt pl, .slice none 0 0, Value.bool false] 72)] w' := by
  refine calls_of_sw (vs := [vInt pl]) Try.func10 rfl Try.ntmps10 rfl (SW.begin ?_)
  refine sw_seq ?_
  refine sw_region ?_
  refine ow_val (val_assign rfl) rfl ?_   -- 2
  refine ow_val (val_assign rfl) rfl ?_   -- 3
  refine ow_nil (into ?_)
  refine sw_seq ?_
  refine sw_seq ?_
  refine sw_region ?_
  refine ow_val (val_move rfl) rfl ?_   -- 4
  refine ow_val ((val_lss_int rfl rfl).to (congrArg Value.bool (decide_eq_false (by omega)))) rfl ?_   -- 5
  refine ow_val (val_move rfl) rfl ?_   -- 6
  refine ow_guard_yes rfl rfl rfl ?_
  refine ow_val (val_move rfl) rfl ?_   -- 7
  refine ow_guard_yes rfl rfl rfl ?_
  refine ow_val ((val_gtr_int rfl rfl).to (congrArg Value.bool (decide_eq_false (by omega)))) rfl ?_   -- 8
  refine ow_val (val_pick_false rfl rfl) rfl ?_   -- 9
  refine ow_nil (into ?_)
  refine sw_false rfl rfl ?_
  refine sw_skip (into ?_)
  refine sw_seq ?_
  refine sw_region ?_
  refine ow_val (val_move rfl) rfl ?_   -- 10
  refine ow_val (val_build' (cs := [vInt pl, .slice none 0 0, Value.bool false]) rfl (by kernel_rfl)) rfl ?_   -- 11
  refine ow_new (acts_box rfl) rfl (fun b12 hb12 => ?_)   -- 12
  refine ow_val (val_assign rfl) rfl ?_   -- 2
  refine ow_val (val_assign rfl) rfl ?_   -- 3
  refine ow_nil (into ?_)
  exact sw_ret (fun w hm => ret_two _ _ rfl rfl rfl ⟨b12, rfl, hm⟩)

theorem rPut_nil (v : Value) (w : World) : Calls Try.prog 31 #[.pointer none, v] w fun e w' => ∃ v, e = .returned v ∧ v = .tuple #[.bool false, vInt 5] ∧ Mem w [] [] w' := by
  refine calls_of_sw (vs := [.pointer none, v]) Try.func31 rfl Try.ntmps31 rfl (SW.begin ?_)
  refine sw_seq ?_
  refine sw_region ?_
  refine ow_val (val_assign rfl) rfl ?_   -- 4
  refine ow_val (val_assign rfl) rfl ?_   -- 5
  refine ow_nil (into ?_)
  refine sw_seq ?_
  refine sw_block ?_
  refine sw_seq ?_
  refine sw_region ?_
  refine ow_val (val_move rfl) rfl ?_   -- 7
  refine ow_val (val_eql_nilptr Try.underlying28 rfl rfl) rfl ?_   -- 8
  refine ow_val (val_assign rfl) rfl ?_   -- 6
  refine ow_nil (into ?_)
  refine sw_true rfl rfl ?_
  refine sw_seq ?_
  refine sw_region ?_
  refine ow_val (val_assign rfl) rfl ?_   -- 4
  refine ow_val (val_assign rfl) rfl ?_   -- 5
  refine ow_nil (into ?_)
  refine sw_ret (fun w hm => ?_)
  try dsimp only [thenP, blockP, Nat.beq, cond]
  exact ret_two _ _ rfl rfl rfl ⟨rfl, hm⟩

theorem rTake_nil (w : World) : Calls Try.prog 32 #[.pointer none] w fun e w' => ∃ v, e = .returned v ∧ v = .tuple #[vInt 0, .bool false] ∧ Mem w [] [] w' := by
  refine calls_of_sw (vs := [.pointer none]) Try.func32 rfl Try.ntmps32 rfl (SW.begin ?_)
  refine sw_seq ?_
  refine sw_region ?_
  refine ow_val (val_assign rfl) rfl ?_   -- 2
  refine ow_val (val_assign rfl) rfl ?_   -- 3
  refine ow_nil (into ?_)
  refine sw_seq ?_
  refine sw_seq ?_
  refine sw_region ?_
  refine ow_val (val_move rfl) rfl ?_   -- 5
  refine ow_val (val_eql_nilptr Try.underlying28 rfl rfl) rfl ?_   -- 6
  refine ow_val (val_move rfl) rfl ?_   -- 7
  first | refine ow_guard_no rfl rfl rfl rfl rfl ?_ | refine ow_guard_none rfl rfl rfl rfl rfl ?_
  first | refine ow_guard_no rfl rfl rfl rfl rfl ?_ | refine ow_guard_none rfl rfl rfl rfl rfl ?_
  first | refine ow_guard_no rfl rfl rfl rfl rfl ?_ | refine ow_guard_none rfl rfl rfl rfl rfl ?_
  first | refine ow_guard_no rfl rfl rfl rfl rfl ?_ | refine ow_guard_none rfl rfl rfl rfl rfl ?_
  first | refine ow_guard_no rfl rfl rfl rfl rfl ?_ | refine ow_guard_none rfl rfl rfl rfl rfl ?_
  first | refine ow_guard_no rfl rfl rfl rfl rfl ?_ | refine ow_guard_none rfl rfl rfl rfl rfl ?_
  refine ow_val (val_pick_true rfl rfl) rfl ?_   -- 14
  refine ow_nil (into ?_)
  refine sw_true rfl rfl ?_
  refine sw_seq ?_
  refine sw_region ?_
  refine ow_val (val_assign rfl) rfl ?_   -- 2
  refine ow_val (val_assign rfl) rfl ?_   -- 3
  refine ow_nil (into ?_)
  refine sw_ret (fun w hm => ?_)
  try dsimp only [thenP, blockP, Nat.beq, cond]
  exact ret_two _ _ rfl rfl rfl ⟨rfl, hm⟩

theorem rLen_nil (w : World) : Calls Try.prog 34 #[.pointer none] w fun e w' => ∃ v, e = .returned v ∧ v = vInt 0 ∧ Mem w [] [] w' := by
  refine calls_of_sw (vs := [.pointer none]) Try.func34 rfl Try.ntmps34 rfl (SW.begin ?_)
  refine sw_seq ?_
  refine sw_region ?_
  refine ow_val (val_assign rfl) rfl ?_   -- 2
  refine ow_nil (into ?_)
  refine sw_seq ?_
  refine sw_seq ?_
  refine sw_region ?_
  refine ow_val (val_move rfl) rfl ?_   -- 3
  refine ow_val (val_eql_nilptr Try.underlying28 rfl rfl) rfl ?_   -- 4
  refine ow_nil (into ?_)
  refine sw_true rfl rfl ?_
  refine sw_seq ?_
  refine sw_region ?_
  refine ow_val (val_assign rfl) rfl ?_   -- 2
  refine ow_nil (into ?_)
  refine sw_ret (fun w hm => ?_)
  try dsimp only [thenP, blockP, Nat.beq, cond]
  exact ret_one _ rfl rfl ⟨rfl, hm⟩

theorem rLine_nil (w : World) : Calls Try.prog 35 #[.pointer none] w fun e w' => ∃ v, e = .returned v ∧ v = vInt 0 ∧ Mem w [] [] w' := by
  refine calls_of_sw (vs := [.pointer none]) Try.func35 rfl Try.ntmps35 rfl (SW.begin ?_)
  refine sw_seq ?_
  refine sw_region ?_
  refine ow_val (val_assign rfl) rfl ?_   -- 2
  refine ow_nil (into ?_)
  refine sw_seq ?_
  refine sw_seq ?_
  refine sw_region ?_
  refine ow_val (val_move rfl) rfl ?_   -- 3
  refine ow_val (val_eql_nilptr Try.underlying28 rfl rfl) rfl ?_   -- 4
  refine ow_nil (into ?_)
  refine sw_true rfl rfl ?_
  refine sw_seq ?_
  refine sw_region ?_
  refine ow_val (val_assign rfl) rfl ?_   -- 2
  refine ow_nil (into ?_)
  refine sw_ret (fun w hm => ?_)
  try dsimp only [thenP, blockP, Nat.beq, cond]
  exact ret_one _ rfl rfl ⟨rfl, hm⟩

theorem rClose_nil (w : World) : Calls Try.prog 33 #[.pointer none] w fun e w' => ∃ v, e = .returned v ∧ v = vInt 5 ∧ Mem w [] [] w' := by
  refine calls_of_sw (vs := [.pointer none]) Try.func33 rfl Try.ntmps33 rfl (SW.begin ?_)
  refine sw_seq ?_
  refine sw_region ?_
  refine ow_val (val_assign rfl) rfl ?_   -- 2
  refine ow_nil (into ?_)
  refine sw_seq ?_
  refine sw_block ?_
  refine sw_seq ?_
  refine sw_region ?_
  refine ow_val (val_move rfl) rfl ?_   -- 4
  refine ow_val (val_eql_nilptr Try.underlying28 rfl rfl) rfl ?_   -- 5
  refine ow_val (val_assign rfl) rfl ?_   -- 3
  refine ow_nil (into ?_)
  refine sw_true rfl rfl ?_
  refine sw_seq ?_
  refine sw_region ?_
  refine ow_val (val_assign rfl) rfl ?_   -- 2
  refine ow_nil (into ?_)
  refine sw_ret (fun w hm => ?_)
  try dsimp only [thenP, blockP, Nat.beq, cond]
  exact ret_one _ rfl rfl ⟨rfl, hm⟩

theorem rClosed_nil (w : World) : Calls Try.prog 36 #[.pointer none] w fun e w' => ∃ v, e = .returned v ∧ v = .bool false ∧ Mem w [] [] w' := by
  refine calls_of_sw (vs := [.pointer none]) Try.func36 rfl Try.ntmps36 rfl (SW.begin ?_)
  refine sw_seq ?_
  refine sw_region ?_
  refine ow_val (val_assign rfl) rfl ?_   -- 2
  refine ow_nil (into ?_)
  refine sw_seq ?_
  refine sw_region ?_
  refine ow_val (val_move rfl) rfl ?_   -- 3
  refine ow_val (val_neq_nilptr Try.underlying28 rfl rfl) rfl ?_   -- 4
  refine ow_val (val_move rfl) rfl ?_   -- 5
  first | refine ow_guard_no rfl rfl rfl rfl rfl ?_ | refine ow_guard_none rfl rfl rfl rfl rfl ?_
  first | refine ow_guard_no rfl rfl rfl rfl rfl ?_ | refine ow_guard_none rfl rfl rfl rfl rfl ?_
  first | refine ow_guard_no rfl rfl rfl rfl rfl ?_ | refine ow_guard_none rfl rfl rfl rfl rfl ?_
  first | refine ow_guard_no rfl rfl rfl rfl rfl ?_ | refine ow_guard_none rfl rfl rfl rfl rfl ?_
  refine ow_val (val_pick_false rfl rfl) rfl ?_   -- 10
  refine ow_val (val_assign rfl) rfl ?_   -- 2
  refine ow_nil (into ?_)
  exact sw_ret (fun w hm => ret_one _ rfl rfl ⟨rfl, hm⟩)

theorem rLen_any (w : World) (cl : Bool) (b : Nat) (a : Option Addr) (c : Nat) (xs : List Value) (e : Ent) (pl : Int) (hpl : 1 ≤ pl ∧ pl ≤ 64) (hrow : RowO (.slice a xs.length c) 3 xs e) (hle : xs.length < 9223372036854775807) (hm0 : Mem w (b :: keys [e]) [some (b, blk [vInt pl, .slice a xs.length c, Value.bool cl] 72), e] w) : Calls Try.prog 34 #[.pointer (some ⟨b, 0, none⟩)] w fun en w' => ∃ u, en = .returned u ∧ u = vInt (min (xs.length : Int) pl) ∧ Mem w (b :: keys [e]) [some (b, blk [vInt pl, .slice a xs.length c, Value.bool cl] 72), e] w' := by
  refine calls_of_sw (vs := [.pointer (some ⟨b, 0, none⟩)]) Try.func34 rfl Try.ntmps34 rfl (SW.beginM hm0 ?_)
  refine sw_seq ?_
  refine sw_region ?_
  refine ow_val (val_assign rfl) rfl ?_   -- 2
  refine ow_nil (into ?_)
  refine sw_seq ?_
  refine sw_seq ?_
  refine sw_region ?_
  refine ow_val (val_move rfl) rfl ?_   -- 3
  refine ow_val (val_eql_nilptr Try.underlying28 rfl rfl) rfl ?_   -- 4
  refine ow_nil (into ?_)
  refine sw_false rfl rfl ?_
  refine sw_skip (into ?_)
  refine sw_seq ?_
  refine sw_region_lex _ [] [(0, 0), (1, 0), (2, 0), (5, 0), (6, 0), (7, 0), (3, 1), (4, 0), (8, 1), (9, 0), (10, 0)] (by kernel_rfl) (by kernel_rfl) (fun _ _ _ h => h) (fun _ h => h) (fun _ h => h.drawn _) ?_
  refine lw_pure rfl (val_move rfl) rfl ?_   -- 5
  refine lw_pure rfl (val_nilCheck rfl) rfl ?_   -- 6
  refine lw_pure rfl (val_fieldAddr (m := 0) (e := 1) rfl Try.underlying72 rfl rfl Try.sizeOf68 rfl) rfl ?_   -- 7
  refine lw_pure rfl (val_move rfl) rfl ?_   -- 10
  refine lw_pure rfl (val_nilCheck rfl) rfl ?_   -- 11
  refine lw_pure rfl (val_fieldAddr (m := 0) (e := 0) rfl Try.underlying72 rfl rfl Try.sizeOf3 rfl) rfl ?_   -- 12
  refine lw_held rfl (val_load_at 0 rfl rfl Try.isAgg68 rfl) rfl ?_   -- 8
  refine lw_pure rfl (val_len rfl Try.underlying68) rfl ?_   -- 9
  refine lw_held rfl (val_load_at 0 rfl rfl Try.isAgg3 rfl) rfl ?_   -- 13
  refine lw_pure rfl (val_min rfl rfl) rfl ?_   -- 14
  refine lw_pure rfl (val_assign rfl) rfl ?_   -- 2
  refine lw_nil (into ?_)
  exact sw_ret (fun w hm => ret_one _ rfl rfl ⟨rfl, hm⟩)

theorem rLine_any (w : World) (cl : Bool) (b : Nat) (a : Option Addr) (c : Nat) (xs : List Value) (e : Ent) (pl : Int) (hpl : 1 ≤ pl ∧ pl ≤ 64) (hrow : RowO (.slice a xs.length c) 3 xs e) (hle : xs.length < 9223372036854775807) (hm0 : Mem w (b :: keys [e]) [some (b, blk [vInt pl, .slice a xs.length c, Value.bool cl] 72), e] w) : Calls Try.prog 35 #[.pointer (some ⟨b, 0, none⟩)] w fun en w' => ∃ u, en = .returned u ∧ u = vInt (max 0 ((xs.length : Int) - pl)) ∧ Mem w (b :: keys [e]) [some (b, blk [vInt pl, .slice a xs.length c, Value.bool cl] 72), e] w' := by
  refine calls_of_sw (vs := [.pointer (some ⟨b, 0, none⟩)]) Try.func35 rfl Try.ntmps35 rfl (SW.beginM hm0 ?_)
  refine sw_seq ?_
  refine sw_region ?_
  refine ow_val (val_assign rfl) rfl ?_   -- 2
  refine ow_nil (into ?_)
  refine sw_seq ?_
  refine sw_seq ?_
  refine sw_region ?_
  refine ow_val (val_move rfl) rfl ?_   -- 3
  refine ow_val (val_eql_nilptr Try.underlying28 rfl rfl) rfl ?_   -- 4
  refine ow_nil (into ?_)
  refine sw_false rfl rfl ?_
  refine sw_skip (into ?_)
  refine sw_seq ?_
  refine sw_region_lex _ [] [(0, 0), (1, 0), (2, 0), (5, 0), (6, 0), (7, 0), (3, 1), (4, 0), (8, 1), (9, 0), (10, 0), (11, 0)] (by kernel_rfl) (by kernel_rfl) (fun _ _ _ h => h) (fun _ h => h) (fun _ h => h.drawn _) ?_
  refine lw_pure rfl (val_move rfl) rfl ?_   -- 5
  refine lw_pure rfl (val_nilCheck rfl) rfl ?_   -- 6
  refine lw_pure rfl (val_fieldAddr (m := 0) (e := 1) rfl Try.underlying72 rfl rfl Try.sizeOf68 rfl) rfl ?_   -- 7
  refine lw_pure rfl (val_move rfl) rfl ?_   -- 10
  refine lw_pure rfl (val_nilCheck rfl) rfl ?_   -- 11
  refine lw_pure rfl (val_fieldAddr (m := 0) (e := 0) rfl Try.underlying72 rfl rfl Try.sizeOf3 rfl) rfl ?_   -- 12
  refine lw_held rfl (val_load_at 0 rfl rfl Try.isAgg68 rfl) rfl ?_   -- 8
  refine lw_pure rfl (val_len rfl Try.underlying68) rfl ?_   -- 9
  refine lw_held rfl (val_load_at 0 rfl rfl Try.isAgg3 rfl) rfl ?_   -- 13
  refine lw_pure rfl (val_sub_int ((xs.length : Int) - pl) rfl rfl rfl (by omega)) rfl ?_   -- 14
  refine lw_pure rfl (val_max rfl rfl) rfl ?_   -- 15
  refine lw_pure rfl (val_assign rfl) rfl ?_   -- 2
  refine lw_nil (into ?_)
  exact sw_ret (fun w hm => ret_one _ rfl rfl ⟨rfl, hm⟩)

theorem rClosed_any (w : World) (cl : Bool) (b : Nat) (a : Option Addr) (c : Nat) (xs : List Value) (e : Ent) (pl : Int) (hpl : 1 ≤ pl ∧ pl ≤ 64) (hrow : RowO (.slice a xs.length c) 3 xs e) (hle : xs.length < 9223372036854775807) (hm0 : Mem w (b :: keys [e]) [some (b, blk [vInt pl, .slice a xs.length c, Value.bool cl] 72), e] w) : Calls Try.prog 36 #[.pointer (some ⟨b, 0, none⟩)] w fun en w' => ∃ u, en = .returned u ∧ u = .bool cl ∧ Mem w (b :: keys [e]) [some (b, blk [vInt pl, .slice a xs.length c, Value.bool cl] 72), e] w' := by
  refine calls_of_sw (vs := [.pointer (some ⟨b, 0, none⟩)]) Try.func36 rfl Try.ntmps36 rfl (SW.beginM hm0 ?_)
  refine sw_seq ?_
  refine sw_region ?_
  refine ow_val (val_assign rfl) rfl ?_   -- 2
  refine ow_nil (into ?_)
  refine sw_seq ?_
  refine sw_region ?_
  refine ow_val (val_move rfl) rfl ?_   -- 3
  refine ow_val (val_neq_nilptr Try.underlying28 rfl rfl) rfl ?_   -- 4
  refine ow_val (val_move rfl) rfl ?_   -- 5
  refine ow_guard_yes rfl rfl rfl ?_
  refine ow_val (val_move rfl) rfl ?_   -- 6
  refine ow_guard_yes rfl rfl rfl ?_
  refine ow_val (val_nilCheck rfl) rfl ?_   -- 7
  refine ow_guard_yes rfl rfl rfl ?_
  refine ow_val (val_fieldAddr (m := 0) (e := 2) rfl Try.underlying72 rfl rfl Try.sizeOf4 rfl) rfl ?_   -- 8
  refine ow_guard_yes rfl rfl rfl ?_
  refine ow_val (val_load_at 0 rfl rfl Try.isAgg4 rfl) rfl ?_   -- 9
  refine ow_val (val_pick_true rfl rfl) rfl ?_   -- 10
  refine ow_val (val_assign rfl) rfl ?_   -- 2
  refine ow_nil (into ?_)
  exact sw_ret (fun w hm => ret_one _ rfl rfl ⟨rfl, hm⟩)

theorem rClose_yes (w : World) (b : Nat) (a : Option Addr) (c : Nat) (xs : List Value) (e : Ent) (pl : Int) (hpl : 1 ≤ pl ∧ pl ≤ 64) (hrow : RowO (.slice a xs.length c) 3 xs e) (hle : xs.length < 9223372036854775807) (hm0 : Mem w (b :: keys [e]) [some (b, blk [vInt pl, .slice a xs.length c, Value.bool true] 72), e] w) : Calls Try.prog 33 #[.pointer (some ⟨b, 0, none⟩)] w fun en w' => ∃ u, en = .returned u ∧ u = vInt 9 ∧ Mem w (b :: keys [e]) [some (b, blk [vInt pl, .slice a xs.length c, Value.bool true] 72), e] w' := by
  refine calls_of_sw (vs := [.pointer (some ⟨b, 0, none⟩)]) Try.func33 rfl Try.ntmps33 rfl (SW.beginM hm0 ?_)
  refine sw_seq ?_
  refine sw_region ?_
  refine ow_val (val_assign rfl) rfl ?_   -- 2
  refine ow_nil (into ?_)
  refine sw_seq ?_
  refine sw_block ?_
  refine sw_seq ?_
  refine sw_region ?_
  refine ow_val (val_move rfl) rfl ?_   -- 4
  refine ow_val (val_eql_nilptr Try.underlying28 rfl rfl) rfl ?_   -- 5
  refine ow_val (val_assign rfl) rfl ?_   -- 3
  refine ow_nil (into ?_)
  refine sw_false rfl rfl ?_
  refine sw_seq ?_
  refine sw_region ?_
  refine ow_val (val_move rfl) rfl ?_   -- 7
  refine ow_val (val_nilCheck rfl) rfl ?_   -- 8
  refine ow_val (val_fieldAddr (m := 0) (e := 2) rfl Try.underlying72 rfl rfl Try.sizeOf4 rfl) rfl ?_   -- 9
  refine ow_val (val_load_at 0 rfl rfl Try.isAgg4 rfl) rfl ?_   -- 10
  refine ow_val (val_assign rfl) rfl ?_   -- 6
  refine ow_nil (into ?_)
  refine sw_true rfl rfl ?_
  refine sw_seq ?_
  refine sw_region ?_
  refine ow_val (val_assign rfl) rfl ?_   -- 2
  refine ow_nil (into ?_)
  refine sw_ret (fun w hm => ?_)
  try dsimp only [thenP, blockP, Nat.beq, cond]
  exact ret_one _ rfl rfl ⟨rfl, hm⟩

theorem rClose_no (w : World) (b : Nat) (a : Option Addr) (c : Nat) (xs : List Value) (e : Ent) (pl : Int) (hpl : 1 ≤ pl ∧ pl ≤ 64) (hrow : RowO (.slice a xs.length c) 3 xs e) (hle : xs.length < 9223372036854775807) (hm0 : Mem w (b :: keys [e]) [some (b, blk [vInt pl, .slice a xs.length c, Value.bool false] 72), e] w) : Calls Try.prog 33 #[.pointer (some ⟨b, 0, none⟩)] w fun en w' => ∃ u, en = .returned u ∧ u = vInt 0 ∧ Mem w (b :: keys [e]) [some (b, blk [vInt pl, .slice a xs.length c, Value.bool true] 72), e] w' := by
  refine calls_of_sw (vs := [.pointer (some ⟨b, 0, none⟩)]) Try.func33 rfl Try.ntmps33 rfl (SW.beginM hm0 ?_)
  refine sw_seq ?_
  refine sw_region ?_
  refine ow_val (val_assign rfl) rfl ?_   -- 2
  refine ow_nil (into ?_)
  refine sw_seq ?_
  refine sw_block ?_
  refine sw_seq ?_
  refine sw_region ?_
  refine ow_val (val_move rfl) rfl ?_   -- 4
  refine ow_val (val_eql_nilptr Try.underlying28 rfl rfl) rfl ?_   -- 5
  refine ow_val (val_assign rfl) rfl ?_   -- 3
  refine ow_nil (into ?_)
  refine sw_false rfl rfl ?_
  refine sw_seq ?_
  refine sw_region ?_
  refine ow_val (val_move rfl) rfl ?_   -- 7
  refine ow_val (val_nilCheck rfl) rfl ?_   -- 8
  refine ow_val (val_fieldAddr (m := 0) (e := 2) rfl Try.underlying72 rfl rfl Try.sizeOf4 rfl) rfl ?_   -- 9
  refine ow_val (val_load_at 0 rfl rfl Try.isAgg4 rfl) rfl ?_   -- 10
  refine ow_val (val_assign rfl) rfl ?_   -- 6
  refine ow_nil (into ?_)
  refine sw_false rfl rfl ?_
  refine sw_skip (into ?_)
  refine sw_seq ?_
  refine sw_region ?_
  refine ow_val (val_move rfl) rfl ?_   -- 11
  refine ow_val (val_nilCheck rfl) rfl ?_   -- 12
  refine ow_val (val_fieldAddr (m := 0) (e := 2) rfl Try.underlying72 rfl rfl Try.sizeOf4 rfl) rfl ?_   -- 13
  refine ow_do (does_store 0 rfl rfl rfl rfl Try.sizeOf4 (by simp; try omega)) (fun _ _ => ?_)
  refine ow_nil (into ?_)
  refine sw_seq ?_
  refine sw_region ?_
  refine ow_val (val_assign rfl) rfl ?_   -- 2
  refine ow_nil (into ?_)
  exact sw_ret (fun w hm => ret_one _ rfl rfl ⟨rfl, hm⟩)

theorem rPut_shut (w : World) (b : Nat) (a : Option Addr) (c : Nat) (xs : List Value) (e : Ent) (pl : Int) (hpl : 1 ≤ pl ∧ pl ≤ 64) (hrow : RowO (.slice a xs.length c) 3 xs e) (hle : xs.length < 9223372036854775807) (hm0 : Mem w (b :: keys [e]) [some (b, blk [vInt pl, .slice a xs.length c, Value.bool true] 72), e] w) (z : Int) : Calls Try.prog 31 #[.pointer (some ⟨b, 0, none⟩), vInt z] w fun en w' => ∃ u, en = .returned u ∧ ∃ s : Option Addr × Nat × Ent, u = .tuple #[.bool false, vInt 9] ∧ RowO (.slice s.1 (xs).length s.2.1) 3 (xs) s.2.2 ∧ Mem w (b :: keys [e]) [some (b, blk [vInt pl, .slice s.1 (xs).length s.2.1, Value.bool true] 72), s.2.2] w' := by
  refine calls_of_sw (vs := [.pointer (some ⟨b, 0, none⟩), vInt z]) Try.func31 rfl Try.ntmps31 rfl (SW.beginM hm0 ?_)
  refine sw_seq ?_
  refine sw_region ?_
  refine ow_val (val_assign rfl) rfl ?_   -- 4
  refine ow_val (val_assign rfl) rfl ?_   -- 5
  refine ow_nil (into ?_)
  refine sw_seq ?_
  refine sw_block ?_
  refine sw_seq ?_
  refine sw_region ?_
  refine ow_val (val_move rfl) rfl ?_   -- 7
  refine ow_val (val_eql_nilptr Try.underlying28 rfl rfl) rfl ?_   -- 8
  refine ow_val (val_assign rfl) rfl ?_   -- 6
  refine ow_nil (into ?_)
  refine sw_false rfl rfl ?_
  refine sw_seq ?_
  refine sw_region ?_
  refine ow_val (val_move rfl) rfl ?_   -- 10
  refine ow_val (val_nilCheck rfl) rfl ?_   -- 11
  refine ow_val (val_fieldAddr (m := 0) (e := 2) rfl Try.underlying72 rfl rfl Try.sizeOf4 rfl) rfl ?_   -- 12
  refine ow_val (val_load_at 0 rfl rfl Try.isAgg4 rfl) rfl ?_   -- 13
  refine ow_val (val_assign rfl) rfl ?_   -- 9
  refine ow_nil (into ?_)
  refine sw_true rfl rfl ?_
  refine sw_seq ?_
  refine sw_region ?_
  refine ow_val (val_assign rfl) rfl ?_   -- 4
  refine ow_val (val_assign rfl) rfl ?_   -- 5
  refine ow_nil (into ?_)
  refine sw_ret (fun w hm => ?_)
  try dsimp only [thenP, blockP, Nat.beq, cond]
  exact ret_two _ _ rfl rfl rfl ⟨(a, c, e), rfl, hrow, hm⟩

theorem rPut_open (w : World) (b : Nat) (a : Option Addr) (c : Nat) (xs : List Value) (e : Ent) (pl : Int) (hpl : 1 ≤ pl ∧ pl ≤ 64) (hrow : RowO (.slice a xs.length c) 3 xs e) (hle : xs.length < 9223372036854775807) (hm0 : Mem w (b :: keys [e]) [some (b, blk [vInt pl, .slice a xs.length c, Value.bool false] 72), e] w) (z : Int) (hbig : (xs.length + 1) * 8 ≤ 140737488355328) : Calls Try.prog 31 #[.pointer (some ⟨b, 0, none⟩), vInt z] w fun en w' => ∃ u, en = .returned u ∧ ∃ s : Option Addr × Nat × Ent, u = .tuple #[.bool (decide ((xs.length : Int) < pl)), vInt 0] ∧ RowO (.slice s.1 (xs ++ [(vInt z)]).length s.2.1) 3 (xs ++ [(vInt z)]) s.2.2 ∧ Mem w (b :: keys [e]) [some (b, blk [vInt pl, .slice s.1 (xs ++ [(vInt z)]).length s.2.1, Value.bool false] 72), s.2.2] w' := by
  obtain ⟨tiD, hDi, hDz, hDsz, hDby⟩ := info_parts iInt
  refine calls_of_sw (vs := [.pointer (some ⟨b, 0, none⟩), vInt z]) Try.func31 rfl Try.ntmps31 rfl (SW.beginM hm0 ?_)
  refine sw_seq ?_
  refine sw_region ?_
  refine ow_val (val_assign rfl) rfl ?_   -- 4
  refine ow_val (val_assign rfl) rfl ?_   -- 5
  refine ow_nil (into ?_)
  refine sw_seq ?_
  refine sw_block ?_
  refine sw_seq ?_
  refine sw_region ?_
  refine ow_val (val_move rfl) rfl ?_   -- 7
  refine ow_val (val_eql_nilptr Try.underlying28 rfl rfl) rfl ?_   -- 8
  refine ow_val (val_assign rfl) rfl ?_   -- 6
  refine ow_nil (into ?_)
  refine sw_false rfl rfl ?_
  refine sw_seq ?_
  refine sw_region ?_
  refine ow_val (val_move rfl) rfl ?_   -- 10
  refine ow_val (val_nilCheck rfl) rfl ?_   -- 11
  refine ow_val (val_fieldAddr (m := 0) (e := 2) rfl Try.underlying72 rfl rfl Try.sizeOf4 rfl) rfl ?_   -- 12
  refine ow_val (val_load_at 0 rfl rfl Try.isAgg4 rfl) rfl ?_   -- 13
  refine ow_val (val_assign rfl) rfl ?_   -- 9
  refine ow_nil (into ?_)
  refine sw_false rfl rfl ?_
  refine sw_skip (into ?_)
  refine sw_seq ?_
  refine sw_region ?_
  refine ow_val (val_move rfl) rfl ?_   -- 14
  refine ow_val (val_move rfl) rfl ?_   -- 15
  refine ow_val (val_nilCheck rfl) rfl ?_   -- 16
  refine ow_val (val_fieldAddr (m := 0) (e := 1) rfl Try.underlying72 rfl rfl Try.sizeOf68 rfl) rfl ?_   -- 17
  refine ow_val (val_load_at 0 rfl rfl Try.isAgg68 rfl) rfl ?_   -- 18
  refine ow_val (val_move rfl) rfl ?_   -- 19
  refine ow_make (acts_buildSlice (cs := [vInt z]) Try.underlying68 Try.sizeOf3 Try.zeroValue3 rfl rfl (by kernel_rfl)) rfl (fun b20 hb20 => ?_)   -- 20
  refine ow_append_o (xs := xs ++ [(vInt z)]) (acts_append_o 2 rfl rfl rfl hrow rfl Try.underlying68 hDi hDz hDsz hDby rfl (by decide) (fun w hm => Rd.blk (hm.at (i := 0) rfl)) rfl (fun u hu => by rw [List.mem_singleton.1 hu]; rfl) (by omega) (by omega)) rfl (fun a21 c21 e21 hr21 => ?_)   -- 21
  refine ow_val (val_nilCheck rfl) rfl ?_   -- 22
  refine ow_val (val_fieldAddr (m := 0) (e := 1) rfl Try.underlying72 rfl rfl Try.sizeOf68 rfl) rfl ?_   -- 23
  refine ow_do (does_store 1 rfl rfl rfl rfl Try.sizeOf68 (by simp; try omega)) (fun _ _ => ?_)
  refine ow_nil (into ?_)
  refine sw_seq ?_
  refine sw_region_lex _ [] [(0, 0), (1, 0), (2, 0), (5, 0), (6, 0), (7, 0), (3, 1), (4, 0), (8, 1), (9, 0), (10, 0), (11, 0)] (by kernel_rfl) (by kernel_rfl) (fun _ _ _ h => h) (fun _ h => h) (fun _ h => h.drawn _) ?_
  refine lw_pure rfl (val_move rfl) rfl ?_   -- 24
  refine lw_pure rfl (val_nilCheck rfl) rfl ?_   -- 25
  refine lw_pure rfl (val_fieldAddr (m := 0) (e := 1) rfl Try.underlying72 rfl rfl Try.sizeOf68 rfl) rfl ?_   -- 26
  refine lw_pure rfl (val_move rfl) rfl ?_   -- 29
  refine lw_pure rfl (val_nilCheck rfl) rfl ?_   -- 30
  refine lw_pure rfl (val_fieldAddr (m := 0) (e := 0) rfl Try.underlying72 rfl rfl Try.sizeOf3 rfl) rfl ?_   -- 31
  refine lw_held rfl (val_load_at 1 rfl rfl Try.isAgg68 rfl) rfl ?_   -- 27
  refine lw_pure rfl (val_len rfl Try.underlying68) rfl ?_   -- 28
  refine lw_held rfl (val_load_at 1 rfl rfl Try.isAgg3 rfl) rfl ?_   -- 32
  refine lw_pure rfl ((val_leq_int rfl rfl).to (v' := .bool (decide ((xs.length : Int) < pl))) (congrArg Value.bool (decide_eq_decide.2 (by simp only [List.length_append, List.length_cons, List.length_nil]; omega)))) rfl ?_   -- 33
  refine lw_pure rfl (val_assign rfl) rfl ?_   -- 4
  refine lw_pure rfl (val_assign rfl) rfl ?_   -- 5
  refine lw_nil (into ?_)
  exact sw_ret (fun w hm => ret_two _ _ rfl rfl rfl ⟨(a21, c21, e21), rfl, hr21, hm.only (.cons _ (List.Sublist.refl _))⟩)

theorem rTake_none (w : World) (cl : Bool) (b : Nat) (a : Option Addr) (c : Nat) (xs : List Value) (e : Ent) (pl : Int) (hpl : 1 ≤ pl ∧ pl ≤ 64) (hrow : RowO (.slice a xs.length c) 3 xs e) (hle : xs.length < 9223372036854775807) (hm0 : Mem w (b :: keys [e]) [some (b, blk [vInt pl, .slice a xs.length c, Value.bool cl] 72), e] w) (hx : xs = []) : Calls Try.prog 32 #[.pointer (some ⟨b, 0, none⟩)] w fun en w' => ∃ u, en = .returned u ∧ u = .tuple #[vInt 0, .bool false] ∧ Mem w (b :: keys [e]) [some (b, blk [vInt pl, .slice a xs.length c, Value.bool cl] 72), e] w' := by
  refine calls_of_sw (vs := [.pointer (some ⟨b, 0, none⟩)]) Try.func32 rfl Try.ntmps32 rfl (SW.beginM hm0 ?_)
  refine sw_seq ?_
  refine sw_region ?_
  refine ow_val (val_assign rfl) rfl ?_   -- 2
  refine ow_val (val_assign rfl) rfl ?_   -- 3
  refine ow_nil (into ?_)
  refine sw_seq ?_
  refine sw_seq ?_
  refine sw_region ?_
  refine ow_val (val_move rfl) rfl ?_   -- 5
  refine ow_val (val_eql_nilptr Try.underlying28 rfl rfl) rfl ?_   -- 6
  refine ow_val (val_move rfl) rfl ?_   -- 7
  refine ow_guard_yes rfl rfl rfl ?_
  refine ow_val (val_move rfl) rfl ?_   -- 8
  refine ow_guard_yes rfl rfl rfl ?_
  refine ow_val (val_nilCheck rfl) rfl ?_   -- 9
  refine ow_guard_yes rfl rfl rfl ?_
  refine ow_val (val_fieldAddr (m := 0) (e := 1) rfl Try.underlying72 rfl rfl Try.sizeOf68 rfl) rfl ?_   -- 10
  refine ow_guard_yes rfl rfl rfl ?_
  refine ow_val (val_load_at 0 rfl rfl Try.isAgg68 rfl) rfl ?_   -- 11
  refine ow_guard_yes rfl rfl rfl ?_
  refine ow_val (val_len rfl Try.underlying68) rfl ?_   -- 12
  refine ow_guard_yes rfl rfl rfl ?_
  refine ow_val ((val_eql_int rfl rfl).to (congrArg Value.bool (decide_eq_true ((by rw [hx]; rfl))))) rfl ?_   -- 13
  refine ow_val (val_pick_false rfl rfl) rfl ?_   -- 14
  refine ow_nil (into ?_)
  refine sw_true rfl rfl ?_
  refine sw_seq ?_
  refine sw_region ?_
  refine ow_val (val_assign rfl) rfl ?_   -- 2
  refine ow_val (val_assign rfl) rfl ?_   -- 3
  refine ow_nil (into ?_)
  refine sw_ret (fun w hm => ?_)
  try dsimp only [thenP, blockP, Nat.beq, cond]
  exact ret_two _ _ rfl rfl rfl ⟨rfl, hm⟩

theorem rTake_some (w : World) (cl : Bool) (b : Nat) (a : Option Addr) (c : Nat) (x : Value) (r : List Value) (e : Ent) (pl : Int) (hpl : 1 ≤ pl ∧ pl ≤ 64) (hrow : RowO (.slice a (x :: r).length c) 3 (x :: r) e) (hle : (x :: r).length < 9223372036854775807) (hm0 : Mem w (b :: keys [e]) [some (b, blk [vInt pl, .slice a (x :: r).length c, Value.bool cl] 72), e] w) : Calls Try.prog 32 #[.pointer (some ⟨b, 0, none⟩)] w fun en w' => ∃ u, en = .returned u ∧ ∃ s : Option Addr × Nat × Ent, u = .tuple #[x, .bool true] ∧ RowO (.slice s.1 r.length s.2.1) 3 r s.2.2 ∧ Mem w (b :: keys [e]) [some (b, blk [vInt pl, .slice s.1 r.length s.2.1, Value.bool cl] 72), s.2.2] w' := by
  obtain ⟨b2, pre, rest, rfl, -, hc, hcm, hcr, rfl⟩ := hrow.blk (by simp)
  simp only [List.length_cons] at hc hcr
  refine calls_of_sw (vs := [.pointer (some ⟨b, 0, none⟩)]) Try.func32 rfl Try.ntmps32 rfl (SW.beginM hm0 ?_)
  refine sw_seq ?_
  refine sw_region ?_
  refine ow_val (val_assign rfl) rfl ?_   -- 2
  refine ow_val (val_assign rfl) rfl ?_   -- 3
  refine ow_nil (into ?_)
  refine sw_seq ?_
  refine sw_seq ?_
  refine sw_region ?_
  refine ow_val (val_move rfl) rfl ?_   -- 5
  refine ow_val (val_eql_nilptr Try.underlying28 rfl rfl) rfl ?_   -- 6
  refine ow_val (val_move rfl) rfl ?_   -- 7
  refine ow_guard_yes rfl rfl rfl ?_
  refine ow_val (val_move rfl) rfl ?_   -- 8
  refine ow_guard_yes rfl rfl rfl ?_
  refine ow_val (val_nilCheck rfl) rfl ?_   -- 9
  refine ow_guard_yes rfl rfl rfl ?_
  refine ow_val (val_fieldAddr (m := 0) (e := 1) rfl Try.underlying72 rfl rfl Try.sizeOf68 rfl) rfl ?_   -- 10
  refine ow_guard_yes rfl rfl rfl ?_
  refine ow_val (val_load_at 0 rfl rfl Try.isAgg68 rfl) rfl ?_   -- 11
  refine ow_guard_yes rfl rfl rfl ?_
  refine ow_val (val_len rfl Try.underlying68) rfl ?_   -- 12
  refine ow_guard_yes rfl rfl rfl ?_
  refine ow_val ((val_eql_int rfl rfl).to (congrArg Value.bool (decide_eq_false ((by simp only [List.length_cons]; omega))))) rfl ?_   -- 13
  refine ow_val (val_pick_false rfl rfl) rfl ?_   -- 14
  refine ow_nil (into ?_)
  refine sw_false rfl rfl ?_
  refine sw_skip (into ?_)
  refine sw_seq ?_
  refine sw_region ?_
  refine ow_val (val_move rfl) rfl ?_   -- 15
  refine ow_val (val_nilCheck rfl) rfl ?_   -- 16
  refine ow_val (val_fieldAddr (m := 0) (e := 1) rfl Try.underlying72 rfl rfl Try.sizeOf68 rfl) rfl ?_   -- 17
  refine ow_val (val_load_at 0 rfl rfl Try.isAgg68 rfl) rfl ?_   -- 18
  refine ow_val (val_indexAddr_slice 0 pre.length rfl rfl Try.underlying68 Try.sizeOf3 rfl (by simp) (by omega)) rfl ?_   -- 19
  refine ow_val (val_load_at 1 rfl rfl Try.isAgg3 qget) rfl ?_   -- 20
  refine ow_val (val_assign rfl) rfl ?_   -- 4
  refine ow_nil (into ?_)
  refine sw_seq ?_
  refine sw_region ?_
  refine ow_val (val_move rfl) rfl ?_   -- 21
  refine ow_val (val_move rfl) rfl ?_   -- 22
  refine ow_val (val_nilCheck rfl) rfl ?_   -- 23
  refine ow_val (val_fieldAddr (m := 0) (e := 1) rfl Try.underlying72 rfl rfl Try.sizeOf68 rfl) rfl ?_   -- 24
  refine ow_val (val_load_at 0 rfl rfl Try.isAgg68 rfl) rfl ?_   -- 25
  refine ow_val (val_slice_lo 1 rfl rfl Try.underlying68 Try.sizeOf3 rfl (by simp) (by simpa using hc)) rfl ?_   -- 26
  refine ow_val (val_nilCheck rfl) rfl ?_   -- 27
  refine ow_val (val_fieldAddr (m := 0) (e := 1) rfl Try.underlying72 rfl rfl Try.sizeOf68 rfl) rfl ?_   -- 28
  refine ow_do (does_store 0 rfl rfl rfl rfl Try.sizeOf68 (by simp; try omega)) (fun _ _ => ?_)
  refine ow_nil (into ?_)
  refine sw_seq ?_
  refine sw_region ?_
  refine ow_val (val_move rfl) rfl ?_   -- 29
  refine ow_val (val_assign rfl) rfl ?_   -- 2
  refine ow_val (val_assign rfl) rfl ?_   -- 3
  refine ow_nil (into ?_)
  exact sw_ret (fun w hm => ret_two _ _ rfl rfl rfl ⟨(_, _, _), rfl, RowO.pop rfl hc hcm hcr, hm⟩)
end Go.Proofs.Ytigogbodobifdaa
