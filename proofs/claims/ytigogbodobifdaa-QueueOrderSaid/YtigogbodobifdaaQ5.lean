import Derived.Test.YtigogbodobifdaaQ4
import Derived.Test.YtigogbodobifdaaProg
set_option linter.unusedVariables false
set_option linter.unusedSimpArgs false
namespace Go.Proofs.Ytigogbodobifdaa
open Go.Sx
theorem _root_.Go.Sx.Mem.place2 {w0 w : World} {x y : Ent} (h : Mem w0 [] [x, y] w) : Mem w0 [] [x, none, y, none] w := h.place.perm (l' := [x, none, y, none]) |> fun _ => by
  have h2 : Mem w0 [] [none, none, x, y] w := h.place.place
  exact h2.perm (by
    refine (List.Perm.trans ?_ (List.Perm.swap _ _ _)) <;> skip
    exact .trans (.swap _ _ _) (.cons _ (.trans (.cons _ (.swap _ _ _)) (.swap _ _ _))))
theorem _root_.Go.Sx.Mem.appNil {w0 w : World} {olds : List Nat} {l : List Ent} (h : Mem w0 olds (l ++ []) w) : Mem w0 olds l w := by rwa [List.append_nil] at h
theorem _root_.Go.Sx.Mem.appNil' {w0 w : World} {olds : List Nat} {l : List Ent} (h : Mem w0 olds l w) : Mem w0 olds (l ++ []) w := by rwa [List.append_nil]
theorem flatMap_size {α : Type} (l : List α) {f : α → List Value} {n : Nat} (h : ∀ x ∈ l, (f x).length = n) : (l.flatMap f).length = l.length * n := by
  induction l with
  | nil => simp
  | cons x r ih =>
    rw [List.flatMap_cons, List.length_append, h x (.head _), ih (fun y hy => h y (.tail _ hy)), List.length_cons, Nat.add_mul, Nat.one_mul, Nat.add_comm]

theorem queueNil_any (z : Int) (s : ByteArray) (w : World) : Calls Try.prog 6 #[vInt z, .string s] w fun e w' => ∃ v, e = .returned v ∧ v = .bool true ∧ Mem w [] [] w' := by
  refine calls_of_sw (vs := [vInt z, .string s]) Try.func6 rfl Try.ntmps6 rfl (SW.begin ?_)
  refine sw_seq ?_
  refine sw_region ?_
  refine ow_val (val_assign rfl) rfl ?_   -- 4
  refine ow_nil (into ?_)
  refine sw_seq ?_
  refine sw_region ?_
  refine ow_val (val_assign rfl) rfl ?_   -- 5
  refine ow_nil (into ?_)
  refine sw_seq ?_
  refine sw_region ?_
  refine ow_val (val_assign rfl) rfl ?_   -- 6
  refine ow_nil (into ?_)
  refine sw_seq ?_
  refine sw_region ?_
  refine ow_val (val_move rfl) rfl ?_   -- 16
  refine ow_val (val_move rfl) rfl ?_   -- 17
  refine ow_call_pure (v := .tuple #[.bool false, vInt 5]) (callsTo Try.func19 rfl (by kernel_rfl) rfl) rfl (fun w hm => iPut_nil _ w) ?_   -- 18
  refine ow_val (val_move rfl) rfl ?_   -- 15
  refine ow_val (val_extract rfl rfl) rfl ?_   -- 19
  refine ow_val (val_extract rfl rfl) rfl ?_   -- 20
  refine ow_val (val_assign rfl) rfl ?_   -- 7
  refine ow_val (val_assign rfl) rfl ?_   -- 8
  refine ow_nil (into ?_)
  refine sw_seq ?_
  refine sw_region ?_
  refine ow_val (val_move rfl) rfl ?_   -- 22
  refine ow_val (val_move rfl) rfl ?_   -- 23
  refine ow_call_pure (v := .tuple #[.bool false, vInt 5]) (callsTo Try.func20 rfl (by kernel_rfl) rfl) rfl (fun w hm => sPut_nil _ w) ?_   -- 24
  refine ow_val (val_move rfl) rfl ?_   -- 21
  refine ow_val (val_extract rfl rfl) rfl ?_   -- 25
  refine ow_val (val_extract rfl rfl) rfl ?_   -- 26
  refine ow_val (val_assign rfl) rfl ?_   -- 9
  refine ow_val (val_assign rfl) rfl ?_   -- 10
  refine ow_nil (into ?_)
  refine sw_seq ?_
  refine sw_region ?_
  refine ow_val (val_move rfl) rfl ?_   -- 28
  refine ow_call_pure (v := .tuple #[vInt 0, .bool false]) (callsTo Try.func21 rfl (by kernel_rfl) rfl) rfl (fun w hm => iTake_nil w) ?_   -- 29
  refine ow_val (val_move rfl) rfl ?_   -- 27
  refine ow_val (val_extract rfl rfl) rfl ?_   -- 30
  refine ow_val (val_extract rfl rfl) rfl ?_   -- 31
  refine ow_val (val_assign rfl) rfl ?_   -- 11
  refine ow_val (val_assign rfl) rfl ?_   -- 12
  refine ow_nil (into ?_)
  refine sw_seq ?_
  refine sw_region ?_
  refine ow_val (val_move rfl) rfl ?_   -- 33
  refine ow_call_pure (v := .tuple #[.string ⟨#[]⟩, .bool false]) (callsTo Try.func22 rfl (by kernel_rfl) rfl) rfl (fun w hm => sTake_nil w) ?_   -- 34
  refine ow_val (val_move rfl) rfl ?_   -- 32
  refine ow_val (val_extract rfl rfl) rfl ?_   -- 35
  refine ow_val (val_extract rfl rfl) rfl ?_   -- 36
  refine ow_val (val_assign rfl) rfl ?_   -- 13
  refine ow_val (val_assign rfl) rfl ?_   -- 14
  refine ow_nil (into ?_)
  refine sw_seq ?_
  refine sw_region ?_
  refine ow_call_pure (v := .bool true) (callsTo Try.func8 rfl (by kernel_rfl) rfl) rfl (fun w hm => awake_any w) ?_   -- 37
  refine ow_val (val_move rfl) rfl ?_   -- 38
  refine ow_guard_yes rfl rfl rfl ?_
  refine ow_val (val_move rfl) rfl ?_   -- 39
  refine ow_guard_yes rfl rfl rfl ?_
  refine ow_val (val_not rfl) rfl ?_   -- 40
  refine ow_val (val_pick_true rfl rfl) rfl ?_   -- 41
  refine ow_val (val_move rfl) rfl ?_   -- 42
  refine ow_guard_yes rfl rfl rfl ?_
  refine ow_val (val_move rfl) rfl ?_   -- 43
  refine ow_guard_yes rfl rfl rfl ?_
  refine ow_val (val_not rfl) rfl ?_   -- 44
  refine ow_val (val_pick_true rfl rfl) rfl ?_   -- 45
  refine ow_val (val_move rfl) rfl ?_   -- 46
  refine ow_guard_yes rfl rfl rfl ?_
  refine ow_val (val_move rfl) rfl ?_   -- 47
  refine ow_guard_yes rfl rfl rfl ?_
  refine ow_val (val_not rfl) rfl ?_   -- 48
  refine ow_val (val_pick_true rfl rfl) rfl ?_   -- 49
  refine ow_val (val_move rfl) rfl ?_   -- 50
  refine ow_guard_yes rfl rfl rfl ?_
  refine ow_val (val_move rfl) rfl ?_   -- 51
  refine ow_guard_yes rfl rfl rfl ?_
  refine ow_val (val_not rfl) rfl ?_   -- 52
  refine ow_val (val_pick_true rfl rfl) rfl ?_   -- 53
  refine ow_val (val_move rfl) rfl ?_   -- 54
  refine ow_guard_yes rfl rfl rfl ?_
  refine ow_val (val_move rfl) rfl ?_   -- 55
  refine ow_guard_yes rfl rfl rfl ?_
  refine ow_val ((val_eql_int rfl rfl).to (v' := .bool true) (congrArg Value.bool (decide_eq_true rfl))) rfl ?_   -- 56
  refine ow_val (val_pick_true rfl rfl) rfl ?_   -- 57
  refine ow_val (val_move rfl) rfl ?_   -- 58
  refine ow_guard_yes rfl rfl rfl ?_
  refine ow_val (val_move rfl) rfl ?_   -- 59
  refine ow_guard_yes rfl rfl rfl ?_
  refine ow_val ((val_eql_int rfl rfl).to (v' := .bool true) (congrArg Value.bool (decide_eq_true rfl))) rfl ?_   -- 60
  refine ow_val (val_pick_true rfl rfl) rfl ?_   -- 61
  refine ow_val (val_move rfl) rfl ?_   -- 62
  refine ow_guard_yes rfl rfl rfl ?_
  refine ow_val (val_move rfl) rfl ?_   -- 63
  refine ow_guard_yes rfl rfl rfl ?_
  refine ow_val ((val_eql_int rfl rfl).to (v' := .bool true) (congrArg Value.bool (decide_eq_true rfl))) rfl ?_   -- 64
  refine ow_val (val_pick_true rfl rfl) rfl ?_   -- 65
  refine ow_val (val_move rfl) rfl ?_   -- 66
  refine ow_guard_yes rfl rfl rfl ?_
  refine ow_val (val_move rfl) rfl ?_   -- 67
  refine ow_guard_yes rfl rfl rfl ?_
  refine ow_val (val_eql_str rfl rfl) rfl ?_   -- 68
  refine ow_val (val_pick_true rfl rfl) rfl ?_   -- 69
  refine ow_val (val_move rfl) rfl ?_   -- 70
  refine ow_guard_yes rfl rfl rfl ?_
  refine ow_val (val_move rfl) rfl ?_   -- 71
  refine ow_guard_yes rfl rfl rfl ?_
  refine ow_call_pure (v := vInt 0) (callsTo Try.func23 rfl (by kernel_rfl) rfl) rfl (fun w hm => iLen_nil w) ?_   -- 72
  refine ow_guard_yes rfl rfl rfl ?_
  refine ow_val ((val_eql_int rfl rfl).to (v' := .bool true) (congrArg Value.bool (decide_eq_true rfl))) rfl ?_   -- 73
  refine ow_val (val_pick_true rfl rfl) rfl ?_   -- 74
  refine ow_val (val_move rfl) rfl ?_   -- 75
  refine ow_guard_yes rfl rfl rfl ?_
  refine ow_val (val_move rfl) rfl ?_   -- 76
  refine ow_guard_yes rfl rfl rfl ?_
  refine ow_call_pure (v := vInt 0) (callsTo Try.func24 rfl (by kernel_rfl) rfl) rfl (fun w hm => iLine_nil w) ?_   -- 77
  refine ow_guard_yes rfl rfl rfl ?_
  refine ow_val ((val_eql_int rfl rfl).to (v' := .bool true) (congrArg Value.bool (decide_eq_true rfl))) rfl ?_   -- 78
  refine ow_val (val_pick_true rfl rfl) rfl ?_   -- 79
  refine ow_val (val_move rfl) rfl ?_   -- 80
  refine ow_guard_yes rfl rfl rfl ?_
  refine ow_val (val_move rfl) rfl ?_   -- 81
  refine ow_guard_yes rfl rfl rfl ?_
  refine ow_call_pure (v := vInt 5) (callsTo Try.func25 rfl (by kernel_rfl) rfl) rfl (fun w hm => iClose_nil w) ?_   -- 82
  refine ow_guard_yes rfl rfl rfl ?_
  refine ow_val ((val_eql_int rfl rfl).to (v' := .bool true) (congrArg Value.bool (decide_eq_true rfl))) rfl ?_   -- 83
  refine ow_val (val_pick_true rfl rfl) rfl ?_   -- 84
  refine ow_val (val_move rfl) rfl ?_   -- 85
  refine ow_guard_yes rfl rfl rfl ?_
  refine ow_val (val_move rfl) rfl ?_   -- 86
  refine ow_guard_yes rfl rfl rfl ?_
  refine ow_call_pure (v := .bool false) (callsTo Try.func26 rfl (by kernel_rfl) rfl) rfl (fun w hm => iClosed_nil w) ?_   -- 87
  refine ow_guard_yes rfl rfl rfl ?_
  refine ow_val (val_not rfl) rfl ?_   -- 88
  refine ow_val (val_pick_true rfl rfl) rfl ?_   -- 89
  refine ow_val (val_move rfl) rfl ?_   -- 90
  refine ow_guard_yes rfl rfl rfl ?_
  refine ow_val (val_move rfl) rfl ?_   -- 91
  refine ow_guard_yes rfl rfl rfl ?_
  refine ow_call_pure (v := vInt 0) (callsTo Try.func27 rfl (by kernel_rfl) rfl) rfl (fun w hm => sLen_nil w) ?_   -- 92
  refine ow_guard_yes rfl rfl rfl ?_
  refine ow_val ((val_eql_int rfl rfl).to (v' := .bool true) (congrArg Value.bool (decide_eq_true rfl))) rfl ?_   -- 93
  refine ow_val (val_pick_true rfl rfl) rfl ?_   -- 94
  refine ow_val (val_move rfl) rfl ?_   -- 95
  refine ow_guard_yes rfl rfl rfl ?_
  refine ow_val (val_move rfl) rfl ?_   -- 96
  refine ow_guard_yes rfl rfl rfl ?_
  refine ow_call_pure (v := vInt 0) (callsTo Try.func28 rfl (by kernel_rfl) rfl) rfl (fun w hm => sLine_nil w) ?_   -- 97
  refine ow_guard_yes rfl rfl rfl ?_
  refine ow_val ((val_eql_int rfl rfl).to (v' := .bool true) (congrArg Value.bool (decide_eq_true rfl))) rfl ?_   -- 98
  refine ow_val (val_pick_true rfl rfl) rfl ?_   -- 99
  refine ow_val (val_move rfl) rfl ?_   -- 100
  refine ow_guard_yes rfl rfl rfl ?_
  refine ow_val (val_move rfl) rfl ?_   -- 101
  refine ow_guard_yes rfl rfl rfl ?_
  refine ow_call_pure (v := vInt 5) (callsTo Try.func29 rfl (by kernel_rfl) rfl) rfl (fun w hm => sClose_nil w) ?_   -- 102
  refine ow_guard_yes rfl rfl rfl ?_
  refine ow_val ((val_eql_int rfl rfl).to (v' := .bool true) (congrArg Value.bool (decide_eq_true rfl))) rfl ?_   -- 103
  refine ow_val (val_pick_true rfl rfl) rfl ?_   -- 104
  refine ow_val (val_move rfl) rfl ?_   -- 105
  refine ow_guard_yes rfl rfl rfl ?_
  refine ow_val (val_move rfl) rfl ?_   -- 106
  refine ow_guard_yes rfl rfl rfl ?_
  refine ow_call_pure (v := .bool false) (callsTo Try.func30 rfl (by kernel_rfl) rfl) rfl (fun w hm => sClosed_nil w) ?_   -- 107
  refine ow_guard_yes rfl rfl rfl ?_
  refine ow_val (val_not rfl) rfl ?_   -- 108
  refine ow_val (val_pick_true rfl rfl) rfl ?_   -- 109
  refine ow_val (val_assign rfl) rfl ?_   -- 4
  refine ow_nil (into ?_)
  exact sw_ret (fun w hm => ret_one _ rfl rfl ⟨rfl, hm.forgetAll⟩)

theorem plays_no (pl : Int) (w : World) (a : Option Addr) (c : Nat) (l : List (Int × Int)) (hr : Rd w a (l.flatMap (fun o : Int × Int => [vInt o.1, vInt o.2]))) (hc : l.length ≤ c) (hb : l.length * 16 ≤ 140737488351232) (hw : ¬ (1 ≤ pl ∧ pl ≤ 64)) : Calls Try.prog 3 #[vInt pl, .slice a l.length c] w fun e w' => ∃ v, e = .returned v ∧ v = .bool true ∧ Mem w [] [] w' := by
  refine calls_of_sw (vs := [vInt pl, .slice a l.length c]) Try.func3 rfl Try.ntmps3 rfl (SW.begin ?_)
  refine sw_seq ?_
  refine sw_region ?_
  refine ow_val (val_assign rfl) rfl ?_   -- 4
  refine ow_nil (into ?_)
  refine sw_seq ?_
  refine sw_seq ?_
  refine sw_region ?_
  refine ow_call_pure (v := .bool true) (callsTo Try.func8 rfl (by kernel_rfl) rfl) rfl (fun w hm => awake_any w) ?_   -- 11
  refine ow_val (val_not rfl) rfl ?_   -- 12
  refine ow_nil (into ?_)
  refine sw_false rfl rfl ?_
  refine sw_skip (into ?_)
  refine sw_seq ?_
  refine sw_region ?_
  refine ow_val (val_move rfl) rfl ?_   -- 14
  refine ow_call_pure (v := .tuple #[.pointer none, vInt 1]) (callsTo Try.func9 rfl (by kernel_rfl) rfl) rfl (fun w hm => iNew_no w pl hw) ?_   -- 15
  refine ow_val (val_move rfl) rfl ?_   -- 13
  refine ow_val (val_extract rfl rfl) rfl ?_   -- 16
  refine ow_val (val_extract rfl rfl) rfl ?_   -- 17
  refine ow_val (val_assign rfl) rfl ?_   -- 5
  refine ow_val (val_assign rfl) rfl ?_   -- 6
  refine ow_nil (into ?_)
  refine sw_seq ?_
  refine sw_region ?_
  refine ow_val (val_move rfl) rfl ?_   -- 19
  refine ow_call_pure (v := .tuple #[.pointer none, vInt 1]) (callsTo Try.func10 rfl (by kernel_rfl) rfl) rfl (fun w hm => rNew_no w pl hw) ?_   -- 20
  refine ow_val (val_move rfl) rfl ?_   -- 18
  refine ow_val (val_extract rfl rfl) rfl ?_   -- 21
  refine ow_val (val_extract rfl rfl) rfl ?_   -- 22
  refine ow_val (val_assign rfl) rfl ?_   -- 7
  refine ow_val (val_assign rfl) rfl ?_   -- 8
  refine ow_nil (into ?_)
  refine sw_seq ?_
  refine sw_seq ?_
  refine sw_region ?_
  refine ow_val (val_move rfl) rfl ?_   -- 23
  refine ow_val (val_move rfl) rfl ?_   -- 24
  refine ow_val ((val_neq_int rfl rfl).to (v' := .bool false) (congrArg Value.bool (decide_eq_false (fun h => h rfl)))) rfl ?_   -- 25
  refine ow_val (val_move rfl) rfl ?_   -- 26
  refine ow_guard_yes rfl rfl rfl ?_
  refine ow_val (val_move rfl) rfl ?_   -- 27
  refine ow_guard_yes rfl rfl rfl ?_
  refine ow_val (val_eql_nilptr Try.underlying24 rfl rfl) rfl ?_   -- 28
  refine ow_guard_yes rfl rfl rfl ?_
  refine ow_val (val_move rfl) rfl ?_   -- 29
  refine ow_guard_yes rfl rfl rfl ?_
  refine ow_val (val_eql_nilptr Try.underlying28 rfl rfl) rfl ?_   -- 30
  refine ow_guard_yes rfl rfl rfl ?_
  refine ow_val (val_neq_bool Try.underlying4 rfl rfl) rfl ?_   -- 31
  refine ow_val (val_pick_false rfl rfl) rfl ?_   -- 32
  refine ow_nil (into ?_)
  refine sw_false rfl rfl ?_
  refine sw_skip (into ?_)
  refine sw_seq ?_
  refine sw_seq ?_
  refine sw_region ?_
  refine ow_val (val_move rfl) rfl ?_   -- 33
  refine ow_val (val_len rfl Try.underlying22) rfl ?_   -- 34
  refine ow_val (val_move rfl) rfl ?_   -- 35
  refine ow_nil (into ?_)
  refine sw_block ?_
  refine sw_loop (σ := Nat) (fun j => j ≤ l.length) (fun j => [(35, vInt (j : Int)), (34, vInt (l.length : Int)), (33, .slice a l.length c), (5, .pointer none), (7, .pointer none)]) (fun _ => Mem w [] []) (fun j => l.length - j) 0 (Nat.zero_le _) ⟨rfl, rfl, rfl, rfl, rfl, rfl⟩ (fun w hm => hm) ?_
  intro j hj
  refine sw_seq ?_
  refine sw_region ?_
  refine ow_val (val_lss_int rfl rfl) rfl ?_   -- 36
  refine ow_nil (into ?_)
  refine sw_seq ?_
  refine sw_if rfl (fun h0 => ?_) (fun h0 => ?_)
  · -- then
    obtain ⟨ba, oa, rfl⟩ := hr.addr (by rw [flatMap_size l (n := 2) (fun _ _ => rfl)]; omega)
    obtain ⟨⟨K, z⟩, hd⟩ : ∃ o, l.getD j default = o := ⟨_, rfl⟩
    refine sw_skip (into ?_)
    refine sw_seq ?_
    refine sw_block ?_
    refine sw_seq ?_
    refine sw_region ?_
    refine ow_val (val_indexAddr_slice j (oa + j * 2) rfl rfl Try.underlying22 Try.sizeOf32 (by omega) (by omega) (by omega)) rfl ?_   -- 37
    refine ow_val ((val_load_elem (cells := (fun o : Int × Int => [vInt o.1, vInt o.2])) (l := l) (o := oa) (i := j) rfl Try.isAgg32 Try.sizeOf32 (fun _ _ => rfl) (by omega) (by omega) (fun w' hm => hr.mem hm)).to (v' := .agg #[vInt K, vInt z]) (by rw [hd])) rfl ?_   -- 38
    refine ow_new (acts_alloc Try.zeroValue32) rfl (fun b10 hb10 => ?_)   -- 10
    refine ow_do_eq (does_store_all 0 rfl rfl rfl (fun u hu => by rcases List.mem_cons.1 hu with rfl | hu; rfl; rw [List.mem_singleton.1 hu]; rfl) Try.sizeOf32 rfl rfl) ?_
    refine ow_nil (into ?_)
    refine sw_seq ?_
    refine sw_region ?_
    refine ow_val (val_move rfl) rfl ?_   -- 39
    refine ow_val (val_move rfl) rfl ?_   -- 40
    refine ow_val (val_load_all 0 rfl rfl Try.isAgg32 Try.sizeOf32 rfl) rfl ?_   -- 41
    refine ow_call_pure (v := .bool true) (callsTo Try.func11 rfl (by kernel_rfl) rfl) rfl (fun w hm => one_nil w K z) ?_   -- 42
    refine ow_val (val_not rfl) rfl ?_   -- 43
    refine ow_nil (into ?_)
    refine sw_false rfl rfl ?_
    refine sw_skip (into ?_)
    refine sw_region ?_
    refine ow_val (val_add_int ((j + 1 : Nat) : Int) rfl rfl (by omega) (by omega)) rfl ?_   -- 44
    refine ow_val (val_move rfl) rfl ?_   -- 35
    exact ow_nil (fun w hm => ⟨j + 1, by omega, by omega, ⟨rfl, rfl, rfl, rfl, rfl, rfl⟩, hm.forgetAll⟩)
  · -- else
    refine sw_exit (into ?_)
    refine sw_seq ?_
    refine sw_region ?_
    refine ow_val (val_assign rfl) rfl ?_   -- 4
    refine ow_nil (into ?_)
    exact sw_ret (fun w hm => ret_one _ rfl rfl ⟨rfl, hm.forgetAll⟩)

theorem plays_yes (pl : Int) (w : World) (a : Option Addr) (c : Nat) (l : List (Int × Int)) (hr : Rd w a (l.flatMap (fun o : Int × Int => [vInt o.1, vInt o.2]))) (hc : l.length ≤ c) (hb : l.length * 16 ≤ 140737488351232) (hw : 1 ≤ pl ∧ pl ≤ 64) : Calls Try.prog 3 #[vInt pl, .slice a l.length c] w fun e w' => ∃ v, e = .returned v ∧ v = .bool true ∧ Mem w [] [] w' := by
  refine calls_of_sw (vs := [vInt pl, .slice a l.length c]) Try.func3 rfl Try.ntmps3 rfl (SW.begin ?_)
  refine sw_seq ?_
  refine sw_region ?_
  refine ow_val (val_assign rfl) rfl ?_   -- 4
  refine ow_nil (into ?_)
  refine sw_seq ?_
  refine sw_seq ?_
  refine sw_region ?_
  refine ow_call_pure (v := .bool true) (callsTo Try.func8 rfl (by kernel_rfl) rfl) rfl (fun w hm => awake_any w) ?_   -- 11
  refine ow_val (val_not rfl) rfl ?_   -- 12
  refine ow_nil (into ?_)
  refine sw_false rfl rfl ?_
  refine sw_skip (into ?_)
  refine sw_seq ?_
  refine sw_region ?_
  refine ow_val (val_move rfl) rfl ?_   -- 14
  refine ow_call_blk (fun q => .tuple #[.pointer (some ⟨q, 0, none⟩), vInt 0]) (callsTo Try.func9 rfl (by kernel_rfl) rfl) rfl (fun w hm => iNew_yes w pl hw) (fun q hq => ?_)   -- 15
  refine ow_val (val_move rfl) rfl ?_   -- 13
  refine ow_val (val_extract rfl rfl) rfl ?_   -- 16
  refine ow_val (val_extract rfl rfl) rfl ?_   -- 17
  refine ow_val (val_assign rfl) rfl ?_   -- 5
  refine ow_val (val_assign rfl) rfl ?_   -- 6
  refine ow_nil (into ?_)
  refine sw_seq ?_
  refine sw_region ?_
  refine ow_val (val_move rfl) rfl ?_   -- 19
  refine ow_call_blk (fun p => .tuple #[.pointer (some ⟨p, 0, none⟩), vInt 0]) (callsTo Try.func10 rfl (by kernel_rfl) rfl) rfl (fun w hm => rNew_yes w pl hw) (fun p hp => ?_)   -- 20
  refine ow_val (val_move rfl) rfl ?_   -- 18
  refine ow_val (val_extract rfl rfl) rfl ?_   -- 21
  refine ow_val (val_extract rfl rfl) rfl ?_   -- 22
  refine ow_val (val_assign rfl) rfl ?_   -- 7
  refine ow_val (val_assign rfl) rfl ?_   -- 8
  refine ow_nil (into ?_)
  refine sw_seq ?_
  refine sw_seq ?_
  refine sw_region ?_
  refine ow_val (val_move rfl) rfl ?_   -- 23
  refine ow_val (val_move rfl) rfl ?_   -- 24
  refine ow_val ((val_neq_int rfl rfl).to (v' := .bool false) (congrArg Value.bool (decide_eq_false (fun h => h rfl)))) rfl ?_   -- 25
  refine ow_val (val_move rfl) rfl ?_   -- 26
  refine ow_guard_yes rfl rfl rfl ?_
  refine ow_val (val_move rfl) rfl ?_   -- 27
  refine ow_guard_yes rfl rfl rfl ?_
  refine ow_val (val_eql_nilptr Try.underlying24 rfl rfl) rfl ?_   -- 28
  refine ow_guard_yes rfl rfl rfl ?_
  refine ow_val (val_move rfl) rfl ?_   -- 29
  refine ow_guard_yes rfl rfl rfl ?_
  refine ow_val (val_eql_nilptr Try.underlying28 rfl rfl) rfl ?_   -- 30
  refine ow_guard_yes rfl rfl rfl ?_
  refine ow_val (val_neq_bool Try.underlying4 rfl rfl) rfl ?_   -- 31
  refine ow_val (val_pick_false rfl rfl) rfl ?_   -- 32
  refine ow_nil (into ?_)
  refine sw_false rfl rfl ?_
  refine sw_skip (into ?_)
  refine sw_seq ?_
  refine sw_seq ?_
  refine sw_region ?_
  refine ow_val (val_move rfl) rfl ?_   -- 33
  refine ow_val (val_len rfl Try.underlying22) rfl ?_   -- 34
  refine ow_val (val_move rfl) rfl ?_   -- 35
  refine ow_nil (into ?_)
  refine sw_block ?_
  refine sw_loop (σ := Nat × Bool × List Value × (Option Addr × Nat × Ent) × (Option Addr × Nat × Ent)) (fun t => t.1 ≤ l.length ∧ qInv t.2.2.1 t.2.2.2.1 t.2.2.2.2 ∧ t.2.2.1.length ≤ t.1) (fun t => [(35, vInt (t.1 : Int)), (34, vInt (l.length : Int)), (33, .slice a l.length c), (5, .pointer (some ⟨q, 0, none⟩)), (7, .pointer (some ⟨p, 0, none⟩))]) (fun t => Mem w [] (qMem q p pl t.2.1 t.2.2.1 t.2.2.2.1 t.2.2.2.2)) (fun t => l.length - t.1) (0, false, [], (none, 0, none), (none, 0, none)) ⟨Nat.zero_le _, ⟨RowO.nil _, RowO.nil _, fun v h => by cases h⟩, Nat.le_refl _⟩ ⟨rfl, rfl, rfl, rfl, rfl, rfl⟩ (fun w hm => (hm.perm (List.Perm.swap _ _ _)).place2) ?_
  rintro ⟨j, cl, xs, r1, r2⟩ ⟨hj, hI, hx⟩
  simp only at hj hI hx ⊢
  refine sw_seq ?_
  refine sw_region ?_
  refine ow_val (val_lss_int rfl rfl) rfl ?_   -- 36
  refine ow_nil (into ?_)
  refine sw_seq ?_
  refine sw_if rfl (fun h0 => ?_) (fun h0 => ?_)
  · -- then
    obtain ⟨ba, oa, rfl⟩ := hr.addr (by rw [flatMap_size l (n := 2) (fun _ _ => rfl)]; omega)
    obtain ⟨⟨K, z⟩, hd⟩ : ∃ o, l.getD j default = o := ⟨_, rfl⟩
    refine sw_skip (into ?_)
    refine sw_seq ?_
    refine sw_block ?_
    refine sw_seq ?_
    refine sw_region ?_
    refine ow_val (val_indexAddr_slice j (oa + j * 2) rfl rfl Try.underlying22 Try.sizeOf32 (by omega) (by omega) (by omega)) rfl ?_   -- 37
    refine ow_val ((val_load_elem (cells := (fun o : Int × Int => [vInt o.1, vInt o.2])) (l := l) (o := oa) (i := j) rfl Try.isAgg32 Try.sizeOf32 (fun _ _ => rfl) (by omega) (by omega) (fun w' hm => hr.mem hm)).to (v' := .agg #[vInt K, vInt z]) (by rw [hd])) rfl ?_   -- 38
    refine ow_new (acts_alloc Try.zeroValue32) rfl (fun b10 hb10 => ?_)   -- 10
    refine ow_do_eq (does_store_all 0 rfl rfl rfl (fun u hu => by rcases List.mem_cons.1 hu with rfl | hu; rfl; rw [List.mem_singleton.1 hu]; rfl) Try.sizeOf32 rfl rfl) ?_
    refine ow_nil (into ?_)
    refine sw_seq ?_
    refine sw_region ?_
    refine ow_val (val_move rfl) rfl ?_   -- 39
    refine ow_val (val_move rfl) rfl ?_   -- 40
    refine ow_val (val_load_all 0 rfl rfl Try.isAgg32 Try.sizeOf32 rfl) rfl ?_   -- 41
    refine ow_sub (M' := Mem w [] (qMem q p pl cl xs r1 r2 ++ [])) (fun w hm => (hm.only (.cons _ (List.Sublist.refl _))).appNil') ?_
    refine ow_call_frame (fun _ => .bool true) (fun s : Bool × List Value × (Option Addr × Nat × Ent) × (Option Addr × Nat × Ent) => qMem q p pl s.1 s.2.1 s.2.2.1 s.2.2.2) (fun s => qInv s.2.1 s.2.2.1 s.2.2.2 ∧ s.2.1.length ≤ xs.length + 1) (qMem q p pl cl xs r1 r2) [] (callsTo Try.func11 rfl (by kernel_rfl) rfl) rfl (fun w hm hm2 => one_any w cl xs q p pl hw r1 r2 hI (by omega) hm2 K z) ?_   -- 42
    rintro s2 hs2
    refine ow_val (val_not rfl) rfl ?_   -- 43
    refine ow_nil (into ?_)
    refine sw_false rfl rfl ?_
    refine sw_skip (into ?_)
    refine sw_region ?_
    refine ow_val (val_add_int ((j + 1 : Nat) : Int) rfl rfl (by omega) (by omega)) rfl ?_   -- 44
    refine ow_val (val_move rfl) rfl ?_   -- 35
    exact ow_nil (fun w hm => ⟨(j + 1, s2), ⟨by dsimp only; omega, hs2.1, by have h9 := hs2.2; dsimp only at h9 ⊢; omega⟩, by dsimp only; omega, ⟨rfl, rfl, rfl, rfl, rfl, rfl⟩, hm.appNil⟩)
  · -- else
    refine sw_exit (into ?_)
    refine sw_seq ?_
    refine sw_region ?_
    refine ow_val (val_assign rfl) rfl ?_   -- 4
    refine ow_nil (into ?_)
    exact sw_ret (fun w hm => ret_one _ rfl rfl ⟨rfl, hm.forgetAll⟩)

theorem queuePlays_any (pl : Int) (w : World) (a : Option Addr) (c : Nat) (l : List (Int × Int)) (hr : Rd w a (l.flatMap (fun o : Int × Int => [vInt o.1, vInt o.2]))) (hc : l.length ≤ c) (hb : l.length * 16 ≤ 140737488351232) : Calls Try.prog 3 #[vInt pl, .slice a l.length c] w fun e w' => ∃ v, e = .returned v ∧ v = .bool true ∧ Mem w [] [] w' := by
  by_cases hw : 1 ≤ pl ∧ pl ≤ 64
  · exact plays_yes pl w a c l hr hc hb hw
  · exact plays_no pl w a c l hr hc hb hw
end Go.Proofs.Ytigogbodobifdaa
