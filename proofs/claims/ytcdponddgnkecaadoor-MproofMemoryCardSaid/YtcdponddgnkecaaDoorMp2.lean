import Derived.Test.YtcdponddgnkecaaDoorMp1
import Derived.Test.YtcdponddgnkecaaDoorProg
set_option linter.unusedVariables false
set_option linter.unusedSimpArgs false
namespace Go.Proofs.YtcdponddgnkecaaDoor
open Go.Sx Go.Ps
theorem incl_no (k : Nat) (b : Nat) (l : List (List UInt8)) (i n : UInt64) (w : World) (ht : TreeIs 110 79 k w b l) (h : ¬ i < n) : Calls Tryd.prog 16 #[vPtr b, vU64 i, vU64 n] w fun e w' => ∃ v, e = .returned v ∧ v = .tuple #[.slice none 0 0, vInt ((4 : Nat) : Int)] ∧ Mem w [] [] w' := by
  refine calls_of_sw (vs := [vPtr b, vU64 i, vU64 n]) Tryd.func16 rfl Tryd.ntmps16 rfl (SW.begin ?_)
  refine sw_seq ?_
  refine sw_region ?_
  refine ow_new (acts_box rfl) rfl (fun b3 hb3 => ?_)
  refine ow_new (acts_box rfl) rfl (fun b4 hb4 => ?_)
  refine ow_val (val_assign rfl) rfl ?_
  refine ow_val (val_assign rfl) rfl ?_
  refine ow_nil (into ?_)
  refine sw_seq ?_
  refine sw_seq ?_
  refine sw_region ?_
  refine ow_val (val_load_at 0 rfl rfl Tryd.isAgg23 rfl) rfl ?_
  refine ow_val (val_move rfl) rfl ?_
  refine ow_val ((val_lss_u64 rfl rfl).to (v' := .bool false) (congrArg Value.bool (decide_eq_false h))) rfl ?_
  refine ow_val (val_load_at 1 rfl rfl Tryd.isAgg25 rfl) rfl ?_
  refine ow_val (val_move rfl) rfl ?_
  refine ow_call_pure (v := vInt ((4 : Nat) : Int)) (callsTo Tryd.func43 rfl (by kernel_rfl) rfl) rfl (fun w hm => pcheck_no _ n w) ?_
  refine ow_val (val_assign rfl) rfl ?_
  refine ow_nil (into ?_)
  refine sw_seq ?_
  refine sw_region ?_
  refine ow_val (val_move rfl) rfl ?_
  refine ow_val ((val_neq_int rfl rfl).to (v' := .bool true) (congrArg Value.bool (decide_eq_true (by simp)))) rfl ?_
  refine ow_nil (into ?_)
  refine sw_true rfl rfl ?_
  refine sw_seq ?_
  refine sw_region ?_
  refine ow_val (val_move rfl) rfl ?_
  refine ow_val (val_assign rfl) rfl ?_
  refine ow_val (val_assign rfl) rfl ?_
  refine ow_nil (into ?_)
  refine sw_ret (fun w hm => ?_)
  try dsimp only [thenP, blockP, Nat.beq, cond]
  exact ret_two _ _ rfl rfl rfl ⟨rfl, hm.forgetAll⟩

theorem incl_big (k : Nat) (b : Nat) (l : List (List UInt8)) (i n : UInt64) (w : World) (ht : TreeIs 110 79 k w b l) (h : i < n) (hbig : UInt64.ofNat l.length < n) : Calls Tryd.prog 16 #[vPtr b, vU64 i, vU64 n] w fun e w' => ∃ v, e = .returned v ∧ v = .tuple #[.slice none 0 0, vInt ((4 : Nat) : Int)] ∧ Mem w [] [] w' := by
  refine calls_of_sw (vs := [vPtr b, vU64 i, vU64 n]) Tryd.func16 rfl Tryd.ntmps16 rfl (SW.begin ?_)
  refine sw_seq ?_
  refine sw_region ?_
  refine ow_new (acts_box rfl) rfl (fun b3 hb3 => ?_)
  refine ow_new (acts_box rfl) rfl (fun b4 hb4 => ?_)
  refine ow_val (val_assign rfl) rfl ?_
  refine ow_val (val_assign rfl) rfl ?_
  refine ow_nil (into ?_)
  refine sw_seq ?_
  refine sw_seq ?_
  refine sw_region ?_
  refine ow_val (val_load_at 0 rfl rfl Tryd.isAgg23 rfl) rfl ?_
  refine ow_val (val_move rfl) rfl ?_
  refine ow_val ((val_lss_u64 rfl rfl).to (v' := .bool true) (congrArg Value.bool (decide_eq_true h))) rfl ?_
  refine ow_val (val_load_at 1 rfl rfl Tryd.isAgg25 rfl) rfl ?_
  refine ow_val (val_move rfl) rfl ?_
  refine ow_call_pure (v := vInt ((4 : Nat) : Int)) (callsTo Tryd.func43 rfl (by kernel_rfl) rfl) rfl (fun w hm => pcheck_big k b l n w (ht.mem hm) hbig) ?_
  refine ow_val (val_assign rfl) rfl ?_
  refine ow_nil (into ?_)
  refine sw_seq ?_
  refine sw_region ?_
  refine ow_val (val_move rfl) rfl ?_
  refine ow_val ((val_neq_int rfl rfl).to (v' := .bool true) (congrArg Value.bool (decide_eq_true (by simp)))) rfl ?_
  refine ow_nil (into ?_)
  refine sw_true rfl rfl ?_
  refine sw_seq ?_
  refine sw_region ?_
  refine ow_val (val_move rfl) rfl ?_
  refine ow_val (val_assign rfl) rfl ?_
  refine ow_val (val_assign rfl) rfl ?_
  refine ow_nil (into ?_)
  refine sw_ret (fun w hm => ?_)
  try dsimp only [thenP, blockP, Nat.beq, cond]
  exact ret_two _ _ rfl rfl rfl ⟨rfl, hm.forgetAll⟩

theorem incl_nil_no (i n : UInt64) (w : World) (h : ¬ i < n) : Calls Tryd.prog 16 #[.pointer none, vU64 i, vU64 n] w fun e w' => ∃ v, e = .returned v ∧ v = .tuple #[.slice none 0 0, vInt ((4 : Nat) : Int)] ∧ Mem w [] [] w' := by
  refine calls_of_sw (vs := [.pointer none, vU64 i, vU64 n]) Tryd.func16 rfl Tryd.ntmps16 rfl (SW.begin ?_)
  refine sw_seq ?_
  refine sw_region ?_
  refine ow_new (acts_box rfl) rfl (fun b3 hb3 => ?_)
  refine ow_new (acts_box rfl) rfl (fun b4 hb4 => ?_)
  refine ow_val (val_assign rfl) rfl ?_
  refine ow_val (val_assign rfl) rfl ?_
  refine ow_nil (into ?_)
  refine sw_seq ?_
  refine sw_seq ?_
  refine sw_region ?_
  refine ow_val (val_load_at 0 rfl rfl Tryd.isAgg23 rfl) rfl ?_
  refine ow_val (val_move rfl) rfl ?_
  refine ow_val ((val_lss_u64 rfl rfl).to (v' := .bool false) (congrArg Value.bool (decide_eq_false h))) rfl ?_
  refine ow_val (val_load_at 1 rfl rfl Tryd.isAgg25 rfl) rfl ?_
  refine ow_val (val_move rfl) rfl ?_
  refine ow_call_pure (v := vInt ((4 : Nat) : Int)) (callsTo Tryd.func43 rfl (by kernel_rfl) rfl) rfl (fun w hm => pcheck_no _ n w) ?_
  refine ow_val (val_assign rfl) rfl ?_
  refine ow_nil (into ?_)
  refine sw_seq ?_
  refine sw_region ?_
  refine ow_val (val_move rfl) rfl ?_
  refine ow_val ((val_neq_int rfl rfl).to (v' := .bool true) (congrArg Value.bool (decide_eq_true (by simp)))) rfl ?_
  refine ow_nil (into ?_)
  refine sw_true rfl rfl ?_
  refine sw_seq ?_
  refine sw_region ?_
  refine ow_val (val_move rfl) rfl ?_
  refine ow_val (val_assign rfl) rfl ?_
  refine ow_val (val_assign rfl) rfl ?_
  refine ow_nil (into ?_)
  refine sw_ret (fun w hm => ?_)
  try dsimp only [thenP, blockP, Nat.beq, cond]
  exact ret_two _ _ rfl rfl rfl ⟨rfl, hm.forgetAll⟩

theorem incl_nil_ok (i n : UInt64) (w : World) (h : i < n) : Calls Tryd.prog 16 #[.pointer none, vU64 i, vU64 n] w fun e w' => ∃ v, e = .returned v ∧ v = .tuple #[.slice none 0 0, vInt ((5 : Nat) : Int)] ∧ Mem w [] [] w' := by
  refine calls_of_sw (vs := [.pointer none, vU64 i, vU64 n]) Tryd.func16 rfl Tryd.ntmps16 rfl (SW.begin ?_)
  refine sw_seq ?_
  refine sw_region ?_
  refine ow_new (acts_box rfl) rfl (fun b3 hb3 => ?_)
  refine ow_new (acts_box rfl) rfl (fun b4 hb4 => ?_)
  refine ow_val (val_assign rfl) rfl ?_
  refine ow_val (val_assign rfl) rfl ?_
  refine ow_nil (into ?_)
  refine sw_seq ?_
  refine sw_seq ?_
  refine sw_region ?_
  refine ow_val (val_load_at 0 rfl rfl Tryd.isAgg23 rfl) rfl ?_
  refine ow_val (val_move rfl) rfl ?_
  refine ow_val ((val_lss_u64 rfl rfl).to (v' := .bool true) (congrArg Value.bool (decide_eq_true h))) rfl ?_
  refine ow_val (val_load_at 1 rfl rfl Tryd.isAgg25 rfl) rfl ?_
  refine ow_val (val_move rfl) rfl ?_
  refine ow_call_pure (v := vInt ((5 : Nat) : Int)) (callsTo Tryd.func43 rfl (by kernel_rfl) rfl) rfl (fun w hm => pcheck_nil n w) ?_
  refine ow_val (val_assign rfl) rfl ?_
  refine ow_nil (into ?_)
  refine sw_seq ?_
  refine sw_region ?_
  refine ow_val (val_move rfl) rfl ?_
  refine ow_val ((val_neq_int rfl rfl).to (v' := .bool true) (congrArg Value.bool (decide_eq_true (by simp)))) rfl ?_
  refine ow_nil (into ?_)
  refine sw_true rfl rfl ?_
  refine sw_seq ?_
  refine sw_region ?_
  refine ow_val (val_move rfl) rfl ?_
  refine ow_val (val_assign rfl) rfl ?_
  refine ow_val (val_assign rfl) rfl ?_
  refine ow_nil (into ?_)
  refine sw_ret (fun w hm => ?_)
  try dsimp only [thenP, blockP, Nat.beq, cond]
  exact ret_two _ _ rfl rfl rfl ⟨rfl, hm.forgetAll⟩

theorem cons_no (k : Nat) (b : Nat) (l : List (List UInt8)) (i n : UInt64) (w : World) (ht : TreeIs 110 79 k w b l) (h : ¬ i ≤ n) : Calls Tryd.prog 19 #[vPtr b, vU64 i, vU64 n] w fun e w' => ∃ v, e = .returned v ∧ v = .tuple #[.slice none 0 0, vInt ((4 : Nat) : Int)] ∧ Mem w [] [] w' := by
  refine calls_of_sw (vs := [vPtr b, vU64 i, vU64 n]) Tryd.func19 rfl Tryd.ntmps19 rfl (SW.begin ?_)
  refine sw_seq ?_
  refine sw_region ?_
  refine ow_new (acts_box rfl) rfl (fun b3 hb3 => ?_)
  refine ow_new (acts_box rfl) rfl (fun b4 hb4 => ?_)
  refine ow_val (val_assign rfl) rfl ?_
  refine ow_val (val_assign rfl) rfl ?_
  refine ow_nil (into ?_)
  refine sw_seq ?_
  refine sw_seq ?_
  refine sw_region ?_
  refine ow_val (val_load_at 0 rfl rfl Tryd.isAgg23 rfl) rfl ?_
  refine ow_val (val_move rfl) rfl ?_
  refine ow_val ((val_leq_u64 rfl rfl).to (v' := .bool false) (congrArg Value.bool (decide_eq_false h))) rfl ?_
  refine ow_val (val_load_at 1 rfl rfl Tryd.isAgg25 rfl) rfl ?_
  refine ow_val (val_move rfl) rfl ?_
  refine ow_call_pure (v := vInt ((4 : Nat) : Int)) (callsTo Tryd.func43 rfl (by kernel_rfl) rfl) rfl (fun w hm => pcheck_no _ n w) ?_
  refine ow_val (val_assign rfl) rfl ?_
  refine ow_nil (into ?_)
  refine sw_seq ?_
  refine sw_region ?_
  refine ow_val (val_move rfl) rfl ?_
  refine ow_val ((val_neq_int rfl rfl).to (v' := .bool true) (congrArg Value.bool (decide_eq_true (by simp)))) rfl ?_
  refine ow_nil (into ?_)
  refine sw_true rfl rfl ?_
  refine sw_seq ?_
  refine sw_region ?_
  refine ow_val (val_move rfl) rfl ?_
  refine ow_val (val_assign rfl) rfl ?_
  refine ow_val (val_assign rfl) rfl ?_
  refine ow_nil (into ?_)
  refine sw_ret (fun w hm => ?_)
  try dsimp only [thenP, blockP, Nat.beq, cond]
  exact ret_two _ _ rfl rfl rfl ⟨rfl, hm.forgetAll⟩

theorem cons_big (k : Nat) (b : Nat) (l : List (List UInt8)) (i n : UInt64) (w : World) (ht : TreeIs 110 79 k w b l) (h : i ≤ n) (hbig : UInt64.ofNat l.length < n) : Calls Tryd.prog 19 #[vPtr b, vU64 i, vU64 n] w fun e w' => ∃ v, e = .returned v ∧ v = .tuple #[.slice none 0 0, vInt ((4 : Nat) : Int)] ∧ Mem w [] [] w' := by
  refine calls_of_sw (vs := [vPtr b, vU64 i, vU64 n]) Tryd.func19 rfl Tryd.ntmps19 rfl (SW.begin ?_)
  refine sw_seq ?_
  refine sw_region ?_
  refine ow_new (acts_box rfl) rfl (fun b3 hb3 => ?_)
  refine ow_new (acts_box rfl) rfl (fun b4 hb4 => ?_)
  refine ow_val (val_assign rfl) rfl ?_
  refine ow_val (val_assign rfl) rfl ?_
  refine ow_nil (into ?_)
  refine sw_seq ?_
  refine sw_seq ?_
  refine sw_region ?_
  refine ow_val (val_load_at 0 rfl rfl Tryd.isAgg23 rfl) rfl ?_
  refine ow_val (val_move rfl) rfl ?_
  refine ow_val ((val_leq_u64 rfl rfl).to (v' := .bool true) (congrArg Value.bool (decide_eq_true h))) rfl ?_
  refine ow_val (val_load_at 1 rfl rfl Tryd.isAgg25 rfl) rfl ?_
  refine ow_val (val_move rfl) rfl ?_
  refine ow_call_pure (v := vInt ((4 : Nat) : Int)) (callsTo Tryd.func43 rfl (by kernel_rfl) rfl) rfl (fun w hm => pcheck_big k b l n w (ht.mem hm) hbig) ?_
  refine ow_val (val_assign rfl) rfl ?_
  refine ow_nil (into ?_)
  refine sw_seq ?_
  refine sw_region ?_
  refine ow_val (val_move rfl) rfl ?_
  refine ow_val ((val_neq_int rfl rfl).to (v' := .bool true) (congrArg Value.bool (decide_eq_true (by simp)))) rfl ?_
  refine ow_nil (into ?_)
  refine sw_true rfl rfl ?_
  refine sw_seq ?_
  refine sw_region ?_
  refine ow_val (val_move rfl) rfl ?_
  refine ow_val (val_assign rfl) rfl ?_
  refine ow_val (val_assign rfl) rfl ?_
  refine ow_nil (into ?_)
  refine sw_ret (fun w hm => ?_)
  try dsimp only [thenP, blockP, Nat.beq, cond]
  exact ret_two _ _ rfl rfl rfl ⟨rfl, hm.forgetAll⟩

theorem cons_nil_no (i n : UInt64) (w : World) (h : ¬ i ≤ n) : Calls Tryd.prog 19 #[.pointer none, vU64 i, vU64 n] w fun e w' => ∃ v, e = .returned v ∧ v = .tuple #[.slice none 0 0, vInt ((4 : Nat) : Int)] ∧ Mem w [] [] w' := by
  refine calls_of_sw (vs := [.pointer none, vU64 i, vU64 n]) Tryd.func19 rfl Tryd.ntmps19 rfl (SW.begin ?_)
  refine sw_seq ?_
  refine sw_region ?_
  refine ow_new (acts_box rfl) rfl (fun b3 hb3 => ?_)
  refine ow_new (acts_box rfl) rfl (fun b4 hb4 => ?_)
  refine ow_val (val_assign rfl) rfl ?_
  refine ow_val (val_assign rfl) rfl ?_
  refine ow_nil (into ?_)
  refine sw_seq ?_
  refine sw_seq ?_
  refine sw_region ?_
  refine ow_val (val_load_at 0 rfl rfl Tryd.isAgg23 rfl) rfl ?_
  refine ow_val (val_move rfl) rfl ?_
  refine ow_val ((val_leq_u64 rfl rfl).to (v' := .bool false) (congrArg Value.bool (decide_eq_false h))) rfl ?_
  refine ow_val (val_load_at 1 rfl rfl Tryd.isAgg25 rfl) rfl ?_
  refine ow_val (val_move rfl) rfl ?_
  refine ow_call_pure (v := vInt ((4 : Nat) : Int)) (callsTo Tryd.func43 rfl (by kernel_rfl) rfl) rfl (fun w hm => pcheck_no _ n w) ?_
  refine ow_val (val_assign rfl) rfl ?_
  refine ow_nil (into ?_)
  refine sw_seq ?_
  refine sw_region ?_
  refine ow_val (val_move rfl) rfl ?_
  refine ow_val ((val_neq_int rfl rfl).to (v' := .bool true) (congrArg Value.bool (decide_eq_true (by simp)))) rfl ?_
  refine ow_nil (into ?_)
  refine sw_true rfl rfl ?_
  refine sw_seq ?_
  refine sw_region ?_
  refine ow_val (val_move rfl) rfl ?_
  refine ow_val (val_assign rfl) rfl ?_
  refine ow_val (val_assign rfl) rfl ?_
  refine ow_nil (into ?_)
  refine sw_ret (fun w hm => ?_)
  try dsimp only [thenP, blockP, Nat.beq, cond]
  exact ret_two _ _ rfl rfl rfl ⟨rfl, hm.forgetAll⟩

theorem cons_nil_ok (i n : UInt64) (w : World) (h : i ≤ n) : Calls Tryd.prog 19 #[.pointer none, vU64 i, vU64 n] w fun e w' => ∃ v, e = .returned v ∧ v = .tuple #[.slice none 0 0, vInt ((5 : Nat) : Int)] ∧ Mem w [] [] w' := by
  refine calls_of_sw (vs := [.pointer none, vU64 i, vU64 n]) Tryd.func19 rfl Tryd.ntmps19 rfl (SW.begin ?_)
  refine sw_seq ?_
  refine sw_region ?_
  refine ow_new (acts_box rfl) rfl (fun b3 hb3 => ?_)
  refine ow_new (acts_box rfl) rfl (fun b4 hb4 => ?_)
  refine ow_val (val_assign rfl) rfl ?_
  refine ow_val (val_assign rfl) rfl ?_
  refine ow_nil (into ?_)
  refine sw_seq ?_
  refine sw_seq ?_
  refine sw_region ?_
  refine ow_val (val_load_at 0 rfl rfl Tryd.isAgg23 rfl) rfl ?_
  refine ow_val (val_move rfl) rfl ?_
  refine ow_val ((val_leq_u64 rfl rfl).to (v' := .bool true) (congrArg Value.bool (decide_eq_true h))) rfl ?_
  refine ow_val (val_load_at 1 rfl rfl Tryd.isAgg25 rfl) rfl ?_
  refine ow_val (val_move rfl) rfl ?_
  refine ow_call_pure (v := vInt ((5 : Nat) : Int)) (callsTo Tryd.func43 rfl (by kernel_rfl) rfl) rfl (fun w hm => pcheck_nil n w) ?_
  refine ow_val (val_assign rfl) rfl ?_
  refine ow_nil (into ?_)
  refine sw_seq ?_
  refine sw_region ?_
  refine ow_val (val_move rfl) rfl ?_
  refine ow_val ((val_neq_int rfl rfl).to (v' := .bool true) (congrArg Value.bool (decide_eq_true (by simp)))) rfl ?_
  refine ow_nil (into ?_)
  refine sw_true rfl rfl ?_
  refine sw_seq ?_
  refine sw_region ?_
  refine ow_val (val_move rfl) rfl ?_
  refine ow_val (val_assign rfl) rfl ?_
  refine ow_val (val_assign rfl) rfl ?_
  refine ow_nil (into ?_)
  refine sw_ret (fun w hm => ?_)
  try dsimp only [thenP, blockP, Nat.beq, cond]
  exact ret_two _ _ rfl rfl rfl ⟨rfl, hm.forgetAll⟩

theorem incl_go (k : Nat) (h1 : 1 ≤ k) (h2 : k ≤ 32) (b : Nat) (l : List (List UInt8)) (hdl : ∀ d ∈ l, d.length = 32) (hfl : ∀ d ∈ l, fm (k : Int) d = true) (hl : l.length * 32 ≤ 140737488351232) (i n : Nat) (w : World) (hK : KW w) (ht : TreeIs 110 79 k w b l) (h : i < n) (hn : n ≤ l.length) (P : List (List UInt8)) (hP : incL k (seg l 0 n) i = P) : Calls Tryd.prog 16 #[vPtr b, vU64 (UInt64.ofNat i), vU64 (UInt64.ofNat n)] w fun e w' => ∃ u, e = .returned u ∧ ∃ s e', u = .tuple #[s, vInt ((0 : Nat) : Int)] ∧ RowE s 41 32 P.length (P.flatMap fun d => d.map vU8) e' ∧ Mem w [] [e'] w' := by
  have hok : ¬ UInt64.ofNat l.length < UInt64.ofNat n := mt (at_lt (by omega) (by omega)).1 (by omega)
  refine calls_of_sw (vs := [vPtr b, vU64 (UInt64.ofNat i), vU64 (UInt64.ofNat n)]) Tryd.func16 rfl Tryd.ntmps16 rfl (SW.begin ?_)
  refine sw_seq ?_
  refine sw_region ?_
  refine ow_new (acts_box rfl) rfl (fun b3 hb3 => ?_)
  refine ow_new (acts_box rfl) rfl (fun b4 hb4 => ?_)
  refine ow_val (val_assign rfl) rfl ?_
  refine ow_val (val_assign rfl) rfl ?_
  refine ow_nil (into ?_)
  refine sw_seq ?_
  refine sw_seq ?_
  refine sw_region ?_
  refine ow_val (val_load_at 0 rfl rfl Tryd.isAgg23 rfl) rfl ?_
  refine ow_val (val_move rfl) rfl ?_
  refine ow_val ((val_lss_u64 rfl rfl).to (v' := .bool true) (congrArg Value.bool (decide_eq_true ((at_lt (by omega) (by omega)).2 h)))) rfl ?_
  refine ow_val (val_load_at 1 rfl rfl Tryd.isAgg25 rfl) rfl ?_
  refine ow_val (val_move rfl) rfl ?_
  refine ow_call_pure (v := vInt ((0 : Nat) : Int)) (callsTo Tryd.func43 rfl (by kernel_rfl) rfl) rfl (fun w hm => pcheck_ok k b l (UInt64.ofNat n) w (ht.mem hm) hok) ?_
  refine ow_val (val_assign rfl) rfl ?_
  refine ow_nil (into ?_)
  refine sw_seq ?_
  refine sw_region ?_
  refine ow_val (val_move rfl) rfl ?_
  refine ow_val ((val_neq_int rfl rfl).to (v' := .bool false) (congrArg Value.bool (decide_eq_false (fun h => h (by simp))))) rfl ?_
  refine ow_nil (into ?_)
  refine sw_false rfl rfl ?_
  refine sw_skip (into ?_)
  refine sw_seq ?_
  refine sw_region ?_
  refine ow_new (acts_alloc zF1) rfl (fun b9 hb9 => ?_)
  refine ow_nil (into ?_)
  refine sw_seq ?_
  refine sw_region ?_
  refine ow_val (val_makeFunc (vs := #[vPtr b4, vPtr b9, vPtr b3]) (fun a hf => by have h := evs_eval (xs := [.tmp 4, .tmp 9, .tmp 3]) (vs := [vPtr b4, vPtr b9, vPtr b3]) hf rfl; simpa using h)) rfl ?_
  refine ow_do (does_store 0 rfl rfl rfl rfl Tryd.sizeOf70 (by decide)) (fun _ _ => ?_)
  refine ow_nil (into ?_)
  refine sw_seq ?_
  refine sw_region ?_
  refine ow_val (val_load_at 0 rfl rfl Tryd.isAgg70 rfl) rfl ?_
  refine ow_val (val_move rfl) rfl ?_
  refine ow_call_row (E := 41) (size := 32) (k := P.length) (xs := List.flatMap (fun d : List UInt8 => List.map vU8 d) P) (callsToVal (cap := [vPtr b4, vPtr b9, vPtr b3]) rfl Tryd.func44 rfl (by kernel_rfl) rfl) rfl (fun w hm => (by have h := inc_any k h1 h2 b l hdl hfl hl b3 b4 b9 i _ 0 n w (Nat.le_refl _) (hK.mem0 hm) (ht.mem hm) (hm.at (i := 1) rfl) (hm.at (i := 0) rfl) (hm.at (i := 2) rfl) (Nat.zero_le _) (by omega) hn; rw [Nat.sub_zero, hP] at h; exact h)) (fun a22 c22 e22 hr22 => ?_)
  refine ow_val (val_assign rfl) rfl ?_
  refine ow_val (val_assign rfl) rfl ?_
  refine ow_nil (into ?_)
  exact sw_ret (fun w hm => ret_two _ _ rfl rfl rfl ⟨_, e22, rfl, hr22, hm.only (.cons_cons _ (List.nil_sublist _))⟩)

theorem con_known (k : Nat) (h1 : 1 ≤ k) (h2 : k ≤ 32) (b : Nat) (l : List (List UInt8)) (hdl : ∀ d ∈ l, d.length = 32) (hfl : ∀ d ∈ l, fm (k : Int) d = true) (hl : l.length * 32 ≤ 140737488351232) (b3 b4 b9 i lo hi : Nat) (w : World) (hK : KW w) (ht : TreeIs 110 79 k w b l) (h4 : w.heap[b4]? = some (blk [vU64 (UInt64.ofNat i)] 23)) (h9 : w.heap[b9]? = some (blk [.func (.func 48) #[] #[vPtr b4, vPtr b3, vPtr b9]] 73)) (h3 : w.heap[b3]? = some (blk [vPtr b] 25)) (hlo : lo < i) (hhi : i ≤ hi) (hn : hi ≤ l.length) (he : i = hi) : Calls Tryd.prog 48 #[vU64 (UInt64.ofNat lo), vU64 (UInt64.ofNat hi), .bool true, vPtr b4, vPtr b3, vPtr b9] w fun e w2 => ∃ v, e = .returned v ∧ ∃ e', RowE v 41 32 (([] : List (List UInt8))).length ((([] : List (List UInt8))).flatMap fun d => d.map vU8) e' ∧ Mem w [] [e'] w2 := by
  refine calls_of_sw (vs := [vU64 (UInt64.ofNat lo), vU64 (UInt64.ofNat hi), .bool true, vPtr b4, vPtr b3, vPtr b9]) Tryd.func48 rfl Tryd.ntmps48 rfl (SW.begin ?_)
  refine sw_seq ?_
  refine sw_region ?_
  refine ow_val (val_assign rfl) rfl ?_
  refine ow_nil (into ?_)
  refine sw_seq ?_
  refine sw_seq ?_
  refine sw_region ?_
  refine ow_val (val_load_old h4 (List.not_mem_nil) rfl Tryd.isAgg23 rfl) rfl ?_
  refine ow_val (val_move rfl) rfl ?_
  refine ow_val ((val_eql_u64 rfl rfl).to (congrArg Value.bool (decide_eq_true ((by rw [he]))))) rfl ?_
  refine ow_nil (into ?_)
  refine sw_true rfl rfl ?_
  refine sw_seq ?_
  refine sw_seq ?_
  refine sw_region ?_
  refine ow_val (val_move rfl) rfl ?_
  refine ow_nil (into ?_)
  refine sw_true rfl rfl ?_
  refine sw_seq ?_
  refine sw_region ?_
  refine ow_val (val_assign rfl) rfl ?_
  refine ow_nil (into ?_)
  refine sw_ret (fun w hm => ?_)
  try dsimp only [thenP, blockP, Nat.beq, cond]
  exact ret_one _ rfl rfl ⟨none, RowE.nil _ _, hm.place⟩

theorem con_last (k : Nat) (h1 : 1 ≤ k) (h2 : k ≤ 32) (b : Nat) (l : List (List UInt8)) (hdl : ∀ d ∈ l, d.length = 32) (hfl : ∀ d ∈ l, fm (k : Int) d = true) (hl : l.length * 32 ≤ 140737488351232) (b3 b4 b9 i lo hi : Nat) (w : World) (hK : KW w) (ht : TreeIs 110 79 k w b l) (h4 : w.heap[b4]? = some (blk [vU64 (UInt64.ofNat i)] 23)) (h9 : w.heap[b9]? = some (blk [.func (.func 48) #[] #[vPtr b4, vPtr b3, vPtr b9]] 73)) (h3 : w.heap[b3]? = some (blk [vPtr b] 25)) (hlo : lo < i) (hhi : i ≤ hi) (hn : hi ≤ l.length) (he : i = hi) : Calls Tryd.prog 48 #[vU64 (UInt64.ofNat lo), vU64 (UInt64.ofNat hi), .bool false, vPtr b4, vPtr b3, vPtr b9] w fun e w2 => ∃ v, e = .returned v ∧ ∃ e', RowE v 41 32 (([lg k (seg l lo hi)] : List (List UInt8))).length ((([lg k (seg l lo hi)] : List (List UInt8))).flatMap fun d => d.map vU8) e' ∧ Mem w [] [e'] w2 := by
  have hD1 : (lg k (seg l lo hi)).length = 32 := lg_len h2 _ rfl (seg_all hdl)
  refine calls_of_sw (vs := [vU64 (UInt64.ofNat lo), vU64 (UInt64.ofNat hi), .bool false, vPtr b4, vPtr b3, vPtr b9]) Tryd.func48 rfl Tryd.ntmps48 rfl (SW.begin ?_)
  refine sw_seq ?_
  refine sw_region ?_
  refine ow_val (val_assign rfl) rfl ?_
  refine ow_nil (into ?_)
  refine sw_seq ?_
  refine sw_seq ?_
  refine sw_region ?_
  refine ow_val (val_load_old h4 (List.not_mem_nil) rfl Tryd.isAgg23 rfl) rfl ?_
  refine ow_val (val_move rfl) rfl ?_
  refine ow_val ((val_eql_u64 rfl rfl).to (congrArg Value.bool (decide_eq_true ((by rw [he]))))) rfl ?_
  refine ow_nil (into ?_)
  refine sw_true rfl rfl ?_
  refine sw_seq ?_
  refine sw_seq ?_
  refine sw_region ?_
  refine ow_val (val_move rfl) rfl ?_
  refine ow_nil (into ?_)
  refine sw_false rfl rfl ?_
  refine sw_skip (into ?_)
  refine sw_seq ?_
  refine sw_region ?_
  refine ow_val (val_load_old h3 (List.not_mem_nil) rfl Tryd.isAgg25 rfl) rfl ?_
  refine ow_val (val_move rfl) rfl ?_
  refine ow_val (val_move rfl) rfl ?_
  refine ow_call_pure (v := .agg ((lg k (seg l lo hi)).map vU8).toArray) (callsTo Tryd.func46 rfl (by kernel_rfl) rfl) rfl (fun w hm => pwhole_any k h1 h2 b l hdl hfl hl w (hK.mem0 hm) (ht.mem hm) lo hi (by omega) (by omega)) ?_
  refine ow_make (acts_buildSlice (cs := [((lg k (seg l lo hi))).map vU8].flatten) Tryd.underlying22 Tryd.sizeOf41 zD rfl rfl (fill_aggs [((lg k (seg l lo hi))).map vU8] (by decide) rfl (by simp only [List.forall_mem_cons, List.length_map]; exact ⟨hD1, fun _ h => by cases h⟩))) rfl (fun b19 hb19 => ?_)
  refine ow_val (val_assign rfl) rfl ?_
  refine ow_nil (into ?_)
  refine sw_ret (fun w hm => ?_)
  try dsimp only [thenP, blockP, Nat.beq, cond]
  exact ret_one _ rfl rfl ⟨_, (RowE.full (n := 1) (size := 32) (by simp only [List.flatten_cons, List.flatten_nil, List.append_nil, List.length_map, hD1]) (by decide)).cong rfl rfl (by simp only [List.flatten_cons, List.flatten_nil, List.flatMap_cons, List.flatMap_nil]), hm.only (.cons_cons _ (List.nil_sublist _))⟩

theorem con_left (k : Nat) (h1 : 1 ≤ k) (h2 : k ≤ 32) (b : Nat) (l : List (List UInt8)) (hdl : ∀ d ∈ l, d.length = 32) (hfl : ∀ d ∈ l, fm (k : Int) d = true) (hl : l.length * 32 ≤ 140737488351232) (b3 b4 b9 i lo hi : Nat) (w : World) (hK : KW w) (ht : TreeIs 110 79 k w b l) (h4 : w.heap[b4]? = some (blk [vU64 (UInt64.ofNat i)] 23)) (h9 : w.heap[b9]? = some (blk [.func (.func 48) #[] #[vPtr b4, vPtr b3, vPtr b9]] 73)) (h3 : w.heap[b3]? = some (blk [vPtr b] 25)) (hlo : lo < i) (hhi : i ≤ hi) (hn : hi ≤ l.length) (known : Bool) (he : ¬ i = hi) (s : Nat) (hs : lo + splitN (hi - lo) = s) (his : i ≤ s) (P : List (List UInt8)) (hPd : ∀ d ∈ P, d.length = 32) (hPf : ∀ d ∈ P, fm (k : Int) d = true) (hPn : P.length ≤ l.length) (ih : ∀ w', KW w' → TreeIs 110 79 k w' b l → w'.heap[b4]? = some (blk [vU64 (UInt64.ofNat i)] 23) → w'.heap[b9]? = some (blk [.func (.func 48) #[] #[vPtr b4, vPtr b3, vPtr b9]] 73) → w'.heap[b3]? = some (blk [vPtr b] 25) → Calls Tryd.prog 48 #[vU64 (UInt64.ofNat lo), vU64 (UInt64.ofNat s), .bool known, vPtr b4, vPtr b3, vPtr b9] w' fun e w2 => ∃ v, e = .returned v ∧ ∃ e', RowE v 41 32 P.length (P.flatMap fun d => d.map vU8) e' ∧ Mem w' [] [e'] w2) : Calls Tryd.prog 48 #[vU64 (UInt64.ofNat lo), vU64 (UInt64.ofNat hi), .bool known, vPtr b4, vPtr b3, vPtr b9] w fun e w2 => ∃ v, e = .returned v ∧ ∃ e', RowE v 41 32 ((P ++ [lg k (seg l s hi)])).length (((P ++ [lg k (seg l s hi)])).flatMap fun d => d.map vU8) e' ∧ Mem w [] [e'] w2 := by
  have hsub : UInt64.ofNat hi - UInt64.ofNat lo = UInt64.ofNat (hi - lo) := at_sub0 (by omega) (by omega)
  have hs1 := splitN_lt (n := hi - lo) (by omega)
  have hs2 := splitN_pos (hi - lo)
  have hadd : UInt64.ofNat lo + UInt64.ofNat (splitN (hi - lo)) = UInt64.ofNat s := by rw [of_add (by omega), hs]
  obtain ⟨tiD, hDi, hDz, hDsz, hDby⟩ := info_parts iDg
  have hD1 : (lg k (seg l s hi)).length = 32 := lg_len h2 _ rfl (seg_all hdl)
  refine calls_of_sw (vs := [vU64 (UInt64.ofNat lo), vU64 (UInt64.ofNat hi), .bool known, vPtr b4, vPtr b3, vPtr b9]) Tryd.func48 rfl Tryd.ntmps48 rfl (SW.begin ?_)
  refine sw_seq ?_
  refine sw_region ?_
  refine ow_val (val_assign rfl) rfl ?_
  refine ow_nil (into ?_)
  refine sw_seq ?_
  refine sw_seq ?_
  refine sw_region ?_
  refine ow_val (val_load_old h4 (List.not_mem_nil) rfl Tryd.isAgg23 rfl) rfl ?_
  refine ow_val (val_move rfl) rfl ?_
  refine ow_val ((val_eql_u64 rfl rfl).to (congrArg Value.bool (decide_eq_false (mt (of_inj (by omega) (by omega)).1 he)))) rfl ?_
  refine ow_nil (into ?_)
  refine sw_false rfl rfl ?_
  refine sw_skip (into ?_)
  refine sw_seq ?_
  refine sw_region ?_
  refine ow_val (val_move rfl) rfl ?_
  refine ow_val (val_move rfl) rfl ?_
  refine ow_val (val_move rfl) rfl ?_
  refine ow_val ((val_sub_u64 rfl rfl).to (congrArg vU64 hsub)) rfl ?_
  refine ow_call_pure (v := vU64 (UInt64.ofNat (splitN (hi - lo)))) (callsTo Tryd.func45 rfl (by kernel_rfl) rfl) rfl (fun w hm => (by have h := pbelow_any (UInt64.ofNat (hi - lo)) (by rw [of_nat (by omega)]; omega) w; rw [splitU_of (by omega)] at h; exact h)) ?_
  refine ow_val ((val_add_u64 rfl rfl).to (congrArg vU64 hadd)) rfl ?_
  refine ow_val (val_assign rfl) rfl ?_
  refine ow_nil (into ?_)
  refine sw_seq ?_
  refine sw_seq ?_
  refine sw_region ?_
  refine ow_val (val_load_old h4 (List.not_mem_nil) rfl Tryd.isAgg23 rfl) rfl ?_
  refine ow_val (val_move rfl) rfl ?_
  refine ow_val ((val_leq_u64 rfl rfl).to (congrArg Value.bool (decide_eq_true ((of_le (by omega) (by omega)).2 his)))) rfl ?_
  refine ow_nil (into ?_)
  refine sw_true rfl rfl ?_
  refine sw_seq ?_
  refine sw_region_tree (Mem w [] []) [] (.one 1 0 (.one 2 0 (.one 3 0 (.one 6 0 (.one 7 0 (.one 0 1 (.one 5 1 (.one 4 2 (.one 8 2 (.one 9 2 (.one 10 2 (.one 11 0 .done)))))))))))) (by kernel_rfl) (by kernel_rfl) (fun _ _ _ h => h) (fun _ h => h.only (List.nil_sublist _)) (fun _ h => h.drawn _) ?_
  refine lt_pure rfl trivial (val_move rfl) rfl ?_
  refine lt_pure rfl trivial (val_move rfl) rfl ?_
  refine lt_pure rfl trivial (val_move rfl) rfl ?_
  refine lt_pure rfl trivial (val_move rfl) rfl ?_
  refine lt_pure rfl trivial (val_move rfl) rfl ?_
  refine lt_held rfl trivial (val_load_old h9 (List.not_mem_nil) rfl Tryd.isAgg73 rfl) rfl ?_
  refine lt_held rfl trivial (val_load_old h3 (List.not_mem_nil) rfl Tryd.isAgg25 rfl) rfl ?_
  refine lt_call_row (E := 41) (size := 32) (k := P.length) (xs := List.flatMap (fun d : List UInt8 => List.map vU8 d) P) rfl trivial (callsToVal (cap := [vPtr b4, vPtr b3, vPtr b9]) rfl Tryd.func48 rfl (by kernel_rfl) rfl) rfl (fun w hm => ih w (hK.mem0 hm) (ht.mem hm) (hm.oldBlk h4) (hm.oldBlk h9) (hm.oldBlk h3)) (fun _ _ _ h => h.only (List.nil_sublist _)) (fun a33 c33 e33 hr33 => ?_)
  refine lt_call_pure (v := .agg ((lg k (seg l s hi)).map vU8).toArray) rfl trivial (callsTo Tryd.func46 rfl (by kernel_rfl) rfl) rfl (fun w hm => pwhole_any k h1 h2 b l hdl hfl hl w (hK.mem0 hm) (ht.mem hm) s hi (by omega) (by omega)) (fun _ _ h => h.only (List.nil_sublist _)) ?_
  refine lt_make (fun b => .slice (some ⟨b, 0, none⟩) 1 1) rfl trivial (acts_buildSlice (cs := [((lg k (seg l s hi))).map vU8].flatten) Tryd.underlying22 Tryd.sizeOf41 zD rfl rfl (fill_aggs [((lg k (seg l s hi))).map vU8] (by decide) rfl (by simp only [List.forall_mem_cons, List.length_map]; exact ⟨hD1, fun _ h => by cases h⟩))) rfl (fun _ _ _ h => h.only (List.nil_sublist _)) (fun b38 hb38 => ?_)
  refine lt_append (k := P.length + 1) (xs := (P ++ [(lg k (seg l s hi))]).flatMap fun d => d.map vU8) rfl trivial (acts_row (acts_append (size := 32) (bytes := 32) 1 rfl rfl rfl hr33 rfl Tryd.underlying22 hDi hDz hDsz hDby rfl (by decide) (fun w hm => (Rd.blk (hm.at (i := 0) rfl))) (by simp only [List.flatten_cons, List.flatten_nil, List.append_nil, List.length_append, List.length_map, hD1]) (fun u hu => by simp only [List.flatten_cons, List.flatten_nil, List.append_nil, List.mem_append] at hu; rcases hu with hu <;> exact one_u8s _ u hu) (by omega) (by omega)) rfl (by simp only [List.flatMap_append, List.flatMap_cons, List.flatMap_nil, List.flatten_cons, List.flatten_nil, List.nil_append, List.append_nil])) rfl (fun _ _ _ h => h.only (List.nil_sublist _)) (fun a39 c39 e39 hr39' => ?_)
  have hx39 : (P ++ [(lg k (seg l s hi))]).length = P.length + 1 := by rw [List.length_append] <;> rfl
  refine lt_pure rfl trivial (val_assign rfl) rfl ?_
  refine lt_done (into ?_)
  refine sw_ret (fun w hm => ?_)
  try dsimp only [thenP, blockP, Nat.beq, cond]
  exact ret_one _ rfl rfl ⟨e39, hr39'.cong rfl (by rw [List.length_append]; rfl) rfl, hm.only (.cons _ (.cons_cons _ (List.nil_sublist _)))⟩

theorem con_right (k : Nat) (h1 : 1 ≤ k) (h2 : k ≤ 32) (b : Nat) (l : List (List UInt8)) (hdl : ∀ d ∈ l, d.length = 32) (hfl : ∀ d ∈ l, fm (k : Int) d = true) (hl : l.length * 32 ≤ 140737488351232) (b3 b4 b9 i lo hi : Nat) (w : World) (hK : KW w) (ht : TreeIs 110 79 k w b l) (h4 : w.heap[b4]? = some (blk [vU64 (UInt64.ofNat i)] 23)) (h9 : w.heap[b9]? = some (blk [.func (.func 48) #[] #[vPtr b4, vPtr b3, vPtr b9]] 73)) (h3 : w.heap[b3]? = some (blk [vPtr b] 25)) (hlo : lo < i) (hhi : i ≤ hi) (hn : hi ≤ l.length) (known : Bool) (he : ¬ i = hi) (s : Nat) (hs : lo + splitN (hi - lo) = s) (his : ¬ i ≤ s) (P : List (List UInt8)) (hPd : ∀ d ∈ P, d.length = 32) (hPf : ∀ d ∈ P, fm (k : Int) d = true) (hPn : P.length ≤ l.length) (ih : ∀ w', KW w' → TreeIs 110 79 k w' b l → w'.heap[b4]? = some (blk [vU64 (UInt64.ofNat i)] 23) → w'.heap[b9]? = some (blk [.func (.func 48) #[] #[vPtr b4, vPtr b3, vPtr b9]] 73) → w'.heap[b3]? = some (blk [vPtr b] 25) → Calls Tryd.prog 48 #[vU64 (UInt64.ofNat s), vU64 (UInt64.ofNat hi), .bool false, vPtr b4, vPtr b3, vPtr b9] w' fun e w2 => ∃ v, e = .returned v ∧ ∃ e', RowE v 41 32 P.length (P.flatMap fun d => d.map vU8) e' ∧ Mem w' [] [e'] w2) : Calls Tryd.prog 48 #[vU64 (UInt64.ofNat lo), vU64 (UInt64.ofNat hi), .bool known, vPtr b4, vPtr b3, vPtr b9] w fun e w2 => ∃ v, e = .returned v ∧ ∃ e', RowE v 41 32 ((P ++ [lg k (seg l lo s)])).length (((P ++ [lg k (seg l lo s)])).flatMap fun d => d.map vU8) e' ∧ Mem w [] [e'] w2 := by
  have hsub : UInt64.ofNat hi - UInt64.ofNat lo = UInt64.ofNat (hi - lo) := at_sub0 (by omega) (by omega)
  have hs1 := splitN_lt (n := hi - lo) (by omega)
  have hs2 := splitN_pos (hi - lo)
  have hadd : UInt64.ofNat lo + UInt64.ofNat (splitN (hi - lo)) = UInt64.ofNat s := by rw [of_add (by omega), hs]
  obtain ⟨tiD, hDi, hDz, hDsz, hDby⟩ := info_parts iDg
  have hD1 : (lg k (seg l lo s)).length = 32 := lg_len h2 _ rfl (seg_all hdl)
  refine calls_of_sw (vs := [vU64 (UInt64.ofNat lo), vU64 (UInt64.ofNat hi), .bool known, vPtr b4, vPtr b3, vPtr b9]) Tryd.func48 rfl Tryd.ntmps48 rfl (SW.begin ?_)
  refine sw_seq ?_
  refine sw_region ?_
  refine ow_val (val_assign rfl) rfl ?_
  refine ow_nil (into ?_)
  refine sw_seq ?_
  refine sw_seq ?_
  refine sw_region ?_
  refine ow_val (val_load_old h4 (List.not_mem_nil) rfl Tryd.isAgg23 rfl) rfl ?_
  refine ow_val (val_move rfl) rfl ?_
  refine ow_val ((val_eql_u64 rfl rfl).to (congrArg Value.bool (decide_eq_false (mt (of_inj (by omega) (by omega)).1 he)))) rfl ?_
  refine ow_nil (into ?_)
  refine sw_false rfl rfl ?_
  refine sw_skip (into ?_)
  refine sw_seq ?_
  refine sw_region ?_
  refine ow_val (val_move rfl) rfl ?_
  refine ow_val (val_move rfl) rfl ?_
  refine ow_val (val_move rfl) rfl ?_
  refine ow_val ((val_sub_u64 rfl rfl).to (congrArg vU64 hsub)) rfl ?_
  refine ow_call_pure (v := vU64 (UInt64.ofNat (splitN (hi - lo)))) (callsTo Tryd.func45 rfl (by kernel_rfl) rfl) rfl (fun w hm => (by have h := pbelow_any (UInt64.ofNat (hi - lo)) (by rw [of_nat (by omega)]; omega) w; rw [splitU_of (by omega)] at h; exact h)) ?_
  refine ow_val ((val_add_u64 rfl rfl).to (congrArg vU64 hadd)) rfl ?_
  refine ow_val (val_assign rfl) rfl ?_
  refine ow_nil (into ?_)
  refine sw_seq ?_
  refine sw_seq ?_
  refine sw_region ?_
  refine ow_val (val_load_old h4 (List.not_mem_nil) rfl Tryd.isAgg23 rfl) rfl ?_
  refine ow_val (val_move rfl) rfl ?_
  refine ow_val ((val_leq_u64 rfl rfl).to (congrArg Value.bool (decide_eq_false (mt (of_le (by omega) (by omega)).1 his)))) rfl ?_
  refine ow_nil (into ?_)
  refine sw_false rfl rfl ?_
  refine sw_skip (into ?_)
  refine sw_seq ?_
  refine sw_region_tree (Mem w [] []) [] (.one 1 0 (.one 2 0 (.one 5 0 (.one 6 0 (.one 0 1 (.one 4 1 (.one 3 2 (.one 7 2 (.one 8 2 (.one 9 2 (.one 10 0 .done))))))))))) (by kernel_rfl) (by kernel_rfl) (fun _ _ _ h => h) (fun _ h => h.only (List.nil_sublist _)) (fun _ h => h.drawn _) ?_
  refine lt_pure rfl trivial (val_move rfl) rfl ?_
  refine lt_pure rfl trivial (val_move rfl) rfl ?_
  refine lt_pure rfl trivial (val_move rfl) rfl ?_
  refine lt_pure rfl trivial (val_move rfl) rfl ?_
  refine lt_held rfl trivial (val_load_old h9 (List.not_mem_nil) rfl Tryd.isAgg73 rfl) rfl ?_
  refine lt_held rfl trivial (val_load_old h3 (List.not_mem_nil) rfl Tryd.isAgg25 rfl) rfl ?_
  refine lt_call_row (E := 41) (size := 32) (k := P.length) (xs := List.flatMap (fun d : List UInt8 => List.map vU8 d) P) rfl trivial (callsToVal (cap := [vPtr b4, vPtr b3, vPtr b9]) rfl Tryd.func48 rfl (by kernel_rfl) rfl) rfl (fun w hm => ih w (hK.mem0 hm) (ht.mem hm) (hm.oldBlk h4) (hm.oldBlk h9) (hm.oldBlk h3)) (fun _ _ _ h => h.only (List.nil_sublist _)) (fun a43 c43 e43 hr43 => ?_)
  refine lt_call_pure (v := .agg ((lg k (seg l lo s)).map vU8).toArray) rfl trivial (callsTo Tryd.func46 rfl (by kernel_rfl) rfl) rfl (fun w hm => pwhole_any k h1 h2 b l hdl hfl hl w (hK.mem0 hm) (ht.mem hm) lo s (by omega) (by omega)) (fun _ _ h => h.only (List.nil_sublist _)) ?_
  refine lt_make (fun b => .slice (some ⟨b, 0, none⟩) 1 1) rfl trivial (acts_buildSlice (cs := [((lg k (seg l lo s))).map vU8].flatten) Tryd.underlying22 Tryd.sizeOf41 zD rfl rfl (fill_aggs [((lg k (seg l lo s))).map vU8] (by decide) rfl (by simp only [List.forall_mem_cons, List.length_map]; exact ⟨hD1, fun _ h => by cases h⟩))) rfl (fun _ _ _ h => h.only (List.nil_sublist _)) (fun b48 hb48 => ?_)
  refine lt_append (k := P.length + 1) (xs := (P ++ [(lg k (seg l lo s))]).flatMap fun d => d.map vU8) rfl trivial (acts_row (acts_append (size := 32) (bytes := 32) 1 rfl rfl rfl hr43 rfl Tryd.underlying22 hDi hDz hDsz hDby rfl (by decide) (fun w hm => (Rd.blk (hm.at (i := 0) rfl))) (by simp only [List.flatten_cons, List.flatten_nil, List.append_nil, List.length_append, List.length_map, hD1]) (fun u hu => by simp only [List.flatten_cons, List.flatten_nil, List.append_nil, List.mem_append] at hu; rcases hu with hu <;> exact one_u8s _ u hu) (by omega) (by omega)) rfl (by simp only [List.flatMap_append, List.flatMap_cons, List.flatMap_nil, List.flatten_cons, List.flatten_nil, List.nil_append, List.append_nil])) rfl (fun _ _ _ h => h.only (List.nil_sublist _)) (fun a49 c49 e49 hr49' => ?_)
  have hx49 : (P ++ [(lg k (seg l lo s))]).length = P.length + 1 := by rw [List.length_append] <;> rfl
  refine lt_pure rfl trivial (val_assign rfl) rfl ?_
  refine lt_done (into ?_)
  exact sw_ret (fun w hm => ret_one _ rfl rfl ⟨e49, hr49'.cong rfl (by rw [List.length_append]; rfl) rfl, hm.only (.cons _ (.cons_cons _ (List.nil_sublist _)))⟩)

theorem con_any (k : Nat) (h1 : 1 ≤ k) (h2 : k ≤ 32) (b : Nat) (l : List (List UInt8)) (hdl : ∀ d ∈ l, d.length = 32) (hfl : ∀ d ∈ l, fm (k : Int) d = true) (hl : l.length * 32 ≤ 140737488351232) (b3 b4 b9 i : Nat) : ∀ (N lo hi : Nat) (known : Bool) (w : World), hi - lo ≤ N → KW w → TreeIs 110 79 k w b l → w.heap[b4]? = some (blk [vU64 (UInt64.ofNat i)] 23) → w.heap[b9]? = some (blk [.func (.func 48) #[] #[vPtr b4, vPtr b3, vPtr b9]] 73) → w.heap[b3]? = some (blk [vPtr b] 25) → lo < i → i ≤ hi → hi ≤ l.length → Calls Tryd.prog 48 #[vU64 (UInt64.ofNat lo), vU64 (UInt64.ofNat hi), .bool known, vPtr b4, vPtr b3, vPtr b9] w fun e w2 => ∃ v, e = .returned v ∧ ∃ e', RowE v 41 32 (conL k (seg l lo hi) (i - lo) known).length ((conL k (seg l lo hi) (i - lo) known).flatMap fun d => d.map vU8) e' ∧ Mem w [] [e'] w2
  | N, lo, hi, known, w, hN, hK, ht, h4, h9, h3, hlo, hhi, hn => by
    have hsl := seg_len (l := l) (lo := lo) (hi := hi) hn
    by_cases he : i = hi
    · rw [conL_end (by omega)]
      cases known with
      | true => exact con_known k h1 h2 b l hdl hfl hl b3 b4 b9 i lo hi w hK ht h4 h9 h3 hlo hhi hn he
      | false => exact con_last k h1 h2 b l hdl hfl hl b3 b4 b9 i lo hi w hK ht h4 h9 h3 hlo hhi hn he
    match N, hN with
    | 0, hN => omega
    | N + 1, hN =>
      have hs1 := splitN_lt (n := hi - lo) (by omega)
      have hs2 := splitN_pos (hi - lo)
      have hel : ∀ {a c : Nat}, (∀ d ∈ seg l a c, d.length = 32) := seg_all hdl
      have hef : ∀ {a c : Nat}, (∀ d ∈ seg l a c, fm (k : Int) d = true) := seg_all hfl
      by_cases his : i ≤ lo + splitN (hi - lo)
      · rw [conL_left (by omega) (by omega) (s := lo + splitN (hi - lo) - lo) (by rw [hsl]; omega) (by omega), seg_takeL (by omega) (by omega), seg_dropL (by omega) (by omega)]
        exact con_left k h1 h2 b l hdl hfl hl b3 b4 b9 i lo hi w hK ht h4 h9 h3 hlo hhi hn known he _ rfl his _ (fun d hd => (conL_mem h1 h2 _ (Nat.le_refl _) hel hef d hd).1) (fun d hd => (conL_mem h1 h2 _ (Nat.le_refl _) hel hef d hd).2)
          (by have h7 := conL_len (k := k) _ (l := seg l lo (lo + splitN (hi - lo))) (m := i - lo) (known := known) (Nat.le_refl _) (by rw [seg_len (by omega)]; omega); rw [seg_len (by omega)] at h7; omega)
          (fun w' hK ht h4 h9 h3 => con_any k h1 h2 b l hdl hfl hl b3 b4 b9 i N lo (lo + splitN (hi - lo)) known w' (by omega) hK ht h4 h9 h3 hlo his (by omega))
      · rw [conL_right (by omega) (by omega) (s := lo + splitN (hi - lo) - lo) (by rw [hsl]; omega) (by omega), seg_takeL (by omega) (by omega), seg_dropL (by omega) (by omega), show i - lo - (lo + splitN (hi - lo) - lo) = i - (lo + splitN (hi - lo)) by omega]
        exact con_right k h1 h2 b l hdl hfl hl b3 b4 b9 i lo hi w hK ht h4 h9 h3 hlo hhi hn known he _ rfl his _ (fun d hd => (conL_mem h1 h2 _ (Nat.le_refl _) hel hef d hd).1) (fun d hd => (conL_mem h1 h2 _ (Nat.le_refl _) hel hef d hd).2)
          (by have h7 := conL_len (k := k) _ (l := seg l (lo + splitN (hi - lo)) hi) (m := i - (lo + splitN (hi - lo))) (known := false) (Nat.le_refl _) (by rw [seg_len (by omega)]; omega); rw [seg_len (by omega)] at h7; omega)
          (fun w' hK ht h4 h9 h3 => con_any k h1 h2 b l hdl hfl hl b3 b4 b9 i N (lo + splitN (hi - lo)) hi false w' (by omega) hK ht h4 h9 h3 (by omega) hhi hn)

theorem cons_zero (k : Nat) (h1 : 1 ≤ k) (h2 : k ≤ 32) (b : Nat) (l : List (List UInt8)) (hdl : ∀ d ∈ l, d.length = 32) (hfl : ∀ d ∈ l, fm (k : Int) d = true) (hl : l.length * 32 ≤ 140737488351232) (i n : Nat) (w : World) (hK : KW w) (ht : TreeIs 110 79 k w b l) (h : i ≤ n) (hn : n ≤ l.length) (h0 : i = 0) : Calls Tryd.prog 19 #[vPtr b, vU64 (UInt64.ofNat i), vU64 (UInt64.ofNat n)] w fun e w' => ∃ u, e = .returned u ∧ ∃ s e', u = .tuple #[s, vInt ((0 : Nat) : Int)] ∧ RowE s 41 32 (([] : List (List UInt8))).length ((([] : List (List UInt8))).flatMap fun d => d.map vU8) e' ∧ Mem w [] [e'] w' := by
  have hok : ¬ UInt64.ofNat l.length < UInt64.ofNat n := mt (at_lt (by omega) (by omega)).1 (by omega)
  refine calls_of_sw (vs := [vPtr b, vU64 (UInt64.ofNat i), vU64 (UInt64.ofNat n)]) Tryd.func19 rfl Tryd.ntmps19 rfl (SW.begin ?_)
  refine sw_seq ?_
  refine sw_region ?_
  refine ow_new (acts_box rfl) rfl (fun b3 hb3 => ?_)
  refine ow_new (acts_box rfl) rfl (fun b4 hb4 => ?_)
  refine ow_val (val_assign rfl) rfl ?_
  refine ow_val (val_assign rfl) rfl ?_
  refine ow_nil (into ?_)
  refine sw_seq ?_
  refine sw_seq ?_
  refine sw_region ?_
  refine ow_val (val_load_at 0 rfl rfl Tryd.isAgg23 rfl) rfl ?_
  refine ow_val (val_move rfl) rfl ?_
  refine ow_val ((val_leq_u64 rfl rfl).to (v' := .bool true) (congrArg Value.bool (decide_eq_true ((of_le (by omega) (by omega)).2 h)))) rfl ?_
  refine ow_val (val_load_at 1 rfl rfl Tryd.isAgg25 rfl) rfl ?_
  refine ow_val (val_move rfl) rfl ?_
  refine ow_call_pure (v := vInt ((0 : Nat) : Int)) (callsTo Tryd.func43 rfl (by kernel_rfl) rfl) rfl (fun w hm => pcheck_ok k b l (UInt64.ofNat n) w (ht.mem hm) hok) ?_
  refine ow_val (val_assign rfl) rfl ?_
  refine ow_nil (into ?_)
  refine sw_seq ?_
  refine sw_region ?_
  refine ow_val (val_move rfl) rfl ?_
  refine ow_val ((val_neq_int rfl rfl).to (v' := .bool false) (congrArg Value.bool (decide_eq_false (fun h => h (by simp))))) rfl ?_
  refine ow_nil (into ?_)
  refine sw_false rfl rfl ?_
  refine sw_skip (into ?_)
  refine sw_seq ?_
  refine sw_seq ?_
  refine sw_region ?_
  refine ow_val (val_load_at 0 rfl rfl Tryd.isAgg23 rfl) rfl ?_
  refine ow_val ((val_eql_u64 rfl rfl).to (congrArg Value.bool (decide_eq_true ((by rw [h0]; rfl))))) rfl ?_
  refine ow_val (val_move rfl) rfl ?_
  first | refine ow_guard_no rfl rfl rfl rfl rfl ?_ | refine ow_guard_none rfl rfl rfl rfl rfl ?_
  first | refine ow_guard_no rfl rfl rfl rfl rfl ?_ | refine ow_guard_none rfl rfl rfl rfl rfl ?_
  first | refine ow_guard_no rfl rfl rfl rfl rfl ?_ | refine ow_guard_none rfl rfl rfl rfl rfl ?_
  refine ow_val (val_pick_true rfl rfl) rfl ?_
  refine ow_nil (into ?_)
  refine sw_true rfl rfl ?_
  refine sw_seq ?_
  refine sw_region ?_
  refine ow_val (val_assign rfl) rfl ?_
  refine ow_val (val_assign rfl) rfl ?_
  refine ow_nil (into ?_)
  refine sw_ret (fun w hm => ?_)
  try dsimp only [thenP, blockP, Nat.beq, cond]
  exact ret_two _ _ rfl rfl rfl ⟨_, none, rfl, RowE.nil _ _, hm.forgetAll.place⟩

theorem cons_all (k : Nat) (h1 : 1 ≤ k) (h2 : k ≤ 32) (b : Nat) (l : List (List UInt8)) (hdl : ∀ d ∈ l, d.length = 32) (hfl : ∀ d ∈ l, fm (k : Int) d = true) (hl : l.length * 32 ≤ 140737488351232) (i n : Nat) (w : World) (hK : KW w) (ht : TreeIs 110 79 k w b l) (h : i ≤ n) (hn : n ≤ l.length) (h0 : ¬ i = 0) (he : i = n) : Calls Tryd.prog 19 #[vPtr b, vU64 (UInt64.ofNat i), vU64 (UInt64.ofNat n)] w fun e w' => ∃ u, e = .returned u ∧ ∃ s e', u = .tuple #[s, vInt ((0 : Nat) : Int)] ∧ RowE s 41 32 (([] : List (List UInt8))).length ((([] : List (List UInt8))).flatMap fun d => d.map vU8) e' ∧ Mem w [] [e'] w' := by
  have hok : ¬ UInt64.ofNat l.length < UInt64.ofNat n := mt (at_lt (by omega) (by omega)).1 (by omega)
  refine calls_of_sw (vs := [vPtr b, vU64 (UInt64.ofNat i), vU64 (UInt64.ofNat n)]) Tryd.func19 rfl Tryd.ntmps19 rfl (SW.begin ?_)
  refine sw_seq ?_
  refine sw_region ?_
  refine ow_new (acts_box rfl) rfl (fun b3 hb3 => ?_)
  refine ow_new (acts_box rfl) rfl (fun b4 hb4 => ?_)
  refine ow_val (val_assign rfl) rfl ?_
  refine ow_val (val_assign rfl) rfl ?_
  refine ow_nil (into ?_)
  refine sw_seq ?_
  refine sw_seq ?_
  refine sw_region ?_
  refine ow_val (val_load_at 0 rfl rfl Tryd.isAgg23 rfl) rfl ?_
  refine ow_val (val_move rfl) rfl ?_
  refine ow_val ((val_leq_u64 rfl rfl).to (v' := .bool true) (congrArg Value.bool (decide_eq_true ((of_le (by omega) (by omega)).2 h)))) rfl ?_
  refine ow_val (val_load_at 1 rfl rfl Tryd.isAgg25 rfl) rfl ?_
  refine ow_val (val_move rfl) rfl ?_
  refine ow_call_pure (v := vInt ((0 : Nat) : Int)) (callsTo Tryd.func43 rfl (by kernel_rfl) rfl) rfl (fun w hm => pcheck_ok k b l (UInt64.ofNat n) w (ht.mem hm) hok) ?_
  refine ow_val (val_assign rfl) rfl ?_
  refine ow_nil (into ?_)
  refine sw_seq ?_
  refine sw_region ?_
  refine ow_val (val_move rfl) rfl ?_
  refine ow_val ((val_neq_int rfl rfl).to (v' := .bool false) (congrArg Value.bool (decide_eq_false (fun h => h (by simp))))) rfl ?_
  refine ow_nil (into ?_)
  refine sw_false rfl rfl ?_
  refine sw_skip (into ?_)
  refine sw_seq ?_
  refine sw_seq ?_
  refine sw_region ?_
  refine ow_val (val_load_at 0 rfl rfl Tryd.isAgg23 rfl) rfl ?_
  refine ow_val ((val_eql_u64 rfl rfl).to (congrArg Value.bool (decide_eq_false (mt (of_inj (b := 0) (by omega) (by omega)).1 h0)))) rfl ?_
  refine ow_val (val_move rfl) rfl ?_
  refine ow_guard_yes rfl rfl rfl ?_
  refine ow_val (val_load_at 0 rfl rfl Tryd.isAgg23 rfl) rfl ?_
  refine ow_guard_yes rfl rfl rfl ?_
  refine ow_val (val_move rfl) rfl ?_
  refine ow_guard_yes rfl rfl rfl ?_
  refine ow_val ((val_eql_u64 rfl rfl).to (congrArg Value.bool (decide_eq_true ((by rw [he]))))) rfl ?_
  refine ow_val (val_pick_false rfl rfl) rfl ?_
  refine ow_nil (into ?_)
  refine sw_true rfl rfl ?_
  refine sw_seq ?_
  refine sw_region ?_
  refine ow_val (val_assign rfl) rfl ?_
  refine ow_val (val_assign rfl) rfl ?_
  refine ow_nil (into ?_)
  refine sw_ret (fun w hm => ?_)
  try dsimp only [thenP, blockP, Nat.beq, cond]
  exact ret_two _ _ rfl rfl rfl ⟨_, none, rfl, RowE.nil _ _, hm.forgetAll.place⟩

theorem cons_go (k : Nat) (h1 : 1 ≤ k) (h2 : k ≤ 32) (b : Nat) (l : List (List UInt8)) (hdl : ∀ d ∈ l, d.length = 32) (hfl : ∀ d ∈ l, fm (k : Int) d = true) (hl : l.length * 32 ≤ 140737488351232) (i n : Nat) (w : World) (hK : KW w) (ht : TreeIs 110 79 k w b l) (h : i ≤ n) (hn : n ≤ l.length) (h0 : ¬ i = 0) (he : ¬ i = n) (P : List (List UInt8)) (hP : conL k (seg l 0 n) i true = P) : Calls Tryd.prog 19 #[vPtr b, vU64 (UInt64.ofNat i), vU64 (UInt64.ofNat n)] w fun e w' => ∃ u, e = .returned u ∧ ∃ s e', u = .tuple #[s, vInt ((0 : Nat) : Int)] ∧ RowE s 41 32 P.length (P.flatMap fun d => d.map vU8) e' ∧ Mem w [] [e'] w' := by
  have hok : ¬ UInt64.ofNat l.length < UInt64.ofNat n := mt (at_lt (by omega) (by omega)).1 (by omega)
  refine calls_of_sw (vs := [vPtr b, vU64 (UInt64.ofNat i), vU64 (UInt64.ofNat n)]) Tryd.func19 rfl Tryd.ntmps19 rfl (SW.begin ?_)
  refine sw_seq ?_
  refine sw_region ?_
  refine ow_new (acts_box rfl) rfl (fun b3 hb3 => ?_)
  refine ow_new (acts_box rfl) rfl (fun b4 hb4 => ?_)
  refine ow_val (val_assign rfl) rfl ?_
  refine ow_val (val_assign rfl) rfl ?_
  refine ow_nil (into ?_)
  refine sw_seq ?_
  refine sw_seq ?_
  refine sw_region ?_
  refine ow_val (val_load_at 0 rfl rfl Tryd.isAgg23 rfl) rfl ?_
  refine ow_val (val_move rfl) rfl ?_
  refine ow_val ((val_leq_u64 rfl rfl).to (v' := .bool true) (congrArg Value.bool (decide_eq_true ((of_le (by omega) (by omega)).2 h)))) rfl ?_
  refine ow_val (val_load_at 1 rfl rfl Tryd.isAgg25 rfl) rfl ?_
  refine ow_val (val_move rfl) rfl ?_
  refine ow_call_pure (v := vInt ((0 : Nat) : Int)) (callsTo Tryd.func43 rfl (by kernel_rfl) rfl) rfl (fun w hm => pcheck_ok k b l (UInt64.ofNat n) w (ht.mem hm) hok) ?_
  refine ow_val (val_assign rfl) rfl ?_
  refine ow_nil (into ?_)
  refine sw_seq ?_
  refine sw_region ?_
  refine ow_val (val_move rfl) rfl ?_
  refine ow_val ((val_neq_int rfl rfl).to (v' := .bool false) (congrArg Value.bool (decide_eq_false (fun h => h (by simp))))) rfl ?_
  refine ow_nil (into ?_)
  refine sw_false rfl rfl ?_
  refine sw_skip (into ?_)
  refine sw_seq ?_
  refine sw_seq ?_
  refine sw_region ?_
  refine ow_val (val_load_at 0 rfl rfl Tryd.isAgg23 rfl) rfl ?_
  refine ow_val ((val_eql_u64 rfl rfl).to (congrArg Value.bool (decide_eq_false (mt (of_inj (b := 0) (by omega) (by omega)).1 h0)))) rfl ?_
  refine ow_val (val_move rfl) rfl ?_
  refine ow_guard_yes rfl rfl rfl ?_
  refine ow_val (val_load_at 0 rfl rfl Tryd.isAgg23 rfl) rfl ?_
  refine ow_guard_yes rfl rfl rfl ?_
  refine ow_val (val_move rfl) rfl ?_
  refine ow_guard_yes rfl rfl rfl ?_
  refine ow_val ((val_eql_u64 rfl rfl).to (congrArg Value.bool (decide_eq_false (mt (of_inj (by omega) (by omega)).1 he)))) rfl ?_
  refine ow_val (val_pick_false rfl rfl) rfl ?_
  refine ow_nil (into ?_)
  refine sw_false rfl rfl ?_
  refine sw_skip (into ?_)
  refine sw_seq ?_
  refine sw_region ?_
  refine ow_new (acts_alloc zF2) rfl (fun b9 hb9 => ?_)
  refine ow_nil (into ?_)
  refine sw_seq ?_
  refine sw_region ?_
  refine ow_val (val_makeFunc (vs := #[vPtr b4, vPtr b3, vPtr b9]) (fun a hf => by have h := evs_eval (xs := [.tmp 4, .tmp 3, .tmp 9]) (vs := [vPtr b4, vPtr b3, vPtr b9]) hf rfl; simpa using h)) rfl ?_
  refine ow_do (does_store 0 rfl rfl rfl rfl Tryd.sizeOf73 (by decide)) (fun _ _ => ?_)
  refine ow_nil (into ?_)
  refine sw_seq ?_
  refine sw_region ?_
  refine ow_val (val_load_at 0 rfl rfl Tryd.isAgg73 rfl) rfl ?_
  refine ow_val (val_move rfl) rfl ?_
  refine ow_call_row (E := 41) (size := 32) (k := P.length) (xs := List.flatMap (fun d : List UInt8 => List.map vU8 d) P) (callsToVal (cap := [vPtr b4, vPtr b3, vPtr b9]) rfl Tryd.func48 rfl (by kernel_rfl) rfl) rfl (fun w hm => (by have h := con_any k h1 h2 b l hdl hfl hl b3 b4 b9 i _ 0 n true w (Nat.le_refl _) (hK.mem0 hm) (ht.mem hm) (hm.at (i := 1) rfl) (hm.at (i := 0) rfl) (hm.at (i := 2) rfl) (by omega) h hn; rw [Nat.sub_zero, hP] at h; exact h)) (fun a29 c29 e29 hr29 => ?_)
  refine ow_val (val_assign rfl) rfl ?_
  refine ow_val (val_assign rfl) rfl ?_
  refine ow_nil (into ?_)
  exact sw_ret (fun w hm => ret_two _ _ rfl rfl rfl ⟨_, e29, rfl, hr29, hm.only (.cons_cons _ (List.nil_sublist _))⟩)

/-- What Consistency answers. -/
def conO (k : Nat) (l : List (List UInt8)) (i n : Nat) : List (List UInt8) := if i = 0 then [] else conL k (seg l 0 n) i true
theorem cons_any (k : Nat) (h1 : 1 ≤ k) (h2 : k ≤ 32) (b : Nat) (l : List (List UInt8)) (hdl : ∀ d ∈ l, d.length = 32) (hfl : ∀ d ∈ l, fm (k : Int) d = true) (hl : l.length * 32 ≤ 140737488351232) (i n : Nat) (w : World) (hK : KW w) (ht : TreeIs 110 79 k w b l) (h : i ≤ n) (hn : n ≤ l.length) (P : List (List UInt8)) (hP : conO k l i n = P) : Calls Tryd.prog 19 #[vPtr b, vU64 (UInt64.ofNat i), vU64 (UInt64.ofNat n)] w fun e w' => ∃ u, e = .returned u ∧ ∃ s e', u = .tuple #[s, vInt ((0 : Nat) : Int)] ∧ RowE s 41 32 P.length (P.flatMap fun d => d.map vU8) e' ∧ Mem w [] [e'] w' := by
  subst hP
  by_cases h0 : i = 0
  · rw [conO, if_pos h0]; exact cons_zero k h1 h2 b l hdl hfl hl i n w hK ht h hn h0
  rw [conO, if_neg h0]
  by_cases he : i = n
  · rw [conL_end (by rw [seg_len hn]; omega), if_pos rfl]; exact cons_all k h1 h2 b l hdl hfl hl i n w hK ht h hn h0 he
  · exact cons_go k h1 h2 b l hdl hfl hl i n w hK ht h hn h0 he _ rfl
end Go.Proofs.YtcdponddgnkecaaDoor
