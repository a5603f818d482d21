import Derived.Test.YtcdponddgnkecaaDoorMp3
import Derived.Test.YtcdponddgnkecaaDoorProg
set_option linter.unusedVariables false
set_option linter.unusedSimpArgs false
namespace Go.Proofs.YtcdponddgnkecaaDoor
open Go.Sx Go.Ps
theorem since_0 (k : Nat) (h1 : 1 ≤ k) (h2 : k ≤ 32) (mm : Nat) (w : World) (a : Option Addr) (c : Nat) (l : List (List UInt8)) (hdl : ∀ d ∈ l, d.length = 32) (hfl : ∀ d ∈ l, fm (k : Int) d = true) (hr : Rd w a (l.flatMap fun d => d.map vU8)) (hc : l.length ≤ c) (hb : l.length * 32 ≤ 140737488351232) (hm2 : mm ≤ l.length) (h0 : mm = 0) : Calls Tryd.prog 49 #[vInt (k : Int), .slice a l.length c, vInt (mm : Int)] w fun e w2 => ∃ v, e = .returned v ∧ ∃ e', RowE v 41 32 (([] : List (List UInt8))).length ((([] : List (List UInt8))).flatMap fun d => d.map vU8) e' ∧ Mem w [] [e'] w2 := by
  refine calls_of_sw (vs := [vInt (k : Int), .slice a l.length c, vInt (mm : Int)]) Tryd.func49 rfl Tryd.ntmps49 rfl (SW.begin ?_)
  refine sw_seq ?_
  refine sw_region ?_
  refine ow_val (val_assign rfl) rfl ?_
  refine ow_nil (into ?_)
  refine sw_seq ?_
  refine sw_seq ?_
  refine sw_region ?_
  refine ow_val (val_move rfl) rfl ?_
  refine ow_val ((val_eql_int rfl rfl).to (congrArg Value.bool (decide_eq_true (by omega)))) rfl ?_
  refine ow_nil (into ?_)
  refine sw_true rfl rfl ?_
  refine sw_seq ?_
  refine sw_region ?_
  refine ow_val (val_assign rfl) rfl ?_
  refine ow_nil (into ?_)
  refine sw_ret (fun w hm => ?_)
  try dsimp only [thenP, blockP, Nat.beq, cond]
  exact ret_one _ rfl rfl ⟨none, RowE.nil _ _, hm.place⟩

theorem since_1 (k : Nat) (h1 : 1 ≤ k) (h2 : k ≤ 32) (mm : Nat) (w : World) (a : Option Addr) (c : Nat) (l : List (List UInt8)) (hdl : ∀ d ∈ l, d.length = 32) (hfl : ∀ d ∈ l, fm (k : Int) d = true) (hr : Rd w a (l.flatMap fun d => d.map vU8)) (hc : l.length ≤ c) (hb : l.length * 32 ≤ 140737488351232) (hm2 : mm ≤ l.length) (h0 : ¬ mm = 0) : Calls Tryd.prog 49 #[vInt (k : Int), .slice a l.length c, vInt (mm : Int)] w fun e w2 => ∃ v, e = .returned v ∧ ∃ e', RowE v 41 32 (conL k l mm true).length ((conL k l mm true).flatMap fun d => d.map vU8) e' ∧ Mem w [] [e'] w2 := by
  refine calls_of_sw (vs := [vInt (k : Int), .slice a l.length c, vInt (mm : Int)]) Tryd.func49 rfl Tryd.ntmps49 rfl (SW.begin ?_)
  refine sw_seq ?_
  refine sw_region ?_
  refine ow_val (val_assign rfl) rfl ?_
  refine ow_nil (into ?_)
  refine sw_seq ?_
  refine sw_seq ?_
  refine sw_region ?_
  refine ow_val (val_move rfl) rfl ?_
  refine ow_val ((val_eql_int rfl rfl).to (congrArg Value.bool (decide_eq_false (by omega)))) rfl ?_
  refine ow_nil (into ?_)
  refine sw_false rfl rfl ?_
  refine sw_skip (into ?_)
  refine sw_seq ?_
  refine sw_region ?_
  refine ow_val (val_move rfl) rfl ?_
  refine ow_val (val_move rfl) rfl ?_
  refine ow_val (val_move rfl) rfl ?_
  refine ow_call_row (E := 41) (size := 32) (k := (conL k l mm true).length) (xs := List.flatMap (fun d : List UInt8 => List.map vU8 d) (conL k l mm true)) (callsTo Tryd.func78 rfl (by kernel_rfl) rfl) rfl (fun w hm => sub_any k h1 h2 _ mm true w a _ c l (Nat.le_refl _) rfl hdl hfl (hr.mem hm) hc hb (by omega) hm2) (fun a12 c12 e12 hr12 => ?_)
  refine ow_val (val_assign rfl) rfl ?_
  refine ow_nil (into ?_)
  exact sw_ret (fun w hm => ret_one _ rfl rfl ⟨_, hr12, hm⟩)

theorem seg_zero (l : List (List UInt8)) (n : Nat) : l.take n = seg l 0 n := by rw [seg, List.drop_zero, Nat.sub_zero]
/-- What Consistency answers, over a list of its own. -/
def sinL (k : Nat) (l : List (List UInt8)) (mm : Nat) : List (List UInt8) := if mm = 0 then [] else conL k l mm true
theorem rsince_any (k : Nat) (h1 : 1 ≤ k) (h2 : k ≤ 32) (mm : Nat) (w : World) (a : Option Addr) (m c : Nat) (l : List (List UInt8)) (hlm : l.length = m) (hdl : ∀ d ∈ l, d.length = 32) (hfl : ∀ d ∈ l, fm (k : Int) d = true) (hr : Rd w a (l.flatMap fun d => d.map vU8)) (hc : m ≤ c) (hb : l.length * 32 ≤ 140737488351232) (hm2 : mm ≤ m) {X : List (List UInt8)} (hX : sinL k l mm = X) : Calls Tryd.prog 49 #[vInt (k : Int), .slice a m c, vInt (mm : Int)] w fun e w2 => ∃ v, e = .returned v ∧ ∃ e', RowE v 41 32 X.length (X.flatMap fun d => d.map vU8) e' ∧ Mem w [] [e'] w2 := by
  subst hlm; subst hX
  by_cases h0 : mm = 0
  · rw [sinL, if_pos h0]; exact since_0 k h1 h2 mm w a c l hdl hfl hr hc hb hm2 h0
  · rw [sinL, if_neg h0]; exact since_1 k h1 h2 mm w a c l hdl hfl hr hc hb hm2 h0

theorem dinc_no (k : Nat) (i n : UInt64) (w : World) (a : Option Addr) (c : Nat) (l : List (List UInt8)) (hdl : ∀ d ∈ l, d.length = 32) (hfl : ∀ d ∈ l, fm (k : Int) d = true) (hr : Rd w a (l.flatMap fun d => d.map vU8)) (hc : l.length ≤ c) (hb : l.length * 32 ≤ 140737488351232) (h : n ≤ i) : Calls Tryd.prog 17 #[vInt (k : Int), .slice a l.length c, vU64 i, vU64 n] w fun e w' => ∃ v, e = .returned v ∧ v = .tuple #[.slice none 0 0, vInt ((4 : Nat) : Int)] ∧ Mem w [] [] w' := by
  refine calls_of_sw (vs := [vInt (k : Int), .slice a l.length c, vU64 i, vU64 n]) Tryd.func17 rfl Tryd.ntmps17 rfl (SW.begin ?_)
  refine sw_seq ?_
  refine sw_region ?_
  refine ow_val (val_assign rfl) rfl ?_
  refine ow_val (val_assign rfl) rfl ?_
  refine ow_nil (into ?_)
  refine sw_seq ?_
  refine sw_seq ?_
  refine sw_region ?_
  refine ow_val (val_move rfl) rfl ?_
  refine ow_val (val_move rfl) rfl ?_
  refine ow_val ((val_geq_u64 rfl rfl).to (v' := .bool true) (congrArg Value.bool (decide_eq_true h))) rfl ?_
  refine ow_val (val_move rfl) rfl ?_
  first | refine ow_guard_no rfl rfl rfl rfl rfl ?_ | refine ow_guard_none rfl rfl rfl rfl rfl ?_
  first | refine ow_guard_no rfl rfl rfl rfl rfl ?_ | refine ow_guard_none rfl rfl rfl rfl rfl ?_
  first | refine ow_guard_no rfl rfl rfl rfl rfl ?_ | refine ow_guard_none rfl rfl rfl rfl rfl ?_
  first | refine ow_guard_no rfl rfl rfl rfl rfl ?_ | refine ow_guard_none rfl rfl rfl rfl rfl ?_
  first | refine ow_guard_no rfl rfl rfl rfl rfl ?_ | refine ow_guard_none rfl rfl rfl rfl rfl ?_
  refine ow_val (val_pick_true rfl rfl) rfl ?_
  refine ow_nil (into ?_)
  refine sw_true rfl rfl ?_
  refine sw_seq ?_
  refine sw_region ?_
  refine ow_val (val_assign rfl) rfl ?_
  refine ow_val (val_assign rfl) rfl ?_
  refine ow_nil (into ?_)
  refine sw_ret (fun w hm => ?_)
  try dsimp only [thenP, blockP, Nat.beq, cond]
  exact ret_two _ _ rfl rfl rfl ⟨rfl, hm.forgetAll⟩

theorem dinc_big (k : Nat) (i n : UInt64) (w : World) (a : Option Addr) (c : Nat) (l : List (List UInt8)) (hdl : ∀ d ∈ l, d.length = 32) (hfl : ∀ d ∈ l, fm (k : Int) d = true) (hr : Rd w a (l.flatMap fun d => d.map vU8)) (hc : l.length ≤ c) (hb : l.length * 32 ≤ 140737488351232) (h : ¬ n ≤ i) (hbig : UInt64.ofNat l.length < n) : Calls Tryd.prog 17 #[vInt (k : Int), .slice a l.length c, vU64 i, vU64 n] w fun e w' => ∃ v, e = .returned v ∧ v = .tuple #[.slice none 0 0, vInt ((4 : Nat) : Int)] ∧ Mem w [] [] w' := by
  refine calls_of_sw (vs := [vInt (k : Int), .slice a l.length c, vU64 i, vU64 n]) Tryd.func17 rfl Tryd.ntmps17 rfl (SW.begin ?_)
  refine sw_seq ?_
  refine sw_region ?_
  refine ow_val (val_assign rfl) rfl ?_
  refine ow_val (val_assign rfl) rfl ?_
  refine ow_nil (into ?_)
  refine sw_seq ?_
  refine sw_seq ?_
  refine sw_region ?_
  refine ow_val (val_move rfl) rfl ?_
  refine ow_val (val_move rfl) rfl ?_
  refine ow_val ((val_geq_u64 rfl rfl).to (v' := .bool false) (congrArg Value.bool (decide_eq_false h))) rfl ?_
  refine ow_val (val_move rfl) rfl ?_
  refine ow_guard_yes rfl rfl rfl ?_
  refine ow_val (val_move rfl) rfl ?_
  refine ow_guard_yes rfl rfl rfl ?_
  refine ow_val (val_move rfl) rfl ?_
  refine ow_guard_yes rfl rfl rfl ?_
  refine ow_val (val_len rfl Tryd.underlying22) rfl ?_
  refine ow_guard_yes rfl rfl rfl ?_
  refine ow_val (val_conv_n_u64 l.length Tryd.underlying3 Tryd.underlying23 rfl rfl) rfl ?_
  refine ow_guard_yes rfl rfl rfl ?_
  refine ow_val ((val_gtr_u64 rfl rfl).to (v' := .bool true) (congrArg Value.bool (decide_eq_true hbig))) rfl ?_
  refine ow_val (val_pick_false rfl rfl) rfl ?_
  refine ow_nil (into ?_)
  refine sw_true rfl rfl ?_
  refine sw_seq ?_
  refine sw_region ?_
  refine ow_val (val_assign rfl) rfl ?_
  refine ow_val (val_assign rfl) rfl ?_
  refine ow_nil (into ?_)
  refine sw_ret (fun w hm => ?_)
  try dsimp only [thenP, blockP, Nat.beq, cond]
  exact ret_two _ _ rfl rfl rfl ⟨rfl, hm.forgetAll⟩

theorem dinc_go (k : Nat) (h1 : 1 ≤ k) (h2 : k ≤ 32) (i n : Nat) (w : World) (a : Option Addr) (c : Nat) (l : List (List UInt8)) (hdl : ∀ d ∈ l, d.length = 32) (hfl : ∀ d ∈ l, fm (k : Int) d = true) (hr : Rd w a (l.flatMap fun d => d.map vU8)) (hc : l.length ≤ c) (hb : l.length * 32 ≤ 140737488351232) (h : i < n) (hn : n ≤ l.length) (P : List (List UInt8)) (hP : incL k (seg l 0 n) i = P) : Calls Tryd.prog 17 #[vInt (k : Int), .slice a l.length c, vU64 (UInt64.ofNat i), vU64 (UInt64.ofNat n)] w fun e w' => ∃ u, e = .returned u ∧ ∃ s e', u = .tuple #[s, vInt ((0 : Nat) : Int)] ∧ RowE s 41 32 P.length (P.flatMap fun d => d.map vU8) e' ∧ Mem w [] [e'] w' := by
  have hsn : (seg l 0 n).length = n := by rw [seg_len hn]; omega
  have hsd : ∀ d ∈ seg l 0 n, d.length = 32 := seg_all hdl
  have hsf : ∀ d ∈ seg l 0 n, fm (k : Int) d = true := seg_all hfl
  have hsr : ∀ {w : World}, Rd w a (l.flatMap fun d => d.map vU8) → Rd w a ((seg l 0 n).flatMap fun d => d.map vU8) := fun h => by rw [← seg_zero]; exact rdTakeD h n
  refine calls_of_sw (vs := [vInt (k : Int), .slice a l.length c, vU64 (UInt64.ofNat i), vU64 (UInt64.ofNat n)]) Tryd.func17 rfl Tryd.ntmps17 rfl (SW.begin ?_)
  refine sw_seq ?_
  refine sw_region ?_
  refine ow_val (val_assign rfl) rfl ?_
  refine ow_val (val_assign rfl) rfl ?_
  refine ow_nil (into ?_)
  refine sw_seq ?_
  refine sw_seq ?_
  refine sw_region ?_
  refine ow_val (val_move rfl) rfl ?_
  refine ow_val (val_move rfl) rfl ?_
  refine ow_val ((val_geq_u64 rfl rfl).to (v' := .bool false) (congrArg Value.bool (decide_eq_false (mt (of_le (by omega) (by omega)).1 (by omega))))) rfl ?_
  refine ow_val (val_move rfl) rfl ?_
  refine ow_guard_yes rfl rfl rfl ?_
  refine ow_val (val_move rfl) rfl ?_
  refine ow_guard_yes rfl rfl rfl ?_
  refine ow_val (val_move rfl) rfl ?_
  refine ow_guard_yes rfl rfl rfl ?_
  refine ow_val (val_len rfl Tryd.underlying22) rfl ?_
  refine ow_guard_yes rfl rfl rfl ?_
  refine ow_val (val_conv_n_u64 l.length Tryd.underlying3 Tryd.underlying23 rfl rfl) rfl ?_
  refine ow_guard_yes rfl rfl rfl ?_
  refine ow_val ((val_gtr_u64 rfl rfl).to (v' := .bool false) (congrArg Value.bool (decide_eq_false (mt (at_lt (by omega) (by omega)).1 (by omega))))) rfl ?_
  refine ow_val (val_pick_false rfl rfl) rfl ?_
  refine ow_nil (into ?_)
  refine sw_false rfl rfl ?_
  refine sw_skip (into ?_)
  refine sw_seq ?_
  refine sw_region ?_
  refine ow_val (val_move rfl) rfl ?_
  refine ow_val (val_move rfl) rfl ?_
  refine ow_val (val_move rfl) rfl ?_
  refine ow_val (val_slice_hi n rfl rfl Tryd.underlying22 Tryd.sizeOf41 (by rw [of_nat (by omega)]) (by omega)) rfl ?_
  refine ow_val (val_move rfl) rfl ?_
  refine ow_val ((val_conv_u64_i64 Tryd.underlying23 Tryd.underlying3 rfl (by rw [of_nat (by omega)]; omega)).to (v' := vInt (i : Int)) (by rw [of_nat (by omega)])) rfl ?_
  refine ow_call_row (E := 41) (size := 32) (k := P.length) (xs := List.flatMap (fun d : List UInt8 => List.map vU8 d) P) (callsTo Tryd.func47 rfl (by kernel_rfl) rfl) rfl (fun w hm => path_any k h1 h2 i w a n c (seg l 0 n) hsn hsd hsf (hsr (hr.mem hm)) (by omega) (by omega) h hP) (fun a26 c26 e26 hr26 => ?_)
  refine ow_val (val_assign rfl) rfl ?_
  refine ow_val (val_assign rfl) rfl ?_
  refine ow_nil (into ?_)
  exact sw_ret (fun w hm => ret_two _ _ rfl rfl rfl ⟨_, _, rfl, hr26, hm⟩)

theorem dcon_no (k : Nat) (i n : UInt64) (w : World) (a : Option Addr) (c : Nat) (l : List (List UInt8)) (hdl : ∀ d ∈ l, d.length = 32) (hfl : ∀ d ∈ l, fm (k : Int) d = true) (hr : Rd w a (l.flatMap fun d => d.map vU8)) (hc : l.length ≤ c) (hb : l.length * 32 ≤ 140737488351232) (h : n < i) : Calls Tryd.prog 20 #[vInt (k : Int), .slice a l.length c, vU64 i, vU64 n] w fun e w' => ∃ v, e = .returned v ∧ v = .tuple #[.slice none 0 0, vInt ((4 : Nat) : Int)] ∧ Mem w [] [] w' := by
  refine calls_of_sw (vs := [vInt (k : Int), .slice a l.length c, vU64 i, vU64 n]) Tryd.func20 rfl Tryd.ntmps20 rfl (SW.begin ?_)
  refine sw_seq ?_
  refine sw_region ?_
  refine ow_val (val_assign rfl) rfl ?_
  refine ow_val (val_assign rfl) rfl ?_
  refine ow_nil (into ?_)
  refine sw_seq ?_
  refine sw_seq ?_
  refine sw_region ?_
  refine ow_val (val_move rfl) rfl ?_
  refine ow_val (val_move rfl) rfl ?_
  refine ow_val ((val_gtr_u64 rfl rfl).to (v' := .bool true) (congrArg Value.bool (decide_eq_true h))) rfl ?_
  refine ow_val (val_move rfl) rfl ?_
  first | refine ow_guard_no rfl rfl rfl rfl rfl ?_ | refine ow_guard_none rfl rfl rfl rfl rfl ?_
  first | refine ow_guard_no rfl rfl rfl rfl rfl ?_ | refine ow_guard_none rfl rfl rfl rfl rfl ?_
  first | refine ow_guard_no rfl rfl rfl rfl rfl ?_ | refine ow_guard_none rfl rfl rfl rfl rfl ?_
  first | refine ow_guard_no rfl rfl rfl rfl rfl ?_ | refine ow_guard_none rfl rfl rfl rfl rfl ?_
  first | refine ow_guard_no rfl rfl rfl rfl rfl ?_ | refine ow_guard_none rfl rfl rfl rfl rfl ?_
  refine ow_val (val_pick_true rfl rfl) rfl ?_
  refine ow_nil (into ?_)
  refine sw_true rfl rfl ?_
  refine sw_seq ?_
  refine sw_region ?_
  refine ow_val (val_assign rfl) rfl ?_
  refine ow_val (val_assign rfl) rfl ?_
  refine ow_nil (into ?_)
  refine sw_ret (fun w hm => ?_)
  try dsimp only [thenP, blockP, Nat.beq, cond]
  exact ret_two _ _ rfl rfl rfl ⟨rfl, hm.forgetAll⟩

theorem dcon_big (k : Nat) (i n : UInt64) (w : World) (a : Option Addr) (c : Nat) (l : List (List UInt8)) (hdl : ∀ d ∈ l, d.length = 32) (hfl : ∀ d ∈ l, fm (k : Int) d = true) (hr : Rd w a (l.flatMap fun d => d.map vU8)) (hc : l.length ≤ c) (hb : l.length * 32 ≤ 140737488351232) (h : ¬ n < i) (hbig : UInt64.ofNat l.length < n) : Calls Tryd.prog 20 #[vInt (k : Int), .slice a l.length c, vU64 i, vU64 n] w fun e w' => ∃ v, e = .returned v ∧ v = .tuple #[.slice none 0 0, vInt ((4 : Nat) : Int)] ∧ Mem w [] [] w' := by
  refine calls_of_sw (vs := [vInt (k : Int), .slice a l.length c, vU64 i, vU64 n]) Tryd.func20 rfl Tryd.ntmps20 rfl (SW.begin ?_)
  refine sw_seq ?_
  refine sw_region ?_
  refine ow_val (val_assign rfl) rfl ?_
  refine ow_val (val_assign rfl) rfl ?_
  refine ow_nil (into ?_)
  refine sw_seq ?_
  refine sw_seq ?_
  refine sw_region ?_
  refine ow_val (val_move rfl) rfl ?_
  refine ow_val (val_move rfl) rfl ?_
  refine ow_val ((val_gtr_u64 rfl rfl).to (v' := .bool false) (congrArg Value.bool (decide_eq_false h))) rfl ?_
  refine ow_val (val_move rfl) rfl ?_
  refine ow_guard_yes rfl rfl rfl ?_
  refine ow_val (val_move rfl) rfl ?_
  refine ow_guard_yes rfl rfl rfl ?_
  refine ow_val (val_move rfl) rfl ?_
  refine ow_guard_yes rfl rfl rfl ?_
  refine ow_val (val_len rfl Tryd.underlying22) rfl ?_
  refine ow_guard_yes rfl rfl rfl ?_
  refine ow_val (val_conv_n_u64 l.length Tryd.underlying3 Tryd.underlying23 rfl rfl) rfl ?_
  refine ow_guard_yes rfl rfl rfl ?_
  refine ow_val ((val_gtr_u64 rfl rfl).to (v' := .bool true) (congrArg Value.bool (decide_eq_true hbig))) rfl ?_
  refine ow_val (val_pick_false rfl rfl) rfl ?_
  refine ow_nil (into ?_)
  refine sw_true rfl rfl ?_
  refine sw_seq ?_
  refine sw_region ?_
  refine ow_val (val_assign rfl) rfl ?_
  refine ow_val (val_assign rfl) rfl ?_
  refine ow_nil (into ?_)
  refine sw_ret (fun w hm => ?_)
  try dsimp only [thenP, blockP, Nat.beq, cond]
  exact ret_two _ _ rfl rfl rfl ⟨rfl, hm.forgetAll⟩

theorem dcon_go (k : Nat) (h1 : 1 ≤ k) (h2 : k ≤ 32) (i n : Nat) (w : World) (a : Option Addr) (c : Nat) (l : List (List UInt8)) (hdl : ∀ d ∈ l, d.length = 32) (hfl : ∀ d ∈ l, fm (k : Int) d = true) (hr : Rd w a (l.flatMap fun d => d.map vU8)) (hc : l.length ≤ c) (hb : l.length * 32 ≤ 140737488351232) (h : i ≤ n) (hn : n ≤ l.length) (P : List (List UInt8)) (hP : sinL k (seg l 0 n) i = P) : Calls Tryd.prog 20 #[vInt (k : Int), .slice a l.length c, vU64 (UInt64.ofNat i), vU64 (UInt64.ofNat n)] w fun e w' => ∃ u, e = .returned u ∧ ∃ s e', u = .tuple #[s, vInt ((0 : Nat) : Int)] ∧ RowE s 41 32 P.length (P.flatMap fun d => d.map vU8) e' ∧ Mem w [] [e'] w' := by
  have hsn : (seg l 0 n).length = n := by rw [seg_len hn]; omega
  have hsd : ∀ d ∈ seg l 0 n, d.length = 32 := seg_all hdl
  have hsf : ∀ d ∈ seg l 0 n, fm (k : Int) d = true := seg_all hfl
  have hsr : ∀ {w : World}, Rd w a (l.flatMap fun d => d.map vU8) → Rd w a ((seg l 0 n).flatMap fun d => d.map vU8) := fun h => by rw [← seg_zero]; exact rdTakeD h n
  refine calls_of_sw (vs := [vInt (k : Int), .slice a l.length c, vU64 (UInt64.ofNat i), vU64 (UInt64.ofNat n)]) Tryd.func20 rfl Tryd.ntmps20 rfl (SW.begin ?_)
  refine sw_seq ?_
  refine sw_region ?_
  refine ow_val (val_assign rfl) rfl ?_
  refine ow_val (val_assign rfl) rfl ?_
  refine ow_nil (into ?_)
  refine sw_seq ?_
  refine sw_seq ?_
  refine sw_region ?_
  refine ow_val (val_move rfl) rfl ?_
  refine ow_val (val_move rfl) rfl ?_
  refine ow_val ((val_gtr_u64 rfl rfl).to (v' := .bool false) (congrArg Value.bool (decide_eq_false (mt (at_lt (by omega) (by omega)).1 (by omega))))) rfl ?_
  refine ow_val (val_move rfl) rfl ?_
  refine ow_guard_yes rfl rfl rfl ?_
  refine ow_val (val_move rfl) rfl ?_
  refine ow_guard_yes rfl rfl rfl ?_
  refine ow_val (val_move rfl) rfl ?_
  refine ow_guard_yes rfl rfl rfl ?_
  refine ow_val (val_len rfl Tryd.underlying22) rfl ?_
  refine ow_guard_yes rfl rfl rfl ?_
  refine ow_val (val_conv_n_u64 l.length Tryd.underlying3 Tryd.underlying23 rfl rfl) rfl ?_
  refine ow_guard_yes rfl rfl rfl ?_
  refine ow_val ((val_gtr_u64 rfl rfl).to (v' := .bool false) (congrArg Value.bool (decide_eq_false (mt (at_lt (by omega) (by omega)).1 (by omega))))) rfl ?_
  refine ow_val (val_pick_false rfl rfl) rfl ?_
  refine ow_nil (into ?_)
  refine sw_false rfl rfl ?_
  refine sw_skip (into ?_)
  refine sw_seq ?_
  refine sw_region ?_
  refine ow_val (val_move rfl) rfl ?_
  refine ow_val (val_move rfl) rfl ?_
  refine ow_val (val_move rfl) rfl ?_
  refine ow_val (val_slice_hi n rfl rfl Tryd.underlying22 Tryd.sizeOf41 (by rw [of_nat (by omega)]) (by omega)) rfl ?_
  refine ow_val (val_move rfl) rfl ?_
  refine ow_val ((val_conv_u64_i64 Tryd.underlying23 Tryd.underlying3 rfl (by rw [of_nat (by omega)]; omega)).to (v' := vInt (i : Int)) (by rw [of_nat (by omega)])) rfl ?_
  refine ow_call_row (E := 41) (size := 32) (k := P.length) (xs := List.flatMap (fun d : List UInt8 => List.map vU8 d) P) (callsTo Tryd.func49 rfl (by kernel_rfl) rfl) rfl (fun w hm => rsince_any k h1 h2 i w a n c (seg l 0 n) hsn hsd hsf (hsr (hr.mem hm)) (by omega) (by omega) h hP) (fun a26 c26 e26 hr26 => ?_)
  refine ow_val (val_assign rfl) rfl ?_
  refine ow_val (val_assign rfl) rfl ?_
  refine ow_nil (into ?_)
  exact sw_ret (fun w hm => ret_two _ _ rfl rfl rfl ⟨_, _, rfl, hr26, hm⟩)

theorem same_ne (w : World) (a : Option Addr) (c : Nat) (l : List (List UInt8)) (hdl : ∀ d ∈ l, d.length = 32) (hr : Rd w a (l.flatMap fun d => d.map vU8)) (hc : l.length ≤ c) (hl : l.length < 9223372036854775808) (a2 : Option Addr) (c2 : Nat) (qs : List (List UInt8)) (hql : ∀ d ∈ qs, d.length = 32) (hq : Rd w a2 (qs.flatMap fun d => d.map vU8)) (hc2 : qs.length ≤ c2) (hl2 : qs.length < 9223372036854775808) (hne : ¬ l.length = qs.length) : Calls Tryd.prog 18 #[.slice a l.length c, .slice a2 qs.length c2] w fun e w' => ∃ v, e = .returned v ∧ v = .bool (decide (l = qs)) ∧ Mem w [] [] w' := by
  refine calls_of_sw (vs := [.slice a l.length c, .slice a2 qs.length c2]) Tryd.func18 rfl Tryd.ntmps18 rfl (SW.begin ?_)
  refine sw_seq ?_
  refine sw_region ?_
  refine ow_val (val_assign rfl) rfl ?_
  refine ow_nil (into ?_)
  refine sw_seq ?_
  refine sw_seq ?_
  refine sw_region ?_
  refine ow_val (val_move rfl) rfl ?_
  refine ow_val (val_len rfl Tryd.underlying22) rfl ?_
  refine ow_val (val_move rfl) rfl ?_
  refine ow_val (val_len rfl Tryd.underlying22) rfl ?_
  refine ow_val ((val_neq_int rfl rfl).to (congrArg Value.bool (decide_eq_true (by omega)))) rfl ?_
  refine ow_nil (into ?_)
  refine sw_true rfl rfl ?_
  refine sw_seq ?_
  refine sw_region ?_
  refine ow_val (val_assign rfl) rfl ?_
  refine ow_nil (into ?_)
  refine sw_ret (fun w hm => ?_)
  try dsimp only [thenP, blockP, Nat.beq, cond]
  exact ret_one _ rfl rfl ⟨by rw [decide_eq_false (fun h => hne (congrArg List.length h))] <;> rfl, hm.forgetAll⟩

theorem same_end {l q : List (List UInt8)} {j : Nat} (hj : l.length ≤ j) (hl : l.length = q.length) (h : l.take j = q.take j) : l = q := by
  rw [List.take_of_length_le hj, List.take_of_length_le (by omega)] at h; exact h

theorem same_eq (w : World) (a : Option Addr) (c : Nat) (l : List (List UInt8)) (hdl : ∀ d ∈ l, d.length = 32) (hr : Rd w a (l.flatMap fun d => d.map vU8)) (hc : l.length ≤ c) (hl : l.length < 9223372036854775808) (a2 : Option Addr) (c2 : Nat) (qs : List (List UInt8)) (hql : ∀ d ∈ qs, d.length = 32) (hq : Rd w a2 (qs.flatMap fun d => d.map vU8)) (hc2 : qs.length ≤ c2) (hl2 : qs.length < 9223372036854775808) (hne : l.length = qs.length) : Calls Tryd.prog 18 #[.slice a l.length c, .slice a2 qs.length c2] w fun e w' => ∃ v, e = .returned v ∧ v = .bool (decide (l = qs)) ∧ Mem w [] [] w' := by
  refine calls_of_sw (vs := [.slice a l.length c, .slice a2 qs.length c2]) Tryd.func18 rfl Tryd.ntmps18 rfl (SW.begin ?_)
  refine sw_seq ?_
  refine sw_region ?_
  refine ow_val (val_assign rfl) rfl ?_
  refine ow_nil (into ?_)
  refine sw_seq ?_
  refine sw_seq ?_
  refine sw_region ?_
  refine ow_val (val_move rfl) rfl ?_
  refine ow_val (val_len rfl Tryd.underlying22) rfl ?_
  refine ow_val (val_move rfl) rfl ?_
  refine ow_val (val_len rfl Tryd.underlying22) rfl ?_
  refine ow_val ((val_neq_int rfl rfl).to (congrArg Value.bool (decide_eq_false (by omega)))) rfl ?_
  refine ow_nil (into ?_)
  refine sw_false rfl rfl ?_
  refine sw_skip (into ?_)
  refine sw_seq ?_
  refine sw_seq ?_
  refine sw_region ?_
  refine ow_val (val_assign rfl) rfl ?_
  refine ow_nil (into ?_)
  refine sw_block ?_
  refine sw_loop (σ := Nat) (fun j => j ≤ l.length ∧ l.take j = qs.take j) (fun j => [(5, vInt (j : Int)), (1, .slice a2 qs.length c2), (0, .slice a l.length c)]) (fun _ => Mem w [] []) (fun j => l.length - j) 0 ⟨Nat.zero_le _, by simp⟩ ⟨rfl, rfl, rfl, trivial⟩ (fun w hm => hm) ?_
  rintro j ⟨hj, htk⟩
  refine sw_seq ?_
  refine sw_seq ?_
  refine sw_region ?_
  refine ow_val (val_move rfl) rfl ?_
  refine ow_val (val_move rfl) rfl ?_
  refine ow_val (val_len rfl Tryd.underlying22) rfl ?_
  refine ow_val (val_lss_int rfl rfl) rfl ?_
  refine ow_nil (into ?_)
  refine sw_if rfl (fun h0 => ?_) (fun h0 => ?_)
  · -- then
    obtain ⟨ba, oa, rfl⟩ := hr.addr (by rw [flatMap_size' rfl hdl]; omega)
    obtain ⟨bb, ob, rfl⟩ := hq.addr (by rw [flatMap_size' rfl hql]; omega)
    refine sw_skip (into ?_)
    refine sw_seq ?_
    refine sw_block ?_
    refine sw_seq ?_
    by_cases hxy0 : (l.getD j default) ≠ (qs.getD j default)
    · -- yes
      have hxy := hxy0
      refine sw_region_lex _ [] [(0, 0), (1, 0), (2, 0), (4, 0), (5, 0), (6, 0), (3, 1), (7, 1), (8, 0)] (by kernel_rfl) (by kernel_rfl) (fun _ _ _ h => h) (fun _ h => h) (fun _ h => h.drawn _) ?_
      refine lw_pure rfl (val_move rfl) rfl ?_
      refine lw_pure rfl (val_move rfl) rfl ?_
      refine lw_pure rfl (val_indexAddr_slice (j) (oa + j * 32) rfl rfl Tryd.underlying22 Tryd.sizeOf41 (by omega) (by omega) (by omega)) rfl ?_
      refine lw_pure rfl (val_move rfl) rfl ?_
      refine lw_pure rfl (val_move rfl) rfl ?_
      refine lw_pure rfl (val_indexAddr_slice (j) (ob + j * 32) rfl rfl Tryd.underlying22 Tryd.sizeOf41 (by omega) (by omega) (by omega)) rfl ?_
      refine lw_held rfl (val_load_elem (cells := fun d => d.map vU8) (l := l) (o := oa) (i := j) rfl Tryd.isAgg41 Tryd.sizeOf41 (fun x hx => by rw [List.length_map]; exact hdl x hx) (by omega) (by omega) (fun w' hm => hr.mem hm)) rfl ?_
      refine lw_held rfl (val_load_elem (cells := fun d => d.map vU8) (l := qs) (o := ob) (i := j) rfl Tryd.isAgg41 Tryd.sizeOf41 (fun x hx => by rw [List.length_map]; exact hql x hx) (by omega) (by omega) (fun w' hm => hq.mem hm)) rfl ?_
      refine lw_pure rfl ((val_neq_u8s rfl rfl Tryd.eqGuardType41 Tryd.underlying41 Tryd.underlying5 Tryd.sizeOf5 Tryd.isAgg5 (hdl _ (getD_mem (by omega))) (hql _ (getD_mem (by omega)))).to (congrArg Value.bool (show (!decide _) = true by rw [decide_eq_false hxy]; rfl))) rfl ?_
      refine lw_nil (into ?_)
      refine sw_true rfl rfl ?_
      refine sw_seq ?_
      refine sw_region ?_
      refine ow_val (val_assign rfl) rfl ?_
      refine ow_nil (into ?_)
      refine sw_ret (fun w hm => ?_)
      try dsimp only [thenP, blockP, Nat.beq, cond]
      exact ret_one _ rfl rfl ⟨by rw [decide_eq_false (fun h => hxy (by rw [h]))] <;> rfl, hm.forgetAll⟩
    · -- no
      have hxy := Decidable.not_not.1 hxy0
      refine sw_region_lex _ [] [(0, 0), (1, 0), (2, 0), (4, 0), (5, 0), (6, 0), (3, 1), (7, 1), (8, 0)] (by kernel_rfl) (by kernel_rfl) (fun _ _ _ h => h) (fun _ h => h) (fun _ h => h.drawn _) ?_
      refine lw_pure rfl (val_move rfl) rfl ?_
      refine lw_pure rfl (val_move rfl) rfl ?_
      refine lw_pure rfl (val_indexAddr_slice (j) (oa + j * 32) rfl rfl Tryd.underlying22 Tryd.sizeOf41 (by omega) (by omega) (by omega)) rfl ?_
      refine lw_pure rfl (val_move rfl) rfl ?_
      refine lw_pure rfl (val_move rfl) rfl ?_
      refine lw_pure rfl (val_indexAddr_slice (j) (ob + j * 32) rfl rfl Tryd.underlying22 Tryd.sizeOf41 (by omega) (by omega) (by omega)) rfl ?_
      refine lw_held rfl (val_load_elem (cells := fun d => d.map vU8) (l := l) (o := oa) (i := j) rfl Tryd.isAgg41 Tryd.sizeOf41 (fun x hx => by rw [List.length_map]; exact hdl x hx) (by omega) (by omega) (fun w' hm => hr.mem hm)) rfl ?_
      refine lw_held rfl (val_load_elem (cells := fun d => d.map vU8) (l := qs) (o := ob) (i := j) rfl Tryd.isAgg41 Tryd.sizeOf41 (fun x hx => by rw [List.length_map]; exact hql x hx) (by omega) (by omega) (fun w' hm => hq.mem hm)) rfl ?_
      refine lw_pure rfl ((val_neq_u8s rfl rfl Tryd.eqGuardType41 Tryd.underlying41 Tryd.underlying5 Tryd.sizeOf5 Tryd.isAgg5 (hdl _ (getD_mem (by omega))) (hql _ (getD_mem (by omega)))).to (congrArg Value.bool (show (!decide _) = false by rw [decide_eq_true hxy]; rfl))) rfl ?_
      refine lw_nil (into ?_)
      refine sw_false rfl rfl ?_
      refine sw_skip (into ?_)
      refine sw_region ?_
      refine ow_val (val_move rfl) rfl ?_
      refine ow_val (val_add_int ((j + 1 : Nat) : Int) rfl rfl (by omega) (by omega)) rfl ?_
      refine ow_val (val_assign rfl) rfl ?_
      exact ow_nil (fun w hm => ⟨j + 1, ⟨by omega, by rw [List.take_succ_eq_append_getElem (by omega), List.take_succ_eq_append_getElem (by omega), htk]; simp [List.getD_eq_getElem?_getD, show j < l.length by omega, show j < qs.length by omega] at hxy; rw [hxy]⟩, by omega, ⟨rfl, rfl, rfl, trivial⟩, hm.forgetAll⟩)
  · -- else
    refine sw_exit (into ?_)
    refine sw_seq ?_
    refine sw_region ?_
    refine ow_val (val_assign rfl) rfl ?_
    refine ow_nil (into ?_)
    refine sw_ret (fun w hm => ?_)
    try dsimp only [thenP, blockP, Nat.beq, cond]
    exact ret_one _ rfl rfl ⟨by rw [decide_eq_true (same_end (by omega) hne htk)] <;> rfl, hm.forgetAll⟩

theorem same_is {b : Bool} (w : World) (a : Option Addr) (m c : Nat) (l : List (List UInt8)) (hlm : l.length = m) (hdl : ∀ d ∈ l, d.length = 32) (hr : Rd w a (l.flatMap fun d => d.map vU8)) (hc : m ≤ c) (hl : m < 9223372036854775808)
    (a2 : Option Addr) (m2 c2 : Nat) (qs : List (List UInt8)) (hqm : qs.length = m2) (hql : ∀ d ∈ qs, d.length = 32) (hq : Rd w a2 (qs.flatMap fun d => d.map vU8)) (hc2 : m2 ≤ c2) (hl2 : m2 < 9223372036854775808) (hb : decide (l = qs) = b) : Calls Tryd.prog 18 #[.slice a m c, .slice a2 m2 c2] w fun e w' => ∃ v, e = .returned v ∧ v = .bool b ∧ Mem w [] [] w' := by
  subst hlm; subst hqm; subst hb
  by_cases hne : l.length = qs.length
  · exact same_eq w a c l hdl hr hc hl a2 c2 qs hql hq hc2 hl2 hne
  · exact same_ne w a c l hdl hr hc hl a2 c2 qs hql hq hc2 hl2 hne

theorem twin_any (w : World) (a : Option Addr) (c : Nat) (l : List (List UInt8)) (hdl : ∀ d ∈ l, d.length = 32) (hr : Rd w a (l.flatMap fun d => d.map vU8)) (hc : l.length ≤ c) (hb : l.length * 32 ≤ 140737488351232) : Calls Tryd.prog 25 #[.slice a l.length c] w fun e w2 => ∃ v, e = .returned v ∧ ∃ e', RowE v 41 32 l.length (l.flatMap fun d => d.map vU8) e' ∧ Mem w [] [e'] w2 := by
  obtain ⟨tiD, hDi, hDz, hDsz, hDby⟩ := info_parts iDg
  refine calls_of_sw (vs := [.slice a l.length c]) Tryd.func25 rfl Tryd.ntmps25 rfl (SW.begin ?_)
  refine sw_seq ?_
  refine sw_region ?_
  refine ow_val (val_assign rfl) rfl ?_
  refine ow_nil (into ?_)
  refine sw_seq ?_
  refine sw_region ?_
  refine ow_val (val_assign rfl) rfl ?_
  refine ow_nil (into ?_)
  refine sw_seq ?_
  refine sw_region ?_
  refine ow_val (val_move rfl) rfl ?_
  refine ow_val (val_move rfl) rfl ?_
  refine ow_place ?_
  refine ow_append' (k := l.length) (xs := l.flatMap fun d => d.map vU8) (acts_row (acts_append (size := 32) (bytes := 32) 0 rfl rfl rfl (RowE.nil _ _) rfl Tryd.underlying22 hDi hDz hDsz hDby rfl (by decide) (fun w hm => hr.mem hm) (flatMap_size' rfl hdl) (one_dgs _) (by omega) (by omega)) (Nat.zero_add _) (by rw [List.nil_append])) rfl (fun a6 c6 e6 hr6' => ?_)
  refine ow_val (val_assign rfl) rfl ?_
  refine ow_nil (into ?_)
  exact sw_ret (fun w hm => ret_one _ rfl rfl ⟨_, hr6', hm⟩)

theorem stN_le64 (i n : UInt64) (h : i < n) : stN i.toNat n.toNat ≤ 64 := by rw [← splitsL_st _ i n (Nat.le_refl _) h]; exact splitsL_le64

theorem rsteps_0 (i n : UInt64) (w : World) (hin : i.toNat < n.toNat) : Calls Tryd.prog 52 #[vU64 i, vU64 n] w fun e w' => ∃ v, e = .returned v ∧ v = vInt ((stN i.toNat n.toNat : Nat) : Int) ∧ Mem w [] [] w' := by
  refine calls_of_sw (vs := [vU64 i, vU64 n]) Tryd.func52 rfl Tryd.ntmps52 rfl (SW.begin ?_)
  refine sw_seq ?_
  refine sw_region ?_
  refine ow_val (val_assign rfl) rfl ?_
  refine ow_nil (into ?_)
  refine sw_seq ?_
  refine sw_region ?_
  refine ow_val (val_assign rfl) rfl ?_
  refine ow_nil (into ?_)
  refine sw_seq ?_
  refine sw_block ?_
  refine sw_loop (σ := UInt64 × UInt64 × Nat) (fun t => t.2.2 + stN t.1.toNat t.2.1.toNat = stN i.toNat n.toNat ∧ t.1.toNat < t.2.1.toNat) (fun t => [(5, vInt (t.2.2 : Int)), (1, vU64 t.2.1), (0, vU64 t.1)]) (fun _ => Mem w [] []) (fun t => t.2.1.toNat) (i, n, 0) ⟨Nat.zero_add _, hin⟩ ⟨rfl, rfl, rfl, trivial⟩ (fun w hm => hm) ?_
  rintro ⟨x, y, c⟩ ⟨hsum, hxy⟩
  simp only at hsum hxy ⊢
  have hyl := y.toNat_lt
  refine sw_seq ?_
  refine sw_seq ?_
  refine sw_region ?_
  refine ow_val (val_move rfl) rfl ?_
  refine ow_val (val_gtr_u64 rfl rfl) rfl ?_
  refine ow_nil (into ?_)
  refine sw_if rfl (fun h0 => ?_) (fun h0 => ?_)
  · -- then
    have hy2 : 2 ≤ y.toNat := UInt64.lt_iff_toNat_lt.1 h0
    have hx' : (x / UInt64.ofNat (Int.toNat 2)).toNat = x.toNat / 2 := UInt64.toNat_div _ _
    have hym : (y % UInt64.ofNat (Int.toNat 2)).toNat = y.toNat % 2 := UInt64.toNat_mod _ _
    have hyd : (y / UInt64.ofNat (Int.toNat 2)).toNat = y.toNat / 2 := UInt64.toNat_div _ _
    have hy' : (y / UInt64.ofNat (Int.toNat 2) + y % UInt64.ofNat (Int.toNat 2)).toNat = (y.toNat + 1) / 2 := by rw [UInt64.toNat_add, hyd, hym, Nat.mod_eq_of_lt (by omega)]; omega
    have hxm : (x % UInt64.ofNat (Int.toNat 2)).toNat = x.toNat % 2 := UInt64.toNat_mod _ _
    have hx1 : (x + UInt64.ofNat (Int.toNat 1)).toNat = x.toNat + 1 := by rw [UInt64.toNat_add]; show (x.toNat + 1) % 2 ^ 64 = _; omega
    have hst := stN_le64 i n (UInt64.lt_iff_toNat_lt.2 hin)
    refine sw_skip (into ?_)
    refine sw_block ?_
    refine sw_seq ?_
    refine sw_seq ?_
    refine sw_region ?_
    refine ow_val (val_move rfl) rfl ?_
    refine ow_val (val_rem_u64 rfl rfl (by decide)) rfl ?_
    by_cases hp1 : x.toNat % 2 = 1
    · -- yes
      have hbr : bro x.toNat < y.toNat := by unfold bro; omega
      refine ow_val ((val_eql_u64 rfl rfl).to (congrArg Value.bool (decide_eq_true ((UInt64.toNat.inj (hxm.trans (hp1.trans (show 1 = (UInt64.ofNat (Int.toNat 1)).toNat from rfl)))))))) rfl ?_
      refine ow_val (val_move rfl) rfl ?_
      first | refine ow_guard_no rfl rfl rfl rfl rfl ?_ | refine ow_guard_none rfl rfl rfl rfl rfl ?_
      first | refine ow_guard_no rfl rfl rfl rfl rfl ?_ | refine ow_guard_none rfl rfl rfl rfl rfl ?_
      first | refine ow_guard_no rfl rfl rfl rfl rfl ?_ | refine ow_guard_none rfl rfl rfl rfl rfl ?_
      first | refine ow_guard_no rfl rfl rfl rfl rfl ?_ | refine ow_guard_none rfl rfl rfl rfl rfl ?_
      refine ow_val (val_pick_true rfl rfl) rfl ?_
      refine ow_nil (into ?_)
      refine sw_true rfl rfl ?_
      refine sw_region ?_
      refine ow_val (val_move rfl) rfl ?_
      refine ow_val (val_add_int ((c + 1 : Nat) : Int) rfl rfl (by omega) (by omega)) rfl ?_
      refine ow_val (val_assign rfl) rfl ?_
      refine ow_nil (into ?_)
      refine sw_region ?_
      refine ow_val (val_move rfl) rfl ?_
      refine ow_val (val_quo_u64 rfl rfl (by decide)) rfl ?_
      refine ow_val (val_move rfl) rfl ?_
      refine ow_val (val_quo_u64 rfl rfl (by decide)) rfl ?_
      refine ow_val (val_move rfl) rfl ?_
      refine ow_val (val_rem_u64 rfl rfl (by decide)) rfl ?_
      refine ow_val (val_add_u64 rfl rfl) rfl ?_
      refine ow_val (val_assign rfl) rfl ?_
      refine ow_val (val_assign rfl) rfl ?_
      exact ow_nil (fun w hm => ⟨(x / UInt64.ofNat (Int.toNat 2), y / UInt64.ofNat (Int.toNat 2) + y % UInt64.ofNat (Int.toNat 2), c + 1), ⟨by dsimp only; rw [hy', hx', ← hsum, stN_up hy2 (by omega), if_pos hbr]; omega, by dsimp only; rw [hy', hx']; omega⟩, by dsimp only; rw [hy']; omega, ⟨rfl, rfl, rfl, trivial⟩, hm⟩)
    · -- no
      refine ow_val ((val_eql_u64 rfl rfl).to (congrArg Value.bool (decide_eq_false ((fun h => hp1 (by rw [← hxm, h]; rfl)))))) rfl ?_
      refine ow_val (val_move rfl) rfl ?_
      refine ow_guard_yes rfl rfl rfl ?_
      refine ow_val (val_move rfl) rfl ?_
      refine ow_guard_yes rfl rfl rfl ?_
      refine ow_val (val_add_u64 rfl rfl) rfl ?_
      refine ow_guard_yes rfl rfl rfl ?_
      refine ow_val (val_move rfl) rfl ?_
      by_cases hp2 : x.toNat + 1 < y.toNat
      · -- yes
        have hbr : bro x.toNat < y.toNat := by unfold bro; omega
        refine ow_guard_yes rfl rfl rfl ?_
        refine ow_val ((val_lss_u64 rfl rfl).to (congrArg Value.bool (decide_eq_true ((UInt64.lt_iff_toNat_lt.2 (by rw [hx1]; exact hp2)))))) rfl ?_
        refine ow_val (val_pick_false rfl rfl) rfl ?_
        refine ow_nil (into ?_)
        refine sw_true rfl rfl ?_
        refine sw_region ?_
        refine ow_val (val_move rfl) rfl ?_
        refine ow_val (val_add_int ((c + 1 : Nat) : Int) rfl rfl (by omega) (by omega)) rfl ?_
        refine ow_val (val_assign rfl) rfl ?_
        refine ow_nil (into ?_)
        refine sw_region ?_
        refine ow_val (val_move rfl) rfl ?_
        refine ow_val (val_quo_u64 rfl rfl (by decide)) rfl ?_
        refine ow_val (val_move rfl) rfl ?_
        refine ow_val (val_quo_u64 rfl rfl (by decide)) rfl ?_
        refine ow_val (val_move rfl) rfl ?_
        refine ow_val (val_rem_u64 rfl rfl (by decide)) rfl ?_
        refine ow_val (val_add_u64 rfl rfl) rfl ?_
        refine ow_val (val_assign rfl) rfl ?_
        refine ow_val (val_assign rfl) rfl ?_
        exact ow_nil (fun w hm => ⟨(x / UInt64.ofNat (Int.toNat 2), y / UInt64.ofNat (Int.toNat 2) + y % UInt64.ofNat (Int.toNat 2), c + 1), ⟨by dsimp only; rw [hy', hx', ← hsum, stN_up hy2 (by omega), if_pos hbr]; omega, by dsimp only; rw [hy', hx']; omega⟩, by dsimp only; rw [hy']; omega, ⟨rfl, rfl, rfl, trivial⟩, hm⟩)
      · -- no
        have hbr : ¬ bro x.toNat < y.toNat := by unfold bro; omega
        refine ow_guard_yes rfl rfl rfl ?_
        refine ow_val ((val_lss_u64 rfl rfl).to (congrArg Value.bool (decide_eq_false ((fun h => hp2 (by rw [← hx1]; exact UInt64.lt_iff_toNat_lt.1 h)))))) rfl ?_
        refine ow_val (val_pick_false rfl rfl) rfl ?_
        refine ow_nil (into ?_)
        refine sw_false rfl rfl ?_
        refine sw_skip (into ?_)
        refine sw_region ?_
        refine ow_val (val_move rfl) rfl ?_
        refine ow_val (val_quo_u64 rfl rfl (by decide)) rfl ?_
        refine ow_val (val_move rfl) rfl ?_
        refine ow_val (val_quo_u64 rfl rfl (by decide)) rfl ?_
        refine ow_val (val_move rfl) rfl ?_
        refine ow_val (val_rem_u64 rfl rfl (by decide)) rfl ?_
        refine ow_val (val_add_u64 rfl rfl) rfl ?_
        refine ow_val (val_assign rfl) rfl ?_
        refine ow_val (val_assign rfl) rfl ?_
        exact ow_nil (fun w hm => ⟨(x / UInt64.ofNat (Int.toNat 2), y / UInt64.ofNat (Int.toNat 2) + y % UInt64.ofNat (Int.toNat 2), c), ⟨by dsimp only; rw [hy', hx', ← hsum, stN_up hy2 (by omega), if_neg hbr]; omega, by dsimp only; rw [hy', hx']; omega⟩, by dsimp only; rw [hy']; omega, ⟨rfl, rfl, rfl, trivial⟩, hm⟩)
  · -- else
    have hy1 : ¬ 2 ≤ y.toNat := fun h => h0 (UInt64.lt_iff_toNat_lt.2 h)
    rw [stN_one (by omega), Nat.add_zero] at hsum
    refine sw_exit (into ?_)
    refine sw_seq ?_
    refine sw_region ?_
    refine ow_val (val_move rfl) rfl ?_
    refine ow_val (val_assign rfl) rfl ?_
    refine ow_nil (into ?_)
    refine sw_ret (fun w hm => ?_)
    try dsimp only [thenP, blockP, Nat.beq, cond]
    exact ret_one _ rfl rfl ⟨by rw [← hsum], hm⟩

theorem rsteps_any (i n : UInt64) (w : World) (hin : i < n) : Calls Tryd.prog 52 #[vU64 i, vU64 n] w fun e w' => ∃ v, e = .returned v ∧ v = vInt (((splitsL i n).length : Nat) : Int) ∧ Mem w [] [] w' := by
  rw [splitsL_st _ i n (Nat.le_refl _) hin]; exact rsteps_0 i n w (UInt64.lt_iff_toNat_lt.1 hin)

theorem rsinceN_any (m n : UInt64) (w : World) (hz : ¬ m = 0) (hle : m ≤ n) : Calls Tryd.prog 53 #[vU64 m, vU64 n, .bool true] w fun e w' => ∃ v, e = .returned v ∧ v = vInt ((cntL m n true : Nat) : Int) ∧ Mem w [] [] w' := by
  refine calls_of_sw (vs := [vU64 m, vU64 n, .bool true]) Tryd.func53 rfl Tryd.ntmps53 rfl (SW.begin ?_)
  refine sw_seq ?_
  refine sw_region ?_
  refine ow_val (val_assign rfl) rfl ?_
  refine ow_nil (into ?_)
  refine sw_seq ?_
  refine sw_region ?_
  refine ow_val (val_assign rfl) rfl ?_
  refine ow_nil (into ?_)
  refine sw_seq ?_
  refine sw_block ?_
  refine sw_loop (σ := UInt64 × UInt64 × Nat × Bool) (fun t => t.2.2.1 + cntL t.1 t.2.1 t.2.2.2 = cntL m n true ∧ t.1 ≠ 0 ∧ t.1 ≤ t.2.1) (fun t => [(7, vInt (t.2.2.1 : Int)), (2, .bool t.2.2.2), (1, vU64 t.2.1), (0, vU64 t.1)]) (fun _ => Mem w [] []) (fun t => t.2.1.toNat) (m, n, 0, true) ⟨Nat.zero_add _, hz, hle⟩ ⟨rfl, rfl, rfl, rfl, trivial⟩ (fun w hm => hm) ?_
  rintro ⟨x, y, c, kn⟩ ⟨hsum, hx0, hxy⟩
  simp only at hsum hx0 hxy ⊢
  have hyl := y.toNat_lt
  have hxn : x.toNat ≠ 0 := fun h => hx0 (UInt64.toNat.inj h)
  have hxy' := UInt64.le_iff_toNat_le.1 hxy
  have h9 : (0 : UInt64).toNat = 0 := rfl
  refine sw_seq ?_
  refine sw_seq ?_
  refine sw_region ?_
  refine ow_val (val_move rfl) rfl ?_
  refine ow_val (val_move rfl) rfl ?_
  refine ow_val (val_neq_u64 rfl rfl) rfl ?_
  refine ow_nil (into ?_)
  refine sw_if rfl (fun h0 => ?_) (fun h0 => ?_)
  · -- then
    have hne : x.toNat ≠ y.toNat := fun h => h0 (UInt64.toNat.inj h)
    have hy2 : 2 ≤ y.toNat := by omega
    obtain ⟨v, hsv⟩ : ∃ v, splitU y = v := ⟨_, rfl⟩
    have hsl := split_lt hy2
    rw [hsv] at hsl
    have hcl := cntL_le 64 m n true hz hle (Nat.le_of_lt n.toNat_lt)
    refine sw_skip (into ?_)
    refine sw_block ?_
    refine sw_seq ?_
    refine sw_region ?_
    refine ow_val (val_move rfl) rfl ?_
    refine ow_call_pure (v := vU64 v) (callsTo Tryd.func55 rfl (by kernel_rfl) rfl) rfl (fun w hm => (by have h := rbelow_any y hy2 w; rw [hsv] at h; exact h)) ?_
    refine ow_val (val_assign rfl) rfl ?_
    refine ow_nil (into ?_)
    refine sw_seq ?_
    refine sw_seq ?_
    refine sw_region ?_
    refine ow_val (val_move rfl) rfl ?_
    refine ow_val (val_move rfl) rfl ?_
    refine ow_val (val_leq_u64 rfl rfl) rfl ?_
    refine ow_nil (into ?_)
    refine sw_if rfl (fun hlt => ?_) (fun hlt => ?_)
    · -- then
      skip
      refine sw_region ?_
      refine ow_val (val_move rfl) rfl ?_
      refine ow_val (val_assign rfl) rfl ?_
      refine ow_nil (into ?_)
      refine sw_region ?_
      refine ow_val (val_move rfl) rfl ?_
      refine ow_val (val_add_int ((c + 1 : Nat) : Int) rfl rfl (by omega) (by omega)) rfl ?_
      refine ow_val (val_assign rfl) rfl ?_
      exact ow_nil (fun w hm => ⟨(x, v, c + 1, kn), ⟨by dsimp only; rw [← hsum, cntL_left h0 hy2 (by rw [hsv]; exact hlt), hsv]; omega, hx0, hlt⟩, by dsimp only; omega, ⟨rfl, rfl, rfl, rfl, trivial⟩, hm⟩)
    · -- else
      have hgt : v.toNat < x.toNat := Nat.lt_of_not_le fun h => hlt (UInt64.le_iff_toNat_le.2 h)
      have hms : (x - v).toNat = x.toNat - v.toNat := UInt64.toNat_sub_of_le _ _ (UInt64.le_iff_toNat_le.2 (by omega))
      refine sw_region ?_
      refine ow_val (val_move rfl) rfl ?_
      refine ow_val (val_move rfl) rfl ?_
      refine ow_val (val_sub_u64 rfl rfl) rfl ?_
      refine ow_val (val_move rfl) rfl ?_
      refine ow_val (val_move rfl) rfl ?_
      refine ow_val (val_sub_u64 rfl rfl) rfl ?_
      refine ow_val (val_assign rfl) rfl ?_
      refine ow_val (val_assign rfl) rfl ?_
      refine ow_val (val_assign rfl) rfl ?_
      refine ow_nil (into ?_)
      refine sw_region ?_
      refine ow_val (val_move rfl) rfl ?_
      refine ow_val (val_add_int ((c + 1 : Nat) : Int) rfl rfl (by omega) (by omega)) rfl ?_
      refine ow_val (val_assign rfl) rfl ?_
      exact ow_nil (fun w hm => ⟨(x - v, y - v, c + 1, false), ⟨by dsimp only; rw [← hsum, cntL_right h0 hy2 (by rw [hsv]; exact hlt), hsv]; omega, fun h => by dsimp only at h; rw [h] at hms; omega, UInt64.le_iff_toNat_le.2 (by dsimp only; omega)⟩, by dsimp only; omega, ⟨rfl, rfl, rfl, rfl, trivial⟩, hm⟩)
  · -- else
    obtain rfl : x = y := Decidable.not_not.1 h0
    rw [cntL_end] at hsum
    have hcl := cntL_le 64 m n true hz hle (Nat.le_of_lt n.toNat_lt)
    refine sw_exit (into ?_)
    refine sw_seq ?_
    refine sw_seq ?_
    refine sw_region ?_
    refine ow_val (val_move rfl) rfl ?_
    by_cases hkn : kn = false
    · -- yes
      rw [hkn, if_neg (by decide)] at hsum
      refine ow_val ((val_not rfl).to (congrArg Value.bool (show (!_) = true by rw [hkn]; rfl))) rfl ?_
      refine ow_nil (into ?_)
      refine sw_true rfl rfl ?_
      refine sw_region ?_
      refine ow_val (val_move rfl) rfl ?_
      refine ow_val (val_add_int ((c + 1 : Nat) : Int) rfl rfl (by omega) (by omega)) rfl ?_
      refine ow_val (val_assign rfl) rfl ?_
      refine ow_nil (into ?_)
      refine sw_seq ?_
      refine sw_region ?_
      refine ow_val (val_move rfl) rfl ?_
      refine ow_val (val_assign rfl) rfl ?_
      refine ow_nil (into ?_)
      refine sw_ret (fun w hm => ?_)
      try dsimp only [thenP, blockP, Nat.beq, cond]
      exact ret_one _ rfl rfl ⟨by rw [← hsum] <;> rfl, hm⟩
    · -- no
      rw [(Bool.not_eq_false _).mp hkn, if_pos rfl, Nat.add_zero] at hsum
      refine ow_val ((val_not rfl).to (congrArg Value.bool (show (!_) = false by rw [(Bool.not_eq_false _).mp hkn]; rfl))) rfl ?_
      refine ow_nil (into ?_)
      refine sw_false rfl rfl ?_
      refine sw_skip (into ?_)
      refine sw_seq ?_
      refine sw_region ?_
      refine ow_val (val_move rfl) rfl ?_
      refine ow_val (val_assign rfl) rfl ?_
      refine ow_nil (into ?_)
      refine sw_ret (fun w hm => ?_)
      try dsimp only [thenP, blockP, Nat.beq, cond]
      exact ret_one _ rfl rfl ⟨by rw [← hsum] <;> rfl, hm⟩

theorem dcounts_a (i m n : UInt64) (w : World) (hi : n ≤ i) : Calls Tryd.prog 22 #[vU64 i, vU64 m, vU64 n] w fun e w' => ∃ v, e = .returned v ∧ v = .tuple #[vInt (((cntO i m n).1.1 : Nat) : Int), vInt (((cntO i m n).1.2 : Nat) : Int), vInt (((cntO i m n).2 : Nat) : Int)] ∧ Mem w [] [] w' := by
  refine calls_of_sw (vs := [vU64 i, vU64 m, vU64 n]) Tryd.func22 rfl Tryd.ntmps22 rfl (SW.begin ?_)
  refine sw_seq ?_
  refine sw_region ?_
  refine ow_val (val_assign rfl) rfl ?_
  refine ow_val (val_assign rfl) rfl ?_
  refine ow_val (val_assign rfl) rfl ?_
  refine ow_nil (into ?_)
  refine sw_seq ?_
  refine sw_seq ?_
  refine sw_region ?_
  refine ow_val (val_move rfl) rfl ?_
  refine ow_val (val_move rfl) rfl ?_
  refine ow_val ((val_geq_u64 rfl rfl).to (v' := .bool true) (congrArg Value.bool (decide_eq_true hi))) rfl ?_
  refine ow_val (val_move rfl) rfl ?_
  first | refine ow_guard_no rfl rfl rfl rfl rfl ?_ | refine ow_guard_none rfl rfl rfl rfl rfl ?_
  first | refine ow_guard_no rfl rfl rfl rfl rfl ?_ | refine ow_guard_none rfl rfl rfl rfl rfl ?_
  first | refine ow_guard_no rfl rfl rfl rfl rfl ?_ | refine ow_guard_none rfl rfl rfl rfl rfl ?_
  refine ow_val (val_pick_true rfl rfl) rfl ?_
  refine ow_nil (into ?_)
  refine sw_true rfl rfl ?_
  refine sw_seq ?_
  refine sw_region ?_
  refine ow_val (val_assign rfl) rfl ?_
  refine ow_val (val_assign rfl) rfl ?_
  refine ow_val (val_assign rfl) rfl ?_
  refine ow_nil (into ?_)
  refine sw_ret (fun w hm => ?_)
  try dsimp only [thenP, blockP, Nat.beq, cond]
  exact ret_ttt rfl rfl rfl rfl ⟨by rw [cntO, if_pos (.inl hi)] <;> rfl, hm⟩

theorem dcounts_b (i m n : UInt64) (w : World) (hi : ¬ n ≤ i) (hmg : n < m) : Calls Tryd.prog 22 #[vU64 i, vU64 m, vU64 n] w fun e w' => ∃ v, e = .returned v ∧ v = .tuple #[vInt (((cntO i m n).1.1 : Nat) : Int), vInt (((cntO i m n).1.2 : Nat) : Int), vInt (((cntO i m n).2 : Nat) : Int)] ∧ Mem w [] [] w' := by
  refine calls_of_sw (vs := [vU64 i, vU64 m, vU64 n]) Tryd.func22 rfl Tryd.ntmps22 rfl (SW.begin ?_)
  refine sw_seq ?_
  refine sw_region ?_
  refine ow_val (val_assign rfl) rfl ?_
  refine ow_val (val_assign rfl) rfl ?_
  refine ow_val (val_assign rfl) rfl ?_
  refine ow_nil (into ?_)
  refine sw_seq ?_
  refine sw_seq ?_
  refine sw_region ?_
  refine ow_val (val_move rfl) rfl ?_
  refine ow_val (val_move rfl) rfl ?_
  refine ow_val ((val_geq_u64 rfl rfl).to (v' := .bool false) (congrArg Value.bool (decide_eq_false hi))) rfl ?_
  refine ow_val (val_move rfl) rfl ?_
  refine ow_guard_yes rfl rfl rfl ?_
  refine ow_val (val_move rfl) rfl ?_
  refine ow_guard_yes rfl rfl rfl ?_
  refine ow_val (val_move rfl) rfl ?_
  refine ow_guard_yes rfl rfl rfl ?_
  refine ow_val ((val_gtr_u64 rfl rfl).to (v' := .bool true) (congrArg Value.bool (decide_eq_true hmg))) rfl ?_
  refine ow_val (val_pick_false rfl rfl) rfl ?_
  refine ow_nil (into ?_)
  refine sw_true rfl rfl ?_
  refine sw_seq ?_
  refine sw_region ?_
  refine ow_val (val_assign rfl) rfl ?_
  refine ow_val (val_assign rfl) rfl ?_
  refine ow_val (val_assign rfl) rfl ?_
  refine ow_nil (into ?_)
  refine sw_ret (fun w hm => ?_)
  try dsimp only [thenP, blockP, Nat.beq, cond]
  exact ret_ttt rfl rfl rfl rfl ⟨by rw [cntO, if_pos (.inr hmg)] <;> rfl, hm⟩

theorem dcounts_c (i m n : UInt64) (w : World) (hi : ¬ n ≤ i) (hmg : ¬ n < m) (hin : i < n) (hmn : m ≤ n) (hz : m = 0) : Calls Tryd.prog 22 #[vU64 i, vU64 m, vU64 n] w fun e w' => ∃ v, e = .returned v ∧ v = .tuple #[vInt (((cntO i m n).1.1 : Nat) : Int), vInt (((cntO i m n).1.2 : Nat) : Int), vInt (((cntO i m n).2 : Nat) : Int)] ∧ Mem w [] [] w' := by
  refine calls_of_sw (vs := [vU64 i, vU64 m, vU64 n]) Tryd.func22 rfl Tryd.ntmps22 rfl (SW.begin ?_)
  refine sw_seq ?_
  refine sw_region ?_
  refine ow_val (val_assign rfl) rfl ?_
  refine ow_val (val_assign rfl) rfl ?_
  refine ow_val (val_assign rfl) rfl ?_
  refine ow_nil (into ?_)
  refine sw_seq ?_
  refine sw_seq ?_
  refine sw_region ?_
  refine ow_val (val_move rfl) rfl ?_
  refine ow_val (val_move rfl) rfl ?_
  refine ow_val ((val_geq_u64 rfl rfl).to (v' := .bool false) (congrArg Value.bool (decide_eq_false hi))) rfl ?_
  refine ow_val (val_move rfl) rfl ?_
  refine ow_guard_yes rfl rfl rfl ?_
  refine ow_val (val_move rfl) rfl ?_
  refine ow_guard_yes rfl rfl rfl ?_
  refine ow_val (val_move rfl) rfl ?_
  refine ow_guard_yes rfl rfl rfl ?_
  refine ow_val ((val_gtr_u64 rfl rfl).to (v' := .bool false) (congrArg Value.bool (decide_eq_false hmg))) rfl ?_
  refine ow_val (val_pick_false rfl rfl) rfl ?_
  refine ow_nil (into ?_)
  refine sw_false rfl rfl ?_
  refine sw_skip (into ?_)
  refine sw_seq ?_
  refine sw_seq ?_
  refine sw_region ?_
  refine ow_val (val_move rfl) rfl ?_
  refine ow_val ((val_eql_u64 rfl rfl).to (v' := .bool true) (congrArg Value.bool (decide_eq_true hz))) rfl ?_
  refine ow_nil (into ?_)
  refine sw_true rfl rfl ?_
  refine sw_seq ?_
  refine sw_region ?_
  refine ow_val (val_move rfl) rfl ?_
  refine ow_val (val_move rfl) rfl ?_
  refine ow_call_pure (callsTo Tryd.func52 rfl (by kernel_rfl) rfl) rfl (fun w hm => rsteps_any i n w hin) ?_
  refine ow_val (val_assign rfl) rfl ?_
  refine ow_val (val_assign rfl) rfl ?_
  refine ow_val (val_assign rfl) rfl ?_
  refine ow_nil (into ?_)
  refine sw_ret (fun w hm => ?_)
  try dsimp only [thenP, blockP, Nat.beq, cond]
  exact ret_ttt rfl rfl rfl rfl ⟨by rw [cntO, if_neg (fun h => h.elim hi hmg), cntZ, if_pos hz] <;> rfl, hm⟩

theorem dcounts_d (i m n : UInt64) (w : World) (hi : ¬ n ≤ i) (hmg : ¬ n < m) (hin : i < n) (hmn : m ≤ n) (hz : ¬ m = 0) : Calls Tryd.prog 22 #[vU64 i, vU64 m, vU64 n] w fun e w' => ∃ v, e = .returned v ∧ v = .tuple #[vInt (((cntO i m n).1.1 : Nat) : Int), vInt (((cntO i m n).1.2 : Nat) : Int), vInt (((cntO i m n).2 : Nat) : Int)] ∧ Mem w [] [] w' := by
  refine calls_of_sw (vs := [vU64 i, vU64 m, vU64 n]) Tryd.func22 rfl Tryd.ntmps22 rfl (SW.begin ?_)
  refine sw_seq ?_
  refine sw_region ?_
  refine ow_val (val_assign rfl) rfl ?_
  refine ow_val (val_assign rfl) rfl ?_
  refine ow_val (val_assign rfl) rfl ?_
  refine ow_nil (into ?_)
  refine sw_seq ?_
  refine sw_seq ?_
  refine sw_region ?_
  refine ow_val (val_move rfl) rfl ?_
  refine ow_val (val_move rfl) rfl ?_
  refine ow_val ((val_geq_u64 rfl rfl).to (v' := .bool false) (congrArg Value.bool (decide_eq_false hi))) rfl ?_
  refine ow_val (val_move rfl) rfl ?_
  refine ow_guard_yes rfl rfl rfl ?_
  refine ow_val (val_move rfl) rfl ?_
  refine ow_guard_yes rfl rfl rfl ?_
  refine ow_val (val_move rfl) rfl ?_
  refine ow_guard_yes rfl rfl rfl ?_
  refine ow_val ((val_gtr_u64 rfl rfl).to (v' := .bool false) (congrArg Value.bool (decide_eq_false hmg))) rfl ?_
  refine ow_val (val_pick_false rfl rfl) rfl ?_
  refine ow_nil (into ?_)
  refine sw_false rfl rfl ?_
  refine sw_skip (into ?_)
  refine sw_seq ?_
  refine sw_seq ?_
  refine sw_region ?_
  refine ow_val (val_move rfl) rfl ?_
  refine ow_val ((val_eql_u64 rfl rfl).to (v' := .bool false) (congrArg Value.bool (decide_eq_false hz))) rfl ?_
  refine ow_nil (into ?_)
  refine sw_false rfl rfl ?_
  refine sw_skip (into ?_)
  refine sw_seq ?_
  refine sw_region ?_
  refine ow_val (val_move rfl) rfl ?_
  refine ow_val (val_move rfl) rfl ?_
  refine ow_call_pure (callsTo Tryd.func52 rfl (by kernel_rfl) rfl) rfl (fun w hm => rsteps_any i n w hin) ?_
  refine ow_val (val_move rfl) rfl ?_
  refine ow_val (val_move rfl) rfl ?_
  refine ow_call_pure (callsTo Tryd.func53 rfl (by kernel_rfl) rfl) rfl (fun w hm => rsinceN_any m n w hz hmn) ?_
  refine ow_val (val_assign rfl) rfl ?_
  refine ow_val (val_assign rfl) rfl ?_
  refine ow_val (val_assign rfl) rfl ?_
  refine ow_nil (into ?_)
  exact sw_ret (fun w hm => ret_ttt rfl rfl rfl rfl ⟨by rw [cntO, if_neg (fun h => h.elim hi hmg), cntZ, if_neg hz] <;> rfl, hm⟩)

theorem dcounts_any (i m n : UInt64) (w : World) : Calls Tryd.prog 22 #[vU64 i, vU64 m, vU64 n] w fun e w' => ∃ v, e = .returned v ∧ v = .tuple #[vInt (((cntO i m n).1.1 : Nat) : Int), vInt (((cntO i m n).1.2 : Nat) : Int), vInt (((cntO i m n).2 : Nat) : Int)] ∧ Mem w [] [] w' := by
  by_cases hi : n ≤ i
  · exact dcounts_a i m n w hi
  by_cases hm : n < m
  · exact dcounts_b i m n w hi hm
  have hin : i < n := UInt64.lt_iff_toNat_lt.2 (Nat.lt_of_not_le fun h => hi (UInt64.le_iff_toNat_le.2 h))
  have hmn : m ≤ n := UInt64.le_iff_toNat_le.2 (Nat.le_of_not_lt fun h => hm (UInt64.lt_iff_toNat_lt.2 h))
  by_cases hz : m = 0
  · exact dcounts_c i m n w hi hm hin hmn hz
  · exact dcounts_d i m n w hi hm hin hmn hz
end Go.Proofs.YtcdponddgnkecaaDoor
