import Derived.Test.YtcdponddgnkecaaDoorMt7
import Derived.Test.YtcdponddgnkecaaDoorCnt
import Derived.Test.YtcdponddgnkecaaDoorSxL
import Derived.Test.YtcdponddgnkecaaDoorPMck
import Derived.Test.YtcdponddgnkecaaDoorProg
set_option linter.unusedVariables false
set_option linter.unusedSimpArgs false
namespace Go.Proofs.YtcdponddgnkecaaDoor
open Go.Sx Go.Ps
/-- The leaves from lo up to hi. -/
def seg (l : List (List UInt8)) (lo hi : Nat) : List (List UInt8) := (l.drop lo).take (hi - lo)
theorem seg_all {P : List UInt8 → Prop} {l : List (List UInt8)} (h : ∀ d ∈ l, P d) {lo hi : Nat} : ∀ d ∈ seg l lo hi, P d := fun d hd => h d (List.mem_of_mem_drop (List.mem_of_mem_take hd))
theorem rngO_nat (k : Nat) {l : List (List UInt8)} {lo hi : Nat} (h1 : lo ≤ hi) (h2 : hi ≤ l.length) (h3 : l.length < 9223372036854775808) : rngO k l (UInt64.ofNat lo) (UInt64.ofNat hi) = (lg k (seg l lo hi), 0) := by
  have e1 : (UInt64.ofNat lo).toNat = lo := of_nat (by omega)
  have e2 : (UInt64.ofNat hi).toNat = hi := of_nat (by omega)
  rw [rngO, if_neg, e1, e2]; · rfl
  rw [UInt64.lt_iff_toNat_lt, e1, e2]; omega
theorem rngO_root (k : Nat) {l : List (List UInt8)} {hi : Nat} (h2 : hi ≤ l.length) (h3 : l.length < 9223372036854775808) : rngO k l 0 (UInt64.ofNat hi) = (lg k (seg l 0 hi), 0) := rngO_nat k (lo := 0) (Nat.zero_le _) h2 h3
theorem leafO_nat {l : List (List UInt8)} {i : Nat} (h : i < l.length) (h3 : l.length < 9223372036854775808) : leafO l (UInt64.ofNat i) = (l.getD i default, 0) := by
  rw [leafO, of_nat (by omega), if_neg (by omega)]
theorem lg_one' (k : Nat) {l : List (List UInt8)} {lo hi : Nat} (h : hi = lo + 1) (h2 : hi ≤ l.length) : lg k (seg l lo hi) = l.getD lo default := by
  subst h; rw [seg, Nat.add_sub_cancel_left, take_one (by omega)]
theorem lg_none (k : Nat) {l : List (List UInt8)} {lo hi : Nat} (h : hi ≤ lo) : lg k (seg l lo hi) = dig k [] := by
  rw [seg, show hi - lo = 0 by omega, List.take_zero, lg_nil]
theorem lg_halves (k : Nat) {l : List (List UInt8)} {lo hi m : Nat} (h2 : lo + 2 ≤ hi) (hn : hi ≤ l.length) (hm : splitN (hi - lo) = m) : lg k (seg l lo hi) = nd k (lg k (seg l lo (lo + m))) (lg k (seg l (lo + m) hi)) := by
  have h := lg_part k (l := l) (lo := lo) (n := hi - lo) (by omega) (by omega)
  rw [hm] at h
  rw [seg, h, seg, seg, Nat.add_sub_cancel_left, show hi - (lo + m) = hi - lo - m by omega]
theorem of_quo {a b : Nat} (ha : a < 18446744073709551616) (hb : b < 18446744073709551616) : UInt64.ofNat a / UInt64.ofNat b = UInt64.ofNat (a / b) := by
  apply UInt64.toNat.inj
  have h9 := Nat.div_le_self a b
  rw [UInt64.toNat_div, of_nat ha, of_nat hb, of_nat (by omega)]
theorem of_add {a b : Nat} (h : a + b < 18446744073709551616) : UInt64.ofNat a + UInt64.ofNat b = UInt64.ofNat (a + b) := by
  apply UInt64.toNat.inj
  rw [UInt64.toNat_add, of_nat (by omega), of_nat (by omega), of_nat h, Nat.mod_eq_of_lt h]
theorem dbl_lt {v : UInt64} {n : Nat} (hn : n < 4611686018427387904) (hv : v.toNat < n) : UInt64.ofNat (Int.toNat 2) * v < UInt64.ofNat n ↔ 2 * v.toNat < n := by
  have h2 : (UInt64.ofNat (Int.toNat 2)).toNat = 2 := rfl
  rw [UInt64.lt_iff_toNat_lt, UInt64.toNat_mul, h2, of_nat (by omega), Nat.mod_eq_of_lt (by omega)]
theorem pw_eq {v : UInt64} {n j : Nat} (hj : v.toNat = 2 ^ j) (hv : v.toNat < n) (hge : n ≤ 2 * v.toNat) : v = UInt64.ofNat (splitN n) := by
  rw [splitN_eq (j := j) rfl (by omega) (by omega), ← hj, UInt64.ofNat_toNat]
theorem seg_app {l m : List (List UInt8)} {i : Nat} (h : i ≤ l.length) : seg (l ++ m) 0 i = seg l 0 i := by
  rw [seg, seg, List.drop_zero, List.drop_zero, Nat.sub_zero, List.take_append_of_le_length h]
theorem getD_app {l m : List (List UInt8)} {i : Nat} : (l ++ m).getD (l.length + i) default = m.getD i default := by
  rw [List.getD_eq_getElem?_getD, List.getD_eq_getElem?_getD, List.getElem?_append_right (by omega), Nat.add_sub_cancel_left]
theorem getD_app1 {l m : List (List UInt8)} {i : Nat} (h : i < l.length) : (l ++ m).getD i default = l.getD i default := by
  rw [List.getD_eq_getElem?_getD, List.getD_eq_getElem?_getD, List.getElem?_append_left h]
theorem acts_row {P : Program} {n : Nat} {F : Fr} {M : World → Prop} {op : Op} {ty E : TypeId} {size k k' idx : Nat} {xs xs' : List Value} {w0 : World} {olds : List Nat} {m : List Ent}
    (h : Acts P n F M op ty (fun _ u w' => ∃ e', RowE u E size k xs e' ∧ Mem w0 olds (upd m idx e') w')) (hk : k = k') (hx : xs = xs') : Acts P n F M op ty (fun _ u w' => ∃ e', RowE u E size k' xs' e' ∧ Mem w0 olds (upd m idx e') w') := by
  subst hk; subst hx; exact h
theorem one_dgs (l : List (List UInt8)) : ∀ u ∈ l.flatMap (fun d => d.map vU8), u.oneCell' = true := by
  intro u hu
  obtain ⟨d, _, hd⟩ := List.mem_flatMap.1 hu
  exact one_u8s _ u hd
theorem flatMap_size' {l : List (List UInt8)} {m : Nat} (hm : l.length = m) (h : ∀ d ∈ l, d.length = 32) : (l.flatMap fun d => d.map vU8).length = m * 32 := by
  rw [flatMap_size l (n := 32) (fun y hy => by rw [List.length_map]; exact h y hy), hm]
theorem both {P : List UInt8 → Prop} {l m : List (List UInt8)} (h1 : ∀ d ∈ l, P d) (h2 : ∀ d ∈ m, P d) : ∀ d ∈ l ++ m, P d := fun d hd => (List.mem_append.1 hd).elim (h1 d) (h2 d)
theorem rowAddr32 {a : Option Addr} {c n : Nat} {T : TypeId} {xs : List Value} {e : Ent} (h : RowE (.slice a n c) T 32 n xs e) (hn : 0 < n) : ∃ b o, a = some ⟨b, o, none⟩ := by
  obtain ⟨hl, ⟨hv, h0, he⟩ | ⟨b, cap, rest, hv, _⟩⟩ := h
  · omega
  · simp only [Value.slice.injEq] at hv; exact ⟨b, 0, hv.1⟩
theorem rowBlk32 {a : Option Addr} {c n : Nat} {T : TypeId} {xs : List Value} {e : Ent} (h : RowE (.slice a n c) T 32 n xs e) (hn : 0 < n) : ∃ b rest, a = some ⟨b, 0, none⟩ ∧ e = some (b, blk (xs ++ rest) T) := by
  obtain ⟨hl, ⟨hv, h0, he⟩ | ⟨b, cap, rest, hv, _, _, _, he⟩⟩ := h
  · omega
  · simp only [Value.slice.injEq] at hv; exact ⟨b, rest, hv.1, he⟩
theorem of_inj {a b : Nat} (ha : a < 18446744073709551616) (hb : b < 18446744073709551616) : UInt64.ofNat a = UInt64.ofNat b ↔ a = b :=
  ⟨fun h => by have h1 := congrArg UInt64.toNat h; rwa [of_nat ha, of_nat hb] at h1, fun h => by rw [h]⟩
theorem of_le {a b : Nat} (ha : a < 18446744073709551616) (hb : b < 18446744073709551616) : UInt64.ofNat a ≤ UInt64.ofNat b ↔ a ≤ b := by rw [UInt64.le_iff_toNat_le, of_nat ha, of_nat hb]
theorem splitU_of {n : Nat} (h : n < 18446744073709551616) : splitU (UInt64.ofNat n) = UInt64.ofNat (splitN n) := by rw [splitU, of_nat h]
theorem seg_takeL {l : List (List UInt8)} {lo s hi : Nat} (h1 : lo ≤ s) (h2 : s ≤ hi) : (seg l lo hi).take (s - lo) = seg l lo s := by
  rw [seg, seg, List.take_take, Nat.min_eq_left (by omega)]
theorem seg_dropL {l : List (List UInt8)} {lo s hi : Nat} (h1 : lo ≤ s) (h2 : s ≤ hi) : (seg l lo hi).drop (s - lo) = seg l s hi := by
  rw [seg, seg, List.drop_take, List.drop_drop, show lo + (s - lo) = s by omega, show hi - lo - (s - lo) = hi - s by omega]
theorem seg_len {l : List (List UInt8)} {lo hi : Nat} (h : hi ≤ l.length) : (seg l lo hi).length = hi - lo := by
  rw [seg, List.length_take, List.length_drop]; omega

theorem iDg : (Tryd.prog.info? 41).map (fun i => (i.zero, i.size, i.bytes)) = some (some (.agg (zeros32.map vU8).toArray), 32, 32) := by kernel_rfl
theorem zF1 (w : World) : (zeroValue 70).run Tryd.prog w = .ok .nilFunc w := by kernel_rfl
theorem zF2 (w : World) : (zeroValue 73).run Tryd.prog w = .ok .nilFunc w := by kernel_rfl

theorem pwhole_any (k : Nat) (h1 : 1 ≤ k) (h2 : k ≤ 32) (b : Nat) (l : List (List UInt8)) (hdl : ∀ d ∈ l, d.length = 32) (hfl : ∀ d ∈ l, fm (k : Int) d = true) (hl : l.length * 32 ≤ 140737488351232) (w : World) (hK : KW w) (ht : TreeIs 110 79 k w b l) (lo hi : Nat) (hle : lo ≤ hi) (hhi : hi ≤ l.length) : Calls Tryd.prog 46 #[vPtr b, vU64 (UInt64.ofNat lo), vU64 (UInt64.ofNat hi)] w fun e w' => ∃ v, e = .returned v ∧ v = .agg ((lg k (seg l lo hi)).map vU8).toArray ∧ Mem w [] [] w' := by
  refine calls_of_sw (vs := [vPtr b, vU64 (UInt64.ofNat lo), vU64 (UInt64.ofNat hi)]) Tryd.func46 rfl Tryd.ntmps46 rfl (SW.begin ?_)
  refine sw_seq ?_
  refine sw_region ?_
  refine ow_new (acts_alloc zD) rfl (fun b6 hb6 => ?_)
  refine ow_nil (into ?_)
  refine sw_seq ?_
  refine sw_region ?_
  refine ow_val (val_move rfl) rfl ?_
  refine ow_val (val_move rfl) rfl ?_
  refine ow_val (val_move rfl) rfl ?_
  refine ow_call_pure (v := .tuple #[.agg ((lg k (seg l lo hi)).map vU8).toArray, vInt ((0 : Nat) : Int)]) (callsTo Tryd.func39 rfl (by kernel_rfl) rfl) rfl (fun w hm => (by have h := range_any k h1 h2 b l (by assumption) (by assumption) (UInt64.ofNat lo) (UInt64.ofNat hi) w (hK.mem0 hm) (ht.mem hm) (by omega); rw [rngO_nat k (by omega) (by omega) (by omega)] at h; exact h)) ?_
  refine ow_val (val_move rfl) rfl ?_
  refine ow_val (val_extract rfl rfl) rfl ?_
  refine ow_val (val_extract rfl rfl) rfl ?_
  refine ow_new (acts_alloc zD) rfl (fun b7 hb7 => ?_)
  refine ow_do_eq (does_store_all 0 rfl rfl rfl (one_u8s _) Tryd.sizeOf41 (by show (List.map vU8 (lg k (seg l lo hi))).length = _; rw [List.length_map]; exact (lg_len h2 _ rfl (seg_all (by assumption)))) (by show (List.map vU8 zeros32).length = _; rw [List.length_map]; exact zeros32_len)) ?_
  refine ow_val (val_assign rfl) rfl ?_
  refine ow_nil (into ?_)
  refine sw_seq ?_
  refine sw_region ?_
  refine ow_val (val_load_all 0 rfl rfl Tryd.isAgg41 Tryd.sizeOf41 (by show (List.map vU8 (lg k (seg l lo hi))).length = _; rw [List.length_map]; exact (lg_len h2 _ rfl (seg_all (by assumption))))) rfl ?_
  refine ow_do_eq (does_store_all 1 rfl rfl rfl (one_u8s _) Tryd.sizeOf41 (by show (List.map vU8 (lg k (seg l lo hi))).length = _; rw [List.length_map]; exact (lg_len h2 _ rfl (seg_all (by assumption)))) (by show (List.map vU8 zeros32).length = _; rw [List.length_map]; exact zeros32_len)) ?_
  refine ow_nil (into ?_)
  exact sw_ret (fun w hm => ret_cell 1 rfl rfl hm rfl Tryd.isAgg41 Tryd.sizeOf41 (by show (List.map vU8 (lg k (seg l lo hi))).length = _; rw [List.length_map]; exact (lg_len h2 _ rfl (seg_all (by assumption)))) ⟨rfl, hm.forgetAll⟩)

theorem pcheck_no (t : Value) (n : UInt64) (w : World) : Calls Tryd.prog 43 #[.bool false, t, vU64 n] w fun e w' => ∃ v, e = .returned v ∧ v = vInt ((4 : Nat) : Int) ∧ Mem w [] [] w' := by
  refine calls_of_sw (vs := [.bool false, t, vU64 n]) Tryd.func43 rfl Tryd.ntmps43 rfl (SW.begin ?_)
  refine sw_seq ?_
  refine sw_region ?_
  refine ow_val (val_assign rfl) rfl ?_
  refine ow_nil (into ?_)
  refine sw_seq ?_
  refine sw_block ?_
  refine sw_seq ?_
  refine sw_region ?_
  refine ow_val (val_move rfl) rfl ?_
  refine ow_val (val_not rfl) rfl ?_
  refine ow_val (val_assign rfl) rfl ?_
  refine ow_nil (into ?_)
  refine sw_true rfl rfl ?_
  refine sw_seq ?_
  refine sw_region ?_
  refine ow_val (val_assign rfl) rfl ?_
  refine ow_nil (into ?_)
  refine sw_ret (fun w hm => ?_)
  try dsimp only [thenP, blockP, Nat.beq, cond]
  exact ret_one _ rfl rfl ⟨rfl, hm.forgetAll⟩

theorem pcheck_nil (n : UInt64) (w : World) : Calls Tryd.prog 43 #[.bool true, .pointer none, vU64 n] w fun e w' => ∃ v, e = .returned v ∧ v = vInt ((5 : Nat) : Int) ∧ Mem w [] [] w' := by
  refine calls_of_sw (vs := [.bool true, .pointer none, vU64 n]) Tryd.func43 rfl Tryd.ntmps43 rfl (SW.begin ?_)
  refine sw_seq ?_
  refine sw_region ?_
  refine ow_val (val_assign rfl) rfl ?_
  refine ow_nil (into ?_)
  refine sw_seq ?_
  refine sw_block ?_
  refine sw_seq ?_
  refine sw_region ?_
  refine ow_val (val_move rfl) rfl ?_
  refine ow_val (val_not rfl) rfl ?_
  refine ow_val (val_assign rfl) rfl ?_
  refine ow_nil (into ?_)
  refine sw_false rfl rfl ?_
  refine sw_seq ?_
  refine sw_region ?_
  refine ow_val (val_move rfl) rfl ?_
  refine ow_val (val_eql_nilptr Tryd.underlying25 rfl rfl) rfl ?_
  refine ow_val (val_assign rfl) rfl ?_
  refine ow_nil (into ?_)
  refine sw_true rfl rfl ?_
  refine sw_seq ?_
  refine sw_region ?_
  refine ow_val (val_assign rfl) rfl ?_
  refine ow_nil (into ?_)
  refine sw_ret (fun w hm => ?_)
  try dsimp only [thenP, blockP, Nat.beq, cond]
  exact ret_one _ rfl rfl ⟨rfl, hm.forgetAll⟩

theorem pcheck_big (k : Nat) (b : Nat) (l : List (List UInt8)) (n : UInt64) (w : World) (ht : TreeIs 110 79 k w b l) (h : UInt64.ofNat l.length < n) : Calls Tryd.prog 43 #[.bool true, vPtr b, vU64 n] w fun e w' => ∃ v, e = .returned v ∧ v = vInt ((4 : Nat) : Int) ∧ Mem w [] [] w' := by
  refine calls_of_sw (vs := [.bool true, vPtr b, vU64 n]) Tryd.func43 rfl Tryd.ntmps43 rfl (SW.begin ?_)
  refine sw_seq ?_
  refine sw_region ?_
  refine ow_val (val_assign rfl) rfl ?_
  refine ow_nil (into ?_)
  refine sw_seq ?_
  refine sw_block ?_
  refine sw_seq ?_
  refine sw_region ?_
  refine ow_val (val_move rfl) rfl ?_
  refine ow_val (val_not rfl) rfl ?_
  refine ow_val (val_assign rfl) rfl ?_
  refine ow_nil (into ?_)
  refine sw_false rfl rfl ?_
  refine sw_seq ?_
  refine sw_region ?_
  refine ow_val (val_move rfl) rfl ?_
  refine ow_val (val_eql_nilptr Tryd.underlying25 rfl rfl) rfl ?_
  refine ow_val (val_assign rfl) rfl ?_
  refine ow_nil (into ?_)
  refine sw_false rfl rfl ?_
  refine sw_seq ?_
  refine sw_region ?_
  refine ow_val (val_move rfl) rfl ?_
  refine ow_val (val_move rfl) rfl ?_
  refine ow_call_pure (v := vU64 (UInt64.ofNat l.length)) (callsTo Tryd.func75 rfl (by kernel_rfl) rfl) rfl (fun w hm => tsize_is b l w (ht.mem hm)) ?_
  refine ow_val ((val_gtr_u64 rfl rfl).to (congrArg Value.bool (decide_eq_true (h)))) rfl ?_
  refine ow_val (val_assign rfl) rfl ?_
  refine ow_nil (into ?_)
  refine sw_true rfl rfl ?_
  refine sw_seq ?_
  refine sw_region ?_
  refine ow_val (val_assign rfl) rfl ?_
  refine ow_nil (into ?_)
  refine sw_ret (fun w hm => ?_)
  try dsimp only [thenP, blockP, Nat.beq, cond]
  exact ret_one _ rfl rfl ⟨rfl, hm.forgetAll⟩

theorem pcheck_ok (k : Nat) (b : Nat) (l : List (List UInt8)) (n : UInt64) (w : World) (ht : TreeIs 110 79 k w b l) (h : ¬ UInt64.ofNat l.length < n) : Calls Tryd.prog 43 #[.bool true, vPtr b, vU64 n] w fun e w' => ∃ v, e = .returned v ∧ v = vInt ((0 : Nat) : Int) ∧ Mem w [] [] w' := by
  refine calls_of_sw (vs := [.bool true, vPtr b, vU64 n]) Tryd.func43 rfl Tryd.ntmps43 rfl (SW.begin ?_)
  refine sw_seq ?_
  refine sw_region ?_
  refine ow_val (val_assign rfl) rfl ?_
  refine ow_nil (into ?_)
  refine sw_seq ?_
  refine sw_block ?_
  refine sw_seq ?_
  refine sw_region ?_
  refine ow_val (val_move rfl) rfl ?_
  refine ow_val (val_not rfl) rfl ?_
  refine ow_val (val_assign rfl) rfl ?_
  refine ow_nil (into ?_)
  refine sw_false rfl rfl ?_
  refine sw_seq ?_
  refine sw_region ?_
  refine ow_val (val_move rfl) rfl ?_
  refine ow_val (val_eql_nilptr Tryd.underlying25 rfl rfl) rfl ?_
  refine ow_val (val_assign rfl) rfl ?_
  refine ow_nil (into ?_)
  refine sw_false rfl rfl ?_
  refine sw_seq ?_
  refine sw_region ?_
  refine ow_val (val_move rfl) rfl ?_
  refine ow_val (val_move rfl) rfl ?_
  refine ow_call_pure (v := vU64 (UInt64.ofNat l.length)) (callsTo Tryd.func75 rfl (by kernel_rfl) rfl) rfl (fun w hm => tsize_is b l w (ht.mem hm)) ?_
  refine ow_val ((val_gtr_u64 rfl rfl).to (congrArg Value.bool (decide_eq_false (h)))) rfl ?_
  refine ow_val (val_assign rfl) rfl ?_
  refine ow_nil (into ?_)
  refine sw_false rfl rfl ?_
  refine sw_skip (into ?_)
  refine sw_seq ?_
  refine sw_region ?_
  refine ow_val (val_assign rfl) rfl ?_
  refine ow_nil (into ?_)
  exact sw_ret (fun w hm => ret_one _ rfl rfl ⟨rfl, hm.forgetAll⟩)

theorem inc_one (k : Nat) (h1 : 1 ≤ k) (h2 : k ≤ 32) (b : Nat) (l : List (List UInt8)) (hdl : ∀ d ∈ l, d.length = 32) (hfl : ∀ d ∈ l, fm (k : Int) d = true) (hl : l.length * 32 ≤ 140737488351232) (b3 b4 b9 i lo hi : Nat) (w : World) (hK : KW w) (ht : TreeIs 110 79 k w b l) (h4 : w.heap[b4]? = some (blk [vU64 (UInt64.ofNat i)] 23)) (h9 : w.heap[b9]? = some (blk [.func (.func 44) #[] #[vPtr b4, vPtr b9, vPtr b3]] 70)) (h3 : w.heap[b3]? = some (blk [vPtr b] 25)) (hlo : lo ≤ i) (hhi : i < hi) (hn : hi ≤ l.length) (h1n : hi - lo = 1) : Calls Tryd.prog 44 #[vU64 (UInt64.ofNat lo), vU64 (UInt64.ofNat hi), vPtr b4, vPtr b9, vPtr b3] w fun e w2 => ∃ v, e = .returned v ∧ ∃ e', RowE v 41 32 (([] : List (List UInt8))).length ((([] : List (List UInt8))).flatMap fun d => d.map vU8) e' ∧ Mem w [] [e'] w2 := by
  have hsub : UInt64.ofNat hi - UInt64.ofNat lo = UInt64.ofNat (hi - lo) := at_sub0 (by omega) (by omega)
  refine calls_of_sw (vs := [vU64 (UInt64.ofNat lo), vU64 (UInt64.ofNat hi), vPtr b4, vPtr b9, vPtr b3]) Tryd.func44 rfl Tryd.ntmps44 rfl (SW.begin ?_)
  refine sw_seq ?_
  refine sw_region ?_
  refine ow_val (val_assign rfl) rfl ?_
  refine ow_nil (into ?_)
  refine sw_seq ?_
  refine sw_seq ?_
  refine sw_region ?_
  refine ow_val (val_move rfl) rfl ?_
  refine ow_val (val_move rfl) rfl ?_
  refine ow_val ((val_sub_u64 rfl rfl).to (congrArg vU64 hsub)) rfl ?_
  refine ow_val ((val_eql_u64 rfl rfl).to (congrArg Value.bool (decide_eq_true (by rw [h1n]; rfl)))) rfl ?_
  refine ow_nil (into ?_)
  refine sw_true rfl rfl ?_
  refine sw_seq ?_
  refine sw_region ?_
  refine ow_val (val_assign rfl) rfl ?_
  refine ow_nil (into ?_)
  refine sw_ret (fun w hm => ?_)
  try dsimp only [thenP, blockP, Nat.beq, cond]
  exact ret_one _ rfl rfl ⟨none, RowE.nil _ _, hm.place⟩

theorem inc_left (k : Nat) (h1 : 1 ≤ k) (h2 : k ≤ 32) (b : Nat) (l : List (List UInt8)) (hdl : ∀ d ∈ l, d.length = 32) (hfl : ∀ d ∈ l, fm (k : Int) d = true) (hl : l.length * 32 ≤ 140737488351232) (b3 b4 b9 i lo hi : Nat) (w : World) (hK : KW w) (ht : TreeIs 110 79 k w b l) (h4 : w.heap[b4]? = some (blk [vU64 (UInt64.ofNat i)] 23)) (h9 : w.heap[b9]? = some (blk [.func (.func 44) #[] #[vPtr b4, vPtr b9, vPtr b3]] 70)) (h3 : w.heap[b3]? = some (blk [vPtr b] 25)) (hlo : lo ≤ i) (hhi : i < hi) (hn : hi ≤ l.length) (h2n : 2 ≤ hi - lo) (s : Nat) (hs : lo + splitN (hi - lo) = s) (his : i < s) (P : List (List UInt8)) (hPd : ∀ d ∈ P, d.length = 32) (hPf : ∀ d ∈ P, fm (k : Int) d = true) (hPn : P.length < l.length) (ih : ∀ w', KW w' → TreeIs 110 79 k w' b l → w'.heap[b4]? = some (blk [vU64 (UInt64.ofNat i)] 23) → w'.heap[b9]? = some (blk [.func (.func 44) #[] #[vPtr b4, vPtr b9, vPtr b3]] 70) → w'.heap[b3]? = some (blk [vPtr b] 25) → Calls Tryd.prog 44 #[vU64 (UInt64.ofNat lo), vU64 (UInt64.ofNat s), vPtr b4, vPtr b9, vPtr b3] w' fun e w2 => ∃ v, e = .returned v ∧ ∃ e', RowE v 41 32 P.length (P.flatMap fun d => d.map vU8) e' ∧ Mem w' [] [e'] w2) : Calls Tryd.prog 44 #[vU64 (UInt64.ofNat lo), vU64 (UInt64.ofNat hi), vPtr b4, vPtr b9, vPtr b3] w fun e w2 => ∃ v, e = .returned v ∧ ∃ e', RowE v 41 32 ((P ++ [lg k (seg l s hi)])).length (((P ++ [lg k (seg l s hi)])).flatMap fun d => d.map vU8) e' ∧ Mem w [] [e'] w2 := by
  have hsub : UInt64.ofNat hi - UInt64.ofNat lo = UInt64.ofNat (hi - lo) := at_sub0 (by omega) (by omega)
  have hs1 := splitN_lt (n := hi - lo) (by omega)
  have hs2 := splitN_pos (hi - lo)
  have hadd : UInt64.ofNat lo + UInt64.ofNat (splitN (hi - lo)) = UInt64.ofNat s := by rw [of_add (by omega), hs]
  obtain ⟨tiD, hDi, hDz, hDsz, hDby⟩ := info_parts iDg
  have hD1 : (lg k (seg l s hi)).length = 32 := lg_len h2 _ rfl (seg_all hdl)
  refine calls_of_sw (vs := [vU64 (UInt64.ofNat lo), vU64 (UInt64.ofNat hi), vPtr b4, vPtr b9, vPtr b3]) Tryd.func44 rfl Tryd.ntmps44 rfl (SW.begin ?_)
  refine sw_seq ?_
  refine sw_region ?_
  refine ow_val (val_assign rfl) rfl ?_
  refine ow_nil (into ?_)
  refine sw_seq ?_
  refine sw_seq ?_
  refine sw_region ?_
  refine ow_val (val_move rfl) rfl ?_
  refine ow_val (val_move rfl) rfl ?_
  refine ow_val ((val_sub_u64 rfl rfl).to (congrArg vU64 hsub)) rfl ?_
  refine ow_val ((val_eql_u64 rfl rfl).to (congrArg Value.bool (decide_eq_false (mt (of_inj (b := 1) (by omega) (by omega)).1 (by omega))))) rfl ?_
  refine ow_nil (into ?_)
  refine sw_false rfl rfl ?_
  refine sw_skip (into ?_)
  refine sw_seq ?_
  refine sw_region ?_
  refine ow_val (val_move rfl) rfl ?_
  refine ow_val (val_move rfl) rfl ?_
  refine ow_val (val_move rfl) rfl ?_
  refine ow_val ((val_sub_u64 rfl rfl).to (congrArg vU64 hsub)) rfl ?_
  refine ow_call_pure (v := vU64 (UInt64.ofNat (splitN (hi - lo)))) (callsTo Tryd.func45 rfl (by kernel_rfl) rfl) rfl (fun w hm => (by have h := pbelow_any (UInt64.ofNat (hi - lo)) (by rw [of_nat (by omega)]; omega) w; rw [splitU_of (by omega)] at h; exact h)) ?_
  refine ow_val ((val_add_u64 rfl rfl).to (congrArg vU64 hadd)) rfl ?_
  refine ow_val (val_assign rfl) rfl ?_
  refine ow_nil (into ?_)
  refine sw_seq ?_
  refine sw_seq ?_
  refine sw_region ?_
  refine ow_val (val_load_old h4 (List.not_mem_nil) rfl Tryd.isAgg23 rfl) rfl ?_
  refine ow_val (val_move rfl) rfl ?_
  refine ow_val ((val_lss_u64 rfl rfl).to (congrArg Value.bool (decide_eq_true ((at_lt (by omega) (by omega)).2 his)))) rfl ?_
  refine ow_nil (into ?_)
  refine sw_true rfl rfl ?_
  refine sw_seq ?_
  refine sw_region_tree (Mem w [] []) [] (.one 1 0 (.one 2 0 (.one 5 0 (.one 6 0 (.one 0 1 (.one 4 1 (.one 3 2 (.one 7 2 (.one 8 2 (.one 9 2 (.one 10 0 .done))))))))))) (by kernel_rfl) (by kernel_rfl) (fun _ _ _ h => h) (fun _ h => h.only (List.nil_sublist _)) (fun _ h => h.drawn _) ?_
  refine lt_pure rfl trivial (val_move rfl) rfl ?_
  refine lt_pure rfl trivial (val_move rfl) rfl ?_
  refine lt_pure rfl trivial (val_move rfl) rfl ?_
  refine lt_pure rfl trivial (val_move rfl) rfl ?_
  refine lt_held rfl trivial (val_load_old h9 (List.not_mem_nil) rfl Tryd.isAgg70 rfl) rfl ?_
  refine lt_held rfl trivial (val_load_old h3 (List.not_mem_nil) rfl Tryd.isAgg25 rfl) rfl ?_
  refine lt_call_row (E := 41) (size := 32) (k := P.length) (xs := List.flatMap (fun d : List UInt8 => List.map vU8 d) P) rfl trivial (callsToVal (cap := [vPtr b4, vPtr b9, vPtr b3]) rfl Tryd.func44 rfl (by kernel_rfl) rfl) rfl (fun w hm => ih w (hK.mem0 hm) (ht.mem hm) (hm.oldBlk h4) (hm.oldBlk h9) (hm.oldBlk h3)) (fun _ _ _ h => h.only (List.nil_sublist _)) (fun a25 c25 e25 hr25 => ?_)
  refine lt_call_pure (v := .agg ((lg k (seg l s hi)).map vU8).toArray) rfl trivial (callsTo Tryd.func46 rfl (by kernel_rfl) rfl) rfl (fun w hm => pwhole_any k h1 h2 b l hdl hfl hl w (hK.mem0 hm) (ht.mem hm) s hi (by omega) (by omega)) (fun _ _ h => h.only (List.nil_sublist _)) ?_
  refine lt_make (fun b => .slice (some ⟨b, 0, none⟩) 1 1) rfl trivial (acts_buildSlice (cs := [((lg k (seg l s hi))).map vU8].flatten) Tryd.underlying22 Tryd.sizeOf41 zD rfl rfl (fill_aggs [((lg k (seg l s hi))).map vU8] (by decide) rfl (by simp only [List.forall_mem_cons, List.length_map]; exact ⟨hD1, fun _ h => by cases h⟩))) rfl (fun _ _ _ h => h.only (List.nil_sublist _)) (fun b30 hb30 => ?_)
  refine lt_append (k := P.length + 1) (xs := (P ++ [(lg k (seg l s hi))]).flatMap fun d => d.map vU8) rfl trivial (acts_row (acts_append (size := 32) (bytes := 32) 1 rfl rfl rfl hr25 rfl Tryd.underlying22 hDi hDz hDsz hDby rfl (by decide) (fun w hm => (Rd.blk (hm.at (i := 0) rfl))) (by simp only [List.flatten_cons, List.flatten_nil, List.append_nil, List.length_append, List.length_map, hD1]) (fun u hu => by simp only [List.flatten_cons, List.flatten_nil, List.append_nil, List.mem_append] at hu; rcases hu with hu <;> exact one_u8s _ u hu) (by omega) (by omega)) rfl (by simp only [List.flatMap_append, List.flatMap_cons, List.flatMap_nil, List.flatten_cons, List.flatten_nil, List.nil_append, List.append_nil])) rfl (fun _ _ _ h => h.only (List.nil_sublist _)) (fun a31 c31 e31 hr31' => ?_)
  have hx31 : (P ++ [(lg k (seg l s hi))]).length = P.length + 1 := by rw [List.length_append] <;> rfl
  refine lt_pure rfl trivial (val_assign rfl) rfl ?_
  refine lt_done (into ?_)
  refine sw_ret (fun w hm => ?_)
  try dsimp only [thenP, blockP, Nat.beq, cond]
  exact ret_one _ rfl rfl ⟨e31, hr31'.cong rfl (by rw [List.length_append]; rfl) rfl, hm.only (.cons _ (.cons_cons _ (List.nil_sublist _)))⟩

theorem inc_right (k : Nat) (h1 : 1 ≤ k) (h2 : k ≤ 32) (b : Nat) (l : List (List UInt8)) (hdl : ∀ d ∈ l, d.length = 32) (hfl : ∀ d ∈ l, fm (k : Int) d = true) (hl : l.length * 32 ≤ 140737488351232) (b3 b4 b9 i lo hi : Nat) (w : World) (hK : KW w) (ht : TreeIs 110 79 k w b l) (h4 : w.heap[b4]? = some (blk [vU64 (UInt64.ofNat i)] 23)) (h9 : w.heap[b9]? = some (blk [.func (.func 44) #[] #[vPtr b4, vPtr b9, vPtr b3]] 70)) (h3 : w.heap[b3]? = some (blk [vPtr b] 25)) (hlo : lo ≤ i) (hhi : i < hi) (hn : hi ≤ l.length) (h2n : 2 ≤ hi - lo) (s : Nat) (hs : lo + splitN (hi - lo) = s) (his : ¬ i < s) (P : List (List UInt8)) (hPd : ∀ d ∈ P, d.length = 32) (hPf : ∀ d ∈ P, fm (k : Int) d = true) (hPn : P.length < l.length) (ih : ∀ w', KW w' → TreeIs 110 79 k w' b l → w'.heap[b4]? = some (blk [vU64 (UInt64.ofNat i)] 23) → w'.heap[b9]? = some (blk [.func (.func 44) #[] #[vPtr b4, vPtr b9, vPtr b3]] 70) → w'.heap[b3]? = some (blk [vPtr b] 25) → Calls Tryd.prog 44 #[vU64 (UInt64.ofNat s), vU64 (UInt64.ofNat hi), vPtr b4, vPtr b9, vPtr b3] w' fun e w2 => ∃ v, e = .returned v ∧ ∃ e', RowE v 41 32 P.length (P.flatMap fun d => d.map vU8) e' ∧ Mem w' [] [e'] w2) : Calls Tryd.prog 44 #[vU64 (UInt64.ofNat lo), vU64 (UInt64.ofNat hi), vPtr b4, vPtr b9, vPtr b3] w fun e w2 => ∃ v, e = .returned v ∧ ∃ e', RowE v 41 32 ((P ++ [lg k (seg l lo s)])).length (((P ++ [lg k (seg l lo s)])).flatMap fun d => d.map vU8) e' ∧ Mem w [] [e'] w2 := by
  have hsub : UInt64.ofNat hi - UInt64.ofNat lo = UInt64.ofNat (hi - lo) := at_sub0 (by omega) (by omega)
  have hs1 := splitN_lt (n := hi - lo) (by omega)
  have hs2 := splitN_pos (hi - lo)
  have hadd : UInt64.ofNat lo + UInt64.ofNat (splitN (hi - lo)) = UInt64.ofNat s := by rw [of_add (by omega), hs]
  obtain ⟨tiD, hDi, hDz, hDsz, hDby⟩ := info_parts iDg
  have hD1 : (lg k (seg l lo s)).length = 32 := lg_len h2 _ rfl (seg_all hdl)
  refine calls_of_sw (vs := [vU64 (UInt64.ofNat lo), vU64 (UInt64.ofNat hi), vPtr b4, vPtr b9, vPtr b3]) Tryd.func44 rfl Tryd.ntmps44 rfl (SW.begin ?_)
  refine sw_seq ?_
  refine sw_region ?_
  refine ow_val (val_assign rfl) rfl ?_
  refine ow_nil (into ?_)
  refine sw_seq ?_
  refine sw_seq ?_
  refine sw_region ?_
  refine ow_val (val_move rfl) rfl ?_
  refine ow_val (val_move rfl) rfl ?_
  refine ow_val ((val_sub_u64 rfl rfl).to (congrArg vU64 hsub)) rfl ?_
  refine ow_val ((val_eql_u64 rfl rfl).to (congrArg Value.bool (decide_eq_false (mt (of_inj (b := 1) (by omega) (by omega)).1 (by omega))))) rfl ?_
  refine ow_nil (into ?_)
  refine sw_false rfl rfl ?_
  refine sw_skip (into ?_)
  refine sw_seq ?_
  refine sw_region ?_
  refine ow_val (val_move rfl) rfl ?_
  refine ow_val (val_move rfl) rfl ?_
  refine ow_val (val_move rfl) rfl ?_
  refine ow_val ((val_sub_u64 rfl rfl).to (congrArg vU64 hsub)) rfl ?_
  refine ow_call_pure (v := vU64 (UInt64.ofNat (splitN (hi - lo)))) (callsTo Tryd.func45 rfl (by kernel_rfl) rfl) rfl (fun w hm => (by have h := pbelow_any (UInt64.ofNat (hi - lo)) (by rw [of_nat (by omega)]; omega) w; rw [splitU_of (by omega)] at h; exact h)) ?_
  refine ow_val ((val_add_u64 rfl rfl).to (congrArg vU64 hadd)) rfl ?_
  refine ow_val (val_assign rfl) rfl ?_
  refine ow_nil (into ?_)
  refine sw_seq ?_
  refine sw_seq ?_
  refine sw_region ?_
  refine ow_val (val_load_old h4 (List.not_mem_nil) rfl Tryd.isAgg23 rfl) rfl ?_
  refine ow_val (val_move rfl) rfl ?_
  refine ow_val ((val_lss_u64 rfl rfl).to (congrArg Value.bool (decide_eq_false (mt (at_lt (by omega) (by omega)).1 his)))) rfl ?_
  refine ow_nil (into ?_)
  refine sw_false rfl rfl ?_
  refine sw_skip (into ?_)
  refine sw_seq ?_
  refine sw_region_tree (Mem w [] []) [] (.one 1 0 (.one 2 0 (.one 5 0 (.one 6 0 (.one 0 1 (.one 4 1 (.one 3 2 (.one 7 2 (.one 8 2 (.one 9 2 (.one 10 0 .done))))))))))) (by kernel_rfl) (by kernel_rfl) (fun _ _ _ h => h) (fun _ h => h.only (List.nil_sublist _)) (fun _ h => h.drawn _) ?_
  refine lt_pure rfl trivial (val_move rfl) rfl ?_
  refine lt_pure rfl trivial (val_move rfl) rfl ?_
  refine lt_pure rfl trivial (val_move rfl) rfl ?_
  refine lt_pure rfl trivial (val_move rfl) rfl ?_
  refine lt_held rfl trivial (val_load_old h9 (List.not_mem_nil) rfl Tryd.isAgg70 rfl) rfl ?_
  refine lt_held rfl trivial (val_load_old h3 (List.not_mem_nil) rfl Tryd.isAgg25 rfl) rfl ?_
  refine lt_call_row (E := 41) (size := 32) (k := P.length) (xs := List.flatMap (fun d : List UInt8 => List.map vU8 d) P) rfl trivial (callsToVal (cap := [vPtr b4, vPtr b9, vPtr b3]) rfl Tryd.func44 rfl (by kernel_rfl) rfl) rfl (fun w hm => ih w (hK.mem0 hm) (ht.mem hm) (hm.oldBlk h4) (hm.oldBlk h9) (hm.oldBlk h3)) (fun _ _ _ h => h.only (List.nil_sublist _)) (fun a35 c35 e35 hr35 => ?_)
  refine lt_call_pure (v := .agg ((lg k (seg l lo s)).map vU8).toArray) rfl trivial (callsTo Tryd.func46 rfl (by kernel_rfl) rfl) rfl (fun w hm => pwhole_any k h1 h2 b l hdl hfl hl w (hK.mem0 hm) (ht.mem hm) lo s (by omega) (by omega)) (fun _ _ h => h.only (List.nil_sublist _)) ?_
  refine lt_make (fun b => .slice (some ⟨b, 0, none⟩) 1 1) rfl trivial (acts_buildSlice (cs := [((lg k (seg l lo s))).map vU8].flatten) Tryd.underlying22 Tryd.sizeOf41 zD rfl rfl (fill_aggs [((lg k (seg l lo s))).map vU8] (by decide) rfl (by simp only [List.forall_mem_cons, List.length_map]; exact ⟨hD1, fun _ h => by cases h⟩))) rfl (fun _ _ _ h => h.only (List.nil_sublist _)) (fun b40 hb40 => ?_)
  refine lt_append (k := P.length + 1) (xs := (P ++ [(lg k (seg l lo s))]).flatMap fun d => d.map vU8) rfl trivial (acts_row (acts_append (size := 32) (bytes := 32) 1 rfl rfl rfl hr35 rfl Tryd.underlying22 hDi hDz hDsz hDby rfl (by decide) (fun w hm => (Rd.blk (hm.at (i := 0) rfl))) (by simp only [List.flatten_cons, List.flatten_nil, List.append_nil, List.length_append, List.length_map, hD1]) (fun u hu => by simp only [List.flatten_cons, List.flatten_nil, List.append_nil, List.mem_append] at hu; rcases hu with hu <;> exact one_u8s _ u hu) (by omega) (by omega)) rfl (by simp only [List.flatMap_append, List.flatMap_cons, List.flatMap_nil, List.flatten_cons, List.flatten_nil, List.nil_append, List.append_nil])) rfl (fun _ _ _ h => h.only (List.nil_sublist _)) (fun a41 c41 e41 hr41' => ?_)
  have hx41 : (P ++ [(lg k (seg l lo s))]).length = P.length + 1 := by rw [List.length_append] <;> rfl
  refine lt_pure rfl trivial (val_assign rfl) rfl ?_
  refine lt_done (into ?_)
  exact sw_ret (fun w hm => ret_one _ rfl rfl ⟨e41, hr41'.cong rfl (by rw [List.length_append]; rfl) rfl, hm.only (.cons _ (.cons_cons _ (List.nil_sublist _)))⟩)

theorem inc_any (k : Nat) (h1 : 1 ≤ k) (h2 : k ≤ 32) (b : Nat) (l : List (List UInt8)) (hdl : ∀ d ∈ l, d.length = 32) (hfl : ∀ d ∈ l, fm (k : Int) d = true) (hl : l.length * 32 ≤ 140737488351232) (b3 b4 b9 i : Nat) : ∀ (N lo hi : Nat) (w : World), hi - lo ≤ N → KW w → TreeIs 110 79 k w b l → w.heap[b4]? = some (blk [vU64 (UInt64.ofNat i)] 23) → w.heap[b9]? = some (blk [.func (.func 44) #[] #[vPtr b4, vPtr b9, vPtr b3]] 70) → w.heap[b3]? = some (blk [vPtr b] 25) → lo ≤ i → i < hi → hi ≤ l.length → Calls Tryd.prog 44 #[vU64 (UInt64.ofNat lo), vU64 (UInt64.ofNat hi), vPtr b4, vPtr b9, vPtr b3] w fun e w2 => ∃ v, e = .returned v ∧ ∃ e', RowE v 41 32 (incL k (seg l lo hi) (i - lo)).length ((incL k (seg l lo hi) (i - lo)).flatMap fun d => d.map vU8) e' ∧ Mem w [] [e'] w2
  | N, lo, hi, w, hN, hK, ht, h4, h9, h3, hlo, hhi, hn => by
    have hsl := seg_len (l := l) (lo := lo) (hi := hi) hn
    by_cases h1n : hi - lo = 1
    · rw [incL_one (by omega)]
      exact inc_one k h1 h2 b l hdl hfl hl b3 b4 b9 i lo hi w hK ht h4 h9 h3 hlo hhi hn h1n
    match N, hN with
    | 0, hN => omega
    | N + 1, hN =>
      have hs1 := splitN_lt (n := hi - lo) (by omega)
      have hs2 := splitN_pos (hi - lo)
      have hed : ∀ d ∈ seg l lo (lo + splitN (hi - lo)), d ∈ l := seg_all (P := fun d => d ∈ l) (fun d hd => hd)
      have hel : ∀ {a c : Nat}, (∀ d ∈ seg l a c, d.length = 32) := seg_all hdl
      have hef : ∀ {a c : Nat}, (∀ d ∈ seg l a c, fm (k : Int) d = true) := seg_all hfl
      by_cases his : i < lo + splitN (hi - lo)
      · rw [incL_left (by omega) (s := lo + splitN (hi - lo) - lo) (by rw [hsl]; omega) (by omega), seg_takeL (by omega) (by omega), seg_dropL (by omega) (by omega)]
        exact inc_left k h1 h2 b l hdl hfl hl b3 b4 b9 i lo hi w hK ht h4 h9 h3 hlo hhi hn (by omega) _ rfl his _ (fun d hd => (incL_mem h1 h2 _ (Nat.le_refl _) hel hef d hd).1) (fun d hd => (incL_mem h1 h2 _ (Nat.le_refl _) hel hef d hd).2)
          (by have h7 := incL_len (k := k) _ (l := seg l lo (lo + splitN (hi - lo))) (i := i - lo) (Nat.le_refl _); rw [seg_len (by omega)] at h7; omega)
          (fun w' hK ht h4 h9 h3 => inc_any k h1 h2 b l hdl hfl hl b3 b4 b9 i N lo (lo + splitN (hi - lo)) w' (by omega) hK ht h4 h9 h3 hlo his (by omega))
      · rw [incL_right (by omega) (s := lo + splitN (hi - lo) - lo) (by rw [hsl]; omega) (by omega), seg_takeL (by omega) (by omega), seg_dropL (by omega) (by omega), show i - lo - (lo + splitN (hi - lo) - lo) = i - (lo + splitN (hi - lo)) by omega]
        exact inc_right k h1 h2 b l hdl hfl hl b3 b4 b9 i lo hi w hK ht h4 h9 h3 hlo hhi hn (by omega) _ rfl his _ (fun d hd => (incL_mem h1 h2 _ (Nat.le_refl _) hel hef d hd).1) (fun d hd => (incL_mem h1 h2 _ (Nat.le_refl _) hel hef d hd).2)
          (by have h7 := incL_len (k := k) _ (l := seg l (lo + splitN (hi - lo)) hi) (i := i - (lo + splitN (hi - lo))) (Nat.le_refl _); rw [seg_len (by omega)] at h7; omega)
          (fun w' hK ht h4 h9 h3 => inc_any k h1 h2 b l hdl hfl hl b3 b4 b9 i N (lo + splitN (hi - lo)) hi w' (by omega) hK ht h4 h9 h3 (by omega) hhi hn)
end Go.Proofs.YtcdponddgnkecaaDoor
