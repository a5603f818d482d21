import Derived.Test.YtcappcjogcekkaaDoorMt9
import Derived.Test.YtcappcjogcekkaaDoorProg
set_option linter.unusedVariables false
set_option linter.unusedSimpArgs false
namespace Go.Proofs.YtcappcjogcekkaaDoor
open Go.Sx Go.Ps
theorem splitN_half {n q : Nat} (h2 : 2 ≤ n) (h : n ≤ 2 ^ (q + 1)) : splitN n ≤ 2 ^ q := by
  have h1 := splitN_lt h2
  have h3 : splitN n = 2 ^ Nat.log2 (n - 1) := rfl
  have h4 : 2 ^ Nat.log2 (n - 1) < 2 ^ (q + 1) := by omega
  have h5 := (Nat.pow_lt_pow_iff_right (show 1 < 2 by omega)).1 h4
  rw [h3]; exact Nat.pow_le_pow_right (by omega) (by omega)
theorem seg_len {l : List (List UInt8)} {lo hi : Nat} (h : hi ≤ l.length) : (seg l lo hi).length = hi - lo := by
  rw [seg, List.length_take, List.length_drop]; omega
theorem seg_cat {l : List (List UInt8)} {lo m hi : Nat} (h1 : lo ≤ m) (h2 : m ≤ hi) : seg l lo hi = seg l lo m ++ seg l m hi := by
  rw [seg, seg, seg, show hi - lo = (m - lo) + (hi - m) by omega, List.take_add, List.drop_drop, show lo + (m - lo) = m by omega]
theorem seg_one {l : List (List UInt8)} {i : Nat} (h : i < l.length) : seg l i (i + 1) = [l.getD i default] := by
  rw [seg, Nat.add_sub_cancel_left, List.drop_eq_getElem_cons h, List.take_succ_cons, List.take_zero, List.getD_eq_getElem?_getD, List.getElem?_eq_getElem h, Option.getD_some]
theorem seg_more {l l' : List (List UInt8)} {lo i : Nat} (h1 : lo ≤ i) (h : i < l.length) (h' : i < l'.length) (he : seg l lo i = seg l' lo i) (hx : l.getD i default = l'.getD i default) : seg l lo (i + 1) = seg l' lo (i + 1) := by
  rw [seg_cat h1 (Nat.le_succ i), seg_cat (l := l') h1 (Nat.le_succ i), he, seg_one h, seg_one h', hx]
theorem seg_ne {l l' : List (List UInt8)} {lo i hi : Nat} (h1 : lo ≤ i) (h2 : i < hi) (h : hi ≤ l.length) (h' : hi ≤ l'.length) (hx : l.getD i default ≠ l'.getD i default) : seg l lo hi ≠ seg l' lo hi := fun he => by
  rw [seg_cat h1 (by omega : i ≤ hi), seg_cat (l := l') h1 (by omega : i ≤ hi)] at he
  have h3 := (List.append_inj he (by rw [seg_len (by omega), seg_len (by omega)])).2
  rw [seg_cat (m := i + 1) (Nat.le_succ i) h2, seg_cat (l := l') (m := i + 1) (Nat.le_succ i) h2] at h3
  have h4 := (List.append_inj h3 (by rw [seg_len (by omega), seg_len (by omega)])).1
  rw [seg_one (by omega), seg_one (by omega)] at h4
  exact hx (List.cons.inj h4).1
theorem seg_right {l l' : List (List UInt8)} {lo m hi : Nat} (h1 : lo ≤ m) (h2 : m ≤ hi) (he : seg l lo m = seg l' lo m) (hn : seg l lo hi ≠ seg l' lo hi) : seg l m hi ≠ seg l' m hi := fun h => hn (by rw [seg_cat h1 h2, seg_cat (l := l') h1 h2, he, h])
theorem seg_two {k : Nat} {l l' : List (List UInt8)} {lo hi : Nat} (h : hi ≤ l.length) (h' : hi ≤ l'.length) (hn : seg l lo hi ≠ seg l' lo hi) (he : lg k (seg l lo hi) = lg k (seg l' lo hi)) : lo + 2 ≤ hi := by
  rcases Nat.lt_or_ge hi (lo + 2) with h2 | h2
  · exfalso
    rcases Nat.lt_or_ge lo hi with h3 | h3
    · obtain rfl : hi = lo + 1 := by omega
      rw [seg_one (by omega), seg_one (by omega), lg_one, lg_one] at he
      exact hn (by rw [seg_one (by omega), seg_one (by omega), he])
    · exact hn (by rw [seg, seg, show hi - lo = 0 by omega, List.take_zero, List.take_zero])
  · exact h2

theorem apart_any (k : Nat) (h1 : 1 ≤ k) (h2 : k ≤ 32) (w : World) (hK : KW w) (b1 : Nat) (l1 : List (List UInt8)) (ht1 : TreeIs 95 75 k w b1 l1) (hd1 : ∀ d ∈ l1, d.length = 32) (hf1 : ∀ d ∈ l1, fm (k : Int) d = true) (b2 : Nat) (l2 : List (List UInt8)) (ht2 : TreeIs 95 75 k w b2 l2) (hd2 : ∀ d ∈ l2, d.length = 32) (hf2 : ∀ d ∈ l2, fm (k : Int) d = true) (lo hi : Nat) (hle : lo ≤ hi) (hh1 : hi ≤ l1.length) (hh2 : hi ≤ l2.length) (hn1 : l1.length ≤ 1048576) (hn2 : l2.length ≤ 1048576) : Calls Tryd.prog 32 #[vPtr b1, vPtr b2, vU64 (UInt64.ofNat lo), vU64 (UInt64.ofNat hi)] w fun e w' => ∃ v, e = .returned v ∧ v = .bool (decide (seg l1 lo hi ≠ seg l2 lo hi)) ∧ Mem w [] [] w' := by
  refine calls_of_sw (vs := [vPtr b1, vPtr b2, vU64 (UInt64.ofNat lo), vU64 (UInt64.ofNat hi)]) Tryd.func32 rfl Tryd.ntmps32 rfl (SW.begin ?_)
  refine sw_seq ?_
  refine sw_region ?_
  refine ow_val (val_assign rfl) rfl ?_   -- 8
  refine ow_nil (into ?_)
  refine sw_seq ?_
  refine sw_seq ?_
  refine sw_region ?_
  refine ow_val (val_move rfl) rfl ?_   -- 14
  refine ow_val (val_assign rfl) rfl ?_   -- 9
  refine ow_nil (into ?_)
  refine sw_block ?_
  refine sw_loop (σ := Nat) (fun i => lo ≤ i ∧ i ≤ hi ∧ seg l1 lo i = seg l2 lo i) (fun i => [(9, vU64 (UInt64.ofNat i)), (3, vU64 (UInt64.ofNat hi)), (0, vPtr b1), (1, vPtr b2)]) (fun _ => Mem w [] []) (fun i => hi - i) lo ⟨Nat.le_refl _, hle, by rw [seg, seg, Nat.sub_self, List.take_zero, List.take_zero]⟩ ⟨rfl, rfl, rfl, rfl, trivial⟩ (fun w hm => hm.forgetAll) ?_
  rintro i ⟨hi1, hi2, hse⟩
  refine sw_seq ?_
  refine sw_seq ?_
  refine sw_region ?_
  refine ow_val (val_move rfl) rfl ?_   -- 15
  refine ow_val (val_move rfl) rfl ?_   -- 16
  refine ow_val (val_lss_u64 rfl rfl) rfl ?_   -- 17
  refine ow_nil (into ?_)
  refine sw_if rfl (fun h0 => ?_) (fun h0 => ?_)
  · -- then
    have hih : i < hi := (at_lt (by omega) (by omega)).1 h0
    refine sw_skip (into ?_)
    refine sw_seq ?_
    refine sw_block ?_
    refine sw_seq ?_
    refine sw_region ?_
    refine ow_val (val_move rfl) rfl ?_   -- 21
    refine ow_val (val_move rfl) rfl ?_   -- 22
    refine ow_call_pure (v := .tuple #[.agg ((l1.getD i default).map vU8).toArray, vInt ((0 : Nat) : Int)]) (callsTo Tryd.func22 rfl (by kernel_rfl) rfl) rfl (fun w hm => (by have h := tleaf_any k h1 h2 b1 l1 (by assumption) (UInt64.ofNat i) w (ht1.mem hm) (by omega); rw [leafO_nat (by omega) (by omega)] at h; exact h)) ?_   -- 23
    refine ow_val (val_move rfl) rfl ?_   -- 20
    refine ow_val (val_extract rfl rfl) rfl ?_   -- 24
    refine ow_val (val_extract rfl rfl) rfl ?_   -- 25
    refine ow_new (acts_alloc zD) rfl (fun b10 hb10 => ?_)   -- 10
    refine ow_do_eq (does_store_all 0 rfl rfl rfl (one_u8s _) Tryd.sizeOf43 (by show (List.map vU8 (l1.getD i default)).length = _; rw [List.length_map]; exact (hd1 _ (getD_mem (by omega)))) (by show (List.map vU8 zeros32).length = _; rw [List.length_map]; exact zeros32_len)) ?_
    refine ow_val (val_assign rfl) rfl ?_   -- 11
    refine ow_nil (into ?_)
    refine sw_seq ?_
    refine sw_region ?_
    refine ow_val (val_move rfl) rfl ?_   -- 27
    refine ow_val (val_move rfl) rfl ?_   -- 28
    refine ow_call_pure (v := .tuple #[.agg ((l2.getD i default).map vU8).toArray, vInt ((0 : Nat) : Int)]) (callsTo Tryd.func22 rfl (by kernel_rfl) rfl) rfl (fun w hm => (by have h := tleaf_any k h1 h2 b2 l2 (by assumption) (UInt64.ofNat i) w (ht2.mem hm) (by omega); rw [leafO_nat (by omega) (by omega)] at h; exact h)) ?_   -- 29
    refine ow_val (val_move rfl) rfl ?_   -- 26
    refine ow_val (val_extract rfl rfl) rfl ?_   -- 30
    refine ow_val (val_extract rfl rfl) rfl ?_   -- 31
    refine ow_new (acts_alloc zD) rfl (fun b12 hb12 => ?_)   -- 12
    refine ow_do_eq (does_store_all 0 rfl rfl rfl (one_u8s _) Tryd.sizeOf43 (by show (List.map vU8 (l2.getD i default)).length = _; rw [List.length_map]; exact (hd2 _ (getD_mem (by omega)))) (by show (List.map vU8 zeros32).length = _; rw [List.length_map]; exact zeros32_len)) ?_
    refine ow_val (val_assign rfl) rfl ?_   -- 13
    refine ow_nil (into ?_)
    refine sw_seq ?_
    refine sw_region ?_
    refine ow_val (val_load_all 1 rfl rfl Tryd.isAgg43 Tryd.sizeOf43 (by show (List.map vU8 (l1.getD i default)).length = _; rw [List.length_map]; exact (hd1 _ (getD_mem (by omega))))) rfl ?_   -- 32
    refine ow_val (val_load_all 0 rfl rfl Tryd.isAgg43 Tryd.sizeOf43 (by show (List.map vU8 (l2.getD i default)).length = _; rw [List.length_map]; exact (hd2 _ (getD_mem (by omega))))) rfl ?_   -- 33
    by_cases hx : l1.getD i default ≠ l2.getD i default
    · -- yes
      refine ow_val ((val_neq_u8s rfl rfl Tryd.eqGuardType43 Tryd.underlying43 Tryd.underlying5 Tryd.sizeOf5 Tryd.isAgg5 (hd1 _ (getD_mem (by omega))) (hd2 _ (getD_mem (by omega)))).to (congrArg Value.bool (show (!_) = true by rw [decide_eq_false hx]; rfl))) rfl ?_   -- 34
      refine ow_val (val_move rfl) rfl ?_   -- 35
      first | refine ow_guard_no rfl rfl rfl rfl rfl ?_ | refine ow_guard_none rfl rfl rfl rfl rfl ?_
      first | refine ow_guard_no rfl rfl rfl rfl rfl ?_ | refine ow_guard_none rfl rfl rfl rfl rfl ?_
      first | refine ow_guard_no rfl rfl rfl rfl rfl ?_ | refine ow_guard_none rfl rfl rfl rfl rfl ?_
      refine ow_val (val_pick_true rfl rfl) rfl ?_   -- 39
      refine ow_nil (into ?_)
      refine sw_true rfl rfl ?_
      refine sw_seq ?_
      refine sw_region ?_
      refine ow_val (val_assign rfl) rfl ?_   -- 8
      refine ow_nil (into ?_)
      refine sw_ret (fun w hm => ?_)
      try dsimp only [thenP, blockP, Nat.beq, cond]
      exact ret_one _ rfl rfl ⟨congrArg Value.bool (decide_eq_true (seg_ne hi1 hih hh1 hh2 hx)).symm, hm.forgetAll⟩
    · -- no
      refine ow_val ((val_neq_u8s rfl rfl Tryd.eqGuardType43 Tryd.underlying43 Tryd.underlying5 Tryd.sizeOf5 Tryd.isAgg5 (hd1 _ (getD_mem (by omega))) (hd2 _ (getD_mem (by omega)))).to (congrArg Value.bool (show (!_) = false by rw [decide_eq_true (Decidable.not_not.1 hx)]; rfl))) rfl ?_   -- 34
      refine ow_val (val_move rfl) rfl ?_   -- 35
      refine ow_guard_yes rfl rfl rfl ?_
      refine ow_val (val_move rfl) rfl ?_   -- 36
      refine ow_guard_yes rfl rfl rfl ?_
      refine ow_val (val_move rfl) rfl ?_   -- 37
      refine ow_guard_yes rfl rfl rfl ?_
      refine ow_val ((val_neq_int rfl rfl).to (v' := .bool false) (congrArg Value.bool (decide_eq_false (fun h => h rfl)))) rfl ?_   -- 38
      refine ow_val (val_pick_false rfl rfl) rfl ?_   -- 39
      refine ow_nil (into ?_)
      refine sw_false rfl rfl ?_
      refine sw_skip (into ?_)
      refine sw_region ?_
      refine ow_val (val_move rfl) rfl ?_   -- 18
      refine ow_val ((val_add_u64 rfl rfl).to (congrArg vU64 (of_add (a := i) (b := 1) (by omega)))) rfl ?_   -- 19
      refine ow_val (val_assign rfl) rfl ?_   -- 9
      exact ow_nil (fun w hm => ⟨i + 1, ⟨by omega, by omega, seg_more hi1 (by omega) (by omega) hse (Decidable.not_not.1 hx)⟩, by omega, ⟨rfl, rfl, rfl, rfl, trivial⟩, hm.forgetAll⟩)
  · -- else
    have hih : i = hi := by have h9 := mt (at_lt (a := i) (b := hi) (by omega) (by omega)).2 h0; omega
    subst hih
    refine sw_exit (into ?_)
    refine sw_seq ?_
    refine sw_region ?_
    refine ow_val (val_assign rfl) rfl ?_   -- 8
    refine ow_nil (into ?_)
    refine sw_ret (fun w hm => ?_)
    try dsimp only [thenP, blockP, Nat.beq, cond]
    exact ret_one _ rfl rfl ⟨congrArg Value.bool (decide_eq_false (fun h => h hse)).symm, hm.forgetAll⟩

theorem apart_is {b : Bool} (k : Nat) (h1 : 1 ≤ k) (h2 : k ≤ 32) (w : World) (hK : KW w) (b1 : Nat) (l1 : List (List UInt8)) (ht1 : TreeIs 95 75 k w b1 l1) (hd1 : ∀ d ∈ l1, d.length = 32) (hf1 : ∀ d ∈ l1, fm (k : Int) d = true) (b2 : Nat) (l2 : List (List UInt8)) (ht2 : TreeIs 95 75 k w b2 l2) (hd2 : ∀ d ∈ l2, d.length = 32) (hf2 : ∀ d ∈ l2, fm (k : Int) d = true) (lo hi : Nat) (hle : lo ≤ hi) (hh1 : hi ≤ l1.length) (hh2 : hi ≤ l2.length) (hn1 : l1.length ≤ 1048576) (hn2 : l2.length ≤ 1048576) (hb : (decide (seg l1 lo hi ≠ seg l2 lo hi)) = b) : Calls Tryd.prog 32 #[vPtr b1, vPtr b2, vU64 (UInt64.ofNat lo), vU64 (UInt64.ofNat hi)] w fun e w' => ∃ v, e = .returned v ∧ v = .bool b ∧ Mem w [] [] w' := by
  rw [← hb]; exact apart_any k h1 h2 w hK b1 l1 ht1 hd1 hf1 b2 l2 ht2 hd2 hf2 lo hi hle hh1 hh2 hn1 hn2

theorem differ_any (k : Nat) (h1 : 1 ≤ k) (h2 : k ≤ 32) (w : World) (hK : KW w) (b1 : Nat) (l1 : List (List UInt8)) (ht1 : TreeIs 95 75 k w b1 l1) (hd1 : ∀ d ∈ l1, d.length = 32) (hf1 : ∀ d ∈ l1, fm (k : Int) d = true) (b2 : Nat) (l2 : List (List UInt8)) (ht2 : TreeIs 95 75 k w b2 l2) (hd2 : ∀ d ∈ l2, d.length = 32) (hf2 : ∀ d ∈ l2, fm (k : Int) d = true) (lo hi : Nat) (hle : lo ≤ hi) (hh1 : hi ≤ l1.length) (hh2 : hi ≤ l2.length) (hn1 : l1.length ≤ 1048576) (hn2 : l2.length ≤ 1048576) (hne : seg l1 lo hi ≠ seg l2 lo hi) (heq : lg k (seg l1 lo hi) = lg k (seg l2 lo hi)) : Calls Tryd.prog 33 #[vPtr b1, vPtr b2, vU64 (UInt64.ofNat lo), vU64 (UInt64.ofNat hi)] w fun e w' => ∃ v, e = .returned v ∧ v = .bool true ∧ Mem w [] [] w' := by
  refine calls_of_sw (vs := [vPtr b1, vPtr b2, vU64 (UInt64.ofNat lo), vU64 (UInt64.ofNat hi)]) Tryd.func33 rfl Tryd.ntmps33 rfl (SW.begin ?_)
  refine sw_seq ?_
  refine sw_region ?_
  refine ow_val (val_assign rfl) rfl ?_   -- 8
  refine ow_nil (into ?_)
  refine sw_seq ?_
  refine sw_seq ?_
  refine sw_region ?_
  refine ow_val (val_move rfl) rfl ?_   -- 20
  refine ow_nil (into ?_)
  refine sw_block ?_
  refine sw_loop (σ := Nat × Nat × Nat) (fun t => t.1 ≤ 69 ∧ t.2.1 ≤ t.2.2 ∧ t.2.2 ≤ l1.length ∧ t.2.2 ≤ l2.length ∧ seg l1 t.2.1 t.2.2 ≠ seg l2 t.2.1 t.2.2 ∧ lg k (seg l1 t.2.1 t.2.2) = lg k (seg l2 t.2.1 t.2.2) ∧ t.2.2 - t.2.1 ≤ 2 ^ (69 - t.1)) (fun t => [(3, vU64 (UInt64.ofNat t.2.2)), (2, vU64 (UInt64.ofNat t.2.1)), (0, vPtr b1), (1, vPtr b2), (20, vInt (t.1 : Int))]) (fun _ => Mem w [] []) (fun t => 70 - t.1) (0, lo, hi) ⟨Nat.zero_le _, hle, hh1, hh2, hne, heq, Nat.le_trans (show hi - lo ≤ 1048576 by omega) (show 1048576 ≤ 2 ^ (69 - 0) by decide)⟩ ⟨rfl, rfl, rfl, rfl, rfl, trivial⟩ (fun w hm => hm.forgetAll) ?_
  rintro ⟨r, x, y⟩ ⟨hr, hxy, hy1, hy2, hsn, hlq, hsz⟩
  simp only at hr hxy hy1 hy2 hsn hlq hsz ⊢
  have hx2 := seg_two hy1 hy2 hsn hlq
  have hr2 : r ≤ 68 := by
    rcases Nat.lt_or_ge 68 r with h | h
    · rw [show 69 - r = 0 by omega] at hsz; omega
    · exact h
  have hm1 := splitN_half (n := y - x) (q := 69 - (r + 1)) (by omega) (by rw [show 69 - (r + 1) + 1 = 69 - r by omega]; exact hsz)
  have hm3 := splitN_ge (n := y - x) (by omega)
  refine sw_seq ?_
  refine sw_region ?_
  refine ow_val ((val_lss_int rfl rfl).to (congrArg Value.bool (decide_eq_true (by omega)))) rfl ?_   -- 21
  refine ow_nil (into ?_)
  refine sw_seq ?_
  refine sw_true rfl rfl ?_
  refine sw_skip (into ?_)
  refine sw_seq ?_
  refine sw_block ?_
  refine sw_seq ?_
  refine sw_region ?_
  refine ow_val (val_move rfl) rfl ?_   -- 23
  refine ow_val (val_move rfl) rfl ?_   -- 24
  refine ow_val (val_move rfl) rfl ?_   -- 25
  refine ow_call_pure (v := .tuple #[.agg ((lg k (seg l1 x y)).map vU8).toArray, vInt ((0 : Nat) : Int)]) (callsTo Tryd.func19 rfl (by kernel_rfl) rfl) rfl (fun w hm => (by have h := range_any k h1 h2 b1 l1 (by assumption) (by assumption) (UInt64.ofNat x) (UInt64.ofNat y) w (hK.mem0 hm) (ht1.mem hm) (by omega); rw [rngO_nat k (by omega) (by omega) (by omega)] at h; exact h)) ?_   -- 26
  refine ow_val (val_move rfl) rfl ?_   -- 22
  refine ow_val (val_extract rfl rfl) rfl ?_   -- 27
  refine ow_val (val_extract rfl rfl) rfl ?_   -- 28
  refine ow_new (acts_alloc zD) rfl (fun b9 hb9 => ?_)   -- 9
  refine ow_do_eq (does_store_all 0 rfl rfl rfl (one_u8s _) Tryd.sizeOf43 (by show (List.map vU8 (lg k (seg l1 x y))).length = _; rw [List.length_map]; exact (lg_len h2 _ rfl (seg_all (by assumption)))) (by show (List.map vU8 zeros32).length = _; rw [List.length_map]; exact zeros32_len)) ?_
  refine ow_val (val_assign rfl) rfl ?_   -- 10
  refine ow_nil (into ?_)
  refine sw_seq ?_
  refine sw_region ?_
  refine ow_val (val_move rfl) rfl ?_   -- 30
  refine ow_val (val_move rfl) rfl ?_   -- 31
  refine ow_val (val_move rfl) rfl ?_   -- 32
  refine ow_call_pure (v := .tuple #[.agg ((lg k (seg l2 x y)).map vU8).toArray, vInt ((0 : Nat) : Int)]) (callsTo Tryd.func19 rfl (by kernel_rfl) rfl) rfl (fun w hm => (by have h := range_any k h1 h2 b2 l2 (by assumption) (by assumption) (UInt64.ofNat x) (UInt64.ofNat y) w (hK.mem0 hm) (ht2.mem hm) (by omega); rw [rngO_nat k (by omega) (by omega) (by omega)] at h; exact h)) ?_   -- 33
  refine ow_val (val_move rfl) rfl ?_   -- 29
  refine ow_val (val_extract rfl rfl) rfl ?_   -- 34
  refine ow_val (val_extract rfl rfl) rfl ?_   -- 35
  refine ow_new (acts_alloc zD) rfl (fun b11 hb11 => ?_)   -- 11
  refine ow_do_eq (does_store_all 0 rfl rfl rfl (one_u8s _) Tryd.sizeOf43 (by show (List.map vU8 (lg k (seg l2 x y))).length = _; rw [List.length_map]; exact (lg_len h2 _ rfl (seg_all (by assumption)))) (by show (List.map vU8 zeros32).length = _; rw [List.length_map]; exact zeros32_len)) ?_
  refine ow_val (val_assign rfl) rfl ?_   -- 12
  refine ow_nil (into ?_)
  refine sw_seq ?_
  refine sw_seq ?_
  refine sw_region ?_
  refine ow_val (val_move rfl) rfl ?_   -- 36
  refine ow_val ((val_neq_int rfl rfl).to (v' := .bool false) (congrArg Value.bool (decide_eq_false (fun h => h (by simp))))) rfl ?_   -- 37
  refine ow_val (val_move rfl) rfl ?_   -- 38
  refine ow_guard_yes rfl rfl rfl ?_
  refine ow_val (val_move rfl) rfl ?_   -- 39
  refine ow_guard_yes rfl rfl rfl ?_
  refine ow_val ((val_neq_int rfl rfl).to (v' := .bool false) (congrArg Value.bool (decide_eq_false (fun h => h (by simp))))) rfl ?_   -- 40
  refine ow_val (val_pick_false rfl rfl) rfl ?_   -- 41
  refine ow_val (val_move rfl) rfl ?_   -- 42
  refine ow_guard_yes rfl rfl rfl ?_
  refine ow_val (val_load_all 1 rfl rfl Tryd.isAgg43 Tryd.sizeOf43 (by show (List.map vU8 (lg k (seg l1 x y))).length = _; rw [List.length_map]; exact (lg_len h2 _ rfl (seg_all (by assumption))))) rfl ?_   -- 43
  refine ow_guard_yes rfl rfl rfl ?_
  refine ow_val (val_load_all 0 rfl rfl Tryd.isAgg43 Tryd.sizeOf43 (by show (List.map vU8 (lg k (seg l2 x y))).length = _; rw [List.length_map]; exact (lg_len h2 _ rfl (seg_all (by assumption))))) rfl ?_   -- 44
  refine ow_guard_yes rfl rfl rfl ?_
  refine ow_val ((val_neq_u8s rfl rfl Tryd.eqGuardType43 Tryd.underlying43 Tryd.underlying5 Tryd.sizeOf5 Tryd.isAgg5 (lg_len h2 _ rfl (seg_all (by assumption))) (lg_len h2 _ rfl (seg_all (by assumption)))).to (congrArg Value.bool (show (!_) = false by rw [decide_eq_true hlq]; rfl))) rfl ?_   -- 45
  refine ow_val (val_pick_false rfl rfl) rfl ?_   -- 46
  refine ow_val (val_move rfl) rfl ?_   -- 47
  refine ow_guard_yes rfl rfl rfl ?_
  refine ow_val (val_move rfl) rfl ?_   -- 48
  refine ow_guard_yes rfl rfl rfl ?_
  refine ow_val (val_move rfl) rfl ?_   -- 49
  refine ow_guard_yes rfl rfl rfl ?_
  refine ow_val ((val_sub_u64 rfl rfl).to (congrArg vU64 (at_sub0 (by omega) (by omega)))) rfl ?_   -- 50
  refine ow_guard_yes rfl rfl rfl ?_
  refine ow_val ((val_lss_u64 rfl rfl).to (congrArg Value.bool (decide_eq_false ((mt (at_lt (b := 2) (by omega) (by omega)).1 (by omega)))))) rfl ?_   -- 51
  refine ow_val (val_pick_false rfl rfl) rfl ?_   -- 52
  refine ow_nil (into ?_)
  refine sw_false rfl rfl ?_
  refine sw_skip (into ?_)
  refine sw_seq ?_
  refine sw_region ?_
  refine ow_val (val_assign rfl) rfl ?_   -- 13
  refine ow_nil (into ?_)
  refine sw_seq ?_
  refine sw_block ?_
  refine sw_loop (σ := UInt64) (fun v => (∃ j, v.toNat = 2 ^ j) ∧ v.toNat < y - x) (fun v => [(13, vU64 v), (3, vU64 (UInt64.ofNat y)), (2, vU64 (UInt64.ofNat x)), (0, vPtr b1), (1, vPtr b2), (20, vInt (r : Int))]) (fun _ => Mem w [] []) (fun v => y - x - v.toNat) (UInt64.ofNat (Int.toNat 1)) ⟨⟨0, rfl⟩, (show 1 < y - x by omega)⟩ ⟨rfl, rfl, rfl, rfl, rfl, rfl, trivial⟩ (fun w hm => hm.forgetAll) ?_
  rintro v ⟨⟨j, hj⟩, hv⟩
  have hvp : 1 ≤ v.toNat := by rw [hj]; exact Nat.one_le_two_pow
  refine sw_seq ?_
  refine sw_seq ?_
  refine sw_region ?_
  refine ow_val (val_move rfl) rfl ?_   -- 53
  refine ow_val (val_mul_u64 rfl rfl) rfl ?_   -- 54
  refine ow_val (val_move rfl) rfl ?_   -- 55
  refine ow_val (val_move rfl) rfl ?_   -- 56
  refine ow_val ((val_sub_u64 rfl rfl).to (congrArg vU64 (at_sub0 (by omega) (by omega)))) rfl ?_   -- 57
  refine ow_val (val_lss_u64 rfl rfl) rfl ?_   -- 58
  refine ow_nil (into ?_)
  refine sw_if rfl (fun h0 => ?_) (fun h0 => ?_)
  · -- then
    have hlt : 2 * v.toNat < y - x := (dbl_lt (by omega) hv).1 h0
    have hm2 : (v * UInt64.ofNat (Int.toNat 2)).toNat = v.toNat * 2 := by
      rw [UInt64.toNat_mul]; show v.toNat * 2 % 2 ^ 64 = _; omega
    refine sw_skip (into ?_)
    refine sw_block ?_
    refine sw_region ?_
    refine ow_val (val_move rfl) rfl ?_   -- 59
    refine ow_val (val_mul_u64 rfl rfl) rfl ?_   -- 60
    refine ow_val (val_assign rfl) rfl ?_   -- 13
    exact ow_nil (fun w hm => ⟨v * UInt64.ofNat (Int.toNat 2), ⟨⟨j + 1, by rw [hm2, hj, Nat.pow_succ]⟩, by rw [hm2]; omega⟩, by rw [hm2]; omega, ⟨rfl, rfl, rfl, rfl, rfl, rfl, trivial⟩, hm⟩)
  · -- else
    have hge : y - x ≤ 2 * v.toNat := Nat.le_of_not_lt fun h3 => h0 ((dbl_lt (by omega) hv).2 h3)
    obtain rfl := pw_eq hj hv hge
    obtain ⟨m, hm⟩ : ∃ m, splitN (y - x) = m := ⟨_, rfl⟩
    rw [hm]
    have hs1 := splitN_lt (n := y - x) (by omega)
    have hs2 := splitN_pos (y - x)
    rw [hm] at hs1 hs2 hm1 hm3
    refine sw_exit (into ?_)
    refine sw_seq ?_
    refine sw_region ?_
    refine ow_val (val_move rfl) rfl ?_   -- 62
    refine ow_val (val_move rfl) rfl ?_   -- 63
    refine ow_val (val_move rfl) rfl ?_   -- 64
    refine ow_val (val_move rfl) rfl ?_   -- 65
    refine ow_val ((val_add_u64 rfl rfl).to (congrArg vU64 (of_add (by omega)))) rfl ?_   -- 66
    refine ow_call_pure (v := .tuple #[.agg ((lg k (seg l1 x (x + m))).map vU8).toArray, vInt ((0 : Nat) : Int)]) (callsTo Tryd.func19 rfl (by kernel_rfl) rfl) rfl (fun w hm => (by have h := range_any k h1 h2 b1 l1 (by assumption) (by assumption) (UInt64.ofNat x) (UInt64.ofNat (x + m)) w (hK.mem0 hm) (ht1.mem hm) (by omega); rw [rngO_nat k (by omega) (by omega) (by omega)] at h; exact h)) ?_   -- 67
    refine ow_val (val_move rfl) rfl ?_   -- 61
    refine ow_val (val_extract rfl rfl) rfl ?_   -- 68
    refine ow_val (val_extract rfl rfl) rfl ?_   -- 69
    refine ow_new (acts_alloc zD) rfl (fun b14 hb14 => ?_)   -- 14
    refine ow_do_eq (does_store_all 0 rfl rfl rfl (one_u8s _) Tryd.sizeOf43 (by show (List.map vU8 (lg k (seg l1 x (x + m)))).length = _; rw [List.length_map]; exact (lg_len h2 _ rfl (seg_all (by assumption)))) (by show (List.map vU8 zeros32).length = _; rw [List.length_map]; exact zeros32_len)) ?_
    refine ow_val (val_assign rfl) rfl ?_   -- 10
    refine ow_nil (into ?_)
    refine sw_seq ?_
    refine sw_region ?_
    refine ow_val (val_move rfl) rfl ?_   -- 71
    refine ow_val (val_move rfl) rfl ?_   -- 72
    refine ow_val (val_move rfl) rfl ?_   -- 73
    refine ow_val (val_move rfl) rfl ?_   -- 74
    refine ow_val ((val_add_u64 rfl rfl).to (congrArg vU64 (of_add (by omega)))) rfl ?_   -- 75
    refine ow_call_pure (v := .tuple #[.agg ((lg k (seg l2 x (x + m))).map vU8).toArray, vInt ((0 : Nat) : Int)]) (callsTo Tryd.func19 rfl (by kernel_rfl) rfl) rfl (fun w hm => (by have h := range_any k h1 h2 b2 l2 (by assumption) (by assumption) (UInt64.ofNat x) (UInt64.ofNat (x + m)) w (hK.mem0 hm) (ht2.mem hm) (by omega); rw [rngO_nat k (by omega) (by omega) (by omega)] at h; exact h)) ?_   -- 76
    refine ow_val (val_move rfl) rfl ?_   -- 70
    refine ow_val (val_extract rfl rfl) rfl ?_   -- 77
    refine ow_val (val_extract rfl rfl) rfl ?_   -- 78
    refine ow_new (acts_alloc zD) rfl (fun b15 hb15 => ?_)   -- 15
    refine ow_do_eq (does_store_all 0 rfl rfl rfl (one_u8s _) Tryd.sizeOf43 (by show (List.map vU8 (lg k (seg l2 x (x + m)))).length = _; rw [List.length_map]; exact (lg_len h2 _ rfl (seg_all (by assumption)))) (by show (List.map vU8 zeros32).length = _; rw [List.length_map]; exact zeros32_len)) ?_
    refine ow_val (val_assign rfl) rfl ?_   -- 12
    refine ow_nil (into ?_)
    refine sw_seq ?_
    refine sw_region ?_
    refine ow_val (val_move rfl) rfl ?_   -- 80
    refine ow_val (val_move rfl) rfl ?_   -- 81
    refine ow_val (val_move rfl) rfl ?_   -- 82
    refine ow_val ((val_add_u64 rfl rfl).to (congrArg vU64 (of_add (by omega)))) rfl ?_   -- 83
    refine ow_val (val_move rfl) rfl ?_   -- 84
    refine ow_call_pure (v := .tuple #[.agg ((lg k (seg l1 (x + m) y)).map vU8).toArray, vInt ((0 : Nat) : Int)]) (callsTo Tryd.func19 rfl (by kernel_rfl) rfl) rfl (fun w hm => (by have h := range_any k h1 h2 b1 l1 (by assumption) (by assumption) (UInt64.ofNat (x + m)) (UInt64.ofNat y) w (hK.mem0 hm) (ht1.mem hm) (by omega); rw [rngO_nat k (by omega) (by omega) (by omega)] at h; exact h)) ?_   -- 85
    refine ow_val (val_move rfl) rfl ?_   -- 79
    refine ow_val (val_extract rfl rfl) rfl ?_   -- 86
    refine ow_val (val_extract rfl rfl) rfl ?_   -- 87
    refine ow_new (acts_alloc zD) rfl (fun b16 hb16 => ?_)   -- 16
    refine ow_do_eq (does_store_all 0 rfl rfl rfl (one_u8s _) Tryd.sizeOf43 (by show (List.map vU8 (lg k (seg l1 (x + m) y))).length = _; rw [List.length_map]; exact (lg_len h2 _ rfl (seg_all (by assumption)))) (by show (List.map vU8 zeros32).length = _; rw [List.length_map]; exact zeros32_len)) ?_
    refine ow_val (val_assign rfl) rfl ?_   -- 17
    refine ow_nil (into ?_)
    refine sw_seq ?_
    refine sw_region ?_
    refine ow_val (val_move rfl) rfl ?_   -- 89
    refine ow_val (val_move rfl) rfl ?_   -- 90
    refine ow_val (val_move rfl) rfl ?_   -- 91
    refine ow_val ((val_add_u64 rfl rfl).to (congrArg vU64 (of_add (by omega)))) rfl ?_   -- 92
    refine ow_val (val_move rfl) rfl ?_   -- 93
    refine ow_call_pure (v := .tuple #[.agg ((lg k (seg l2 (x + m) y)).map vU8).toArray, vInt ((0 : Nat) : Int)]) (callsTo Tryd.func19 rfl (by kernel_rfl) rfl) rfl (fun w hm => (by have h := range_any k h1 h2 b2 l2 (by assumption) (by assumption) (UInt64.ofNat (x + m)) (UInt64.ofNat y) w (hK.mem0 hm) (ht2.mem hm) (by omega); rw [rngO_nat k (by omega) (by omega) (by omega)] at h; exact h)) ?_   -- 94
    refine ow_val (val_move rfl) rfl ?_   -- 88
    refine ow_val (val_extract rfl rfl) rfl ?_   -- 95
    refine ow_val (val_extract rfl rfl) rfl ?_   -- 96
    refine ow_new (acts_alloc zD) rfl (fun b18 hb18 => ?_)   -- 18
    refine ow_do_eq (does_store_all 0 rfl rfl rfl (one_u8s _) Tryd.sizeOf43 (by show (List.map vU8 (lg k (seg l2 (x + m) y))).length = _; rw [List.length_map]; exact (lg_len h2 _ rfl (seg_all (by assumption)))) (by show (List.map vU8 zeros32).length = _; rw [List.length_map]; exact zeros32_len)) ?_
    refine ow_val (val_assign rfl) rfl ?_   -- 19
    refine ow_nil (into ?_)
    refine sw_seq ?_
    refine sw_seq ?_
    refine sw_region ?_
    refine ow_val (val_move rfl) rfl ?_   -- 97
    refine ow_val ((val_neq_int rfl rfl).to (v' := .bool false) (congrArg Value.bool (decide_eq_false (fun h => h (by simp))))) rfl ?_   -- 98
    refine ow_val (val_move rfl) rfl ?_   -- 99
    refine ow_guard_yes rfl rfl rfl ?_
    refine ow_val (val_move rfl) rfl ?_   -- 100
    refine ow_guard_yes rfl rfl rfl ?_
    refine ow_val ((val_neq_int rfl rfl).to (v' := .bool false) (congrArg Value.bool (decide_eq_false (fun h => h (by simp))))) rfl ?_   -- 101
    refine ow_val (val_pick_false rfl rfl) rfl ?_   -- 102
    refine ow_val (val_move rfl) rfl ?_   -- 103
    refine ow_guard_yes rfl rfl rfl ?_
    refine ow_val (val_move rfl) rfl ?_   -- 104
    refine ow_guard_yes rfl rfl rfl ?_
    refine ow_val ((val_neq_int rfl rfl).to (v' := .bool false) (congrArg Value.bool (decide_eq_false (fun h => h (by simp))))) rfl ?_   -- 105
    refine ow_val (val_pick_false rfl rfl) rfl ?_   -- 106
    refine ow_val (val_move rfl) rfl ?_   -- 107
    refine ow_guard_yes rfl rfl rfl ?_
    refine ow_val (val_move rfl) rfl ?_   -- 108
    refine ow_guard_yes rfl rfl rfl ?_
    refine ow_val ((val_neq_int rfl rfl).to (v' := .bool false) (congrArg Value.bool (decide_eq_false (fun h => h (by simp))))) rfl ?_   -- 109
    refine ow_val (val_pick_false rfl rfl) rfl ?_   -- 110
    refine ow_nil (into ?_)
    refine sw_false rfl rfl ?_
    refine sw_skip (into ?_)
    refine sw_block ?_
    refine sw_seq ?_
    refine sw_region ?_
    refine ow_val (val_load_all 3 rfl rfl Tryd.isAgg43 Tryd.sizeOf43 (by show (List.map vU8 (lg k (seg l1 x (x + m)))).length = _; rw [List.length_map]; exact (lg_len h2 _ rfl (seg_all (by assumption))))) rfl ?_   -- 115
    refine ow_val (val_load_all 2 rfl rfl Tryd.isAgg43 Tryd.sizeOf43 (by show (List.map vU8 (lg k (seg l2 x (x + m)))).length = _; rw [List.length_map]; exact (lg_len h2 _ rfl (seg_all (by assumption))))) rfl ?_   -- 116
    by_cases hp1 : lg k (seg l1 x (x + m)) ≠ lg k (seg l2 x (x + m))
    · -- yes
      refine ow_val ((val_neq_u8s rfl rfl Tryd.eqGuardType43 Tryd.underlying43 Tryd.underlying5 Tryd.sizeOf5 Tryd.isAgg5 (lg_len h2 _ rfl (seg_all (by assumption))) (lg_len h2 _ rfl (seg_all (by assumption)))).to (congrArg Value.bool (show (!_) = true by rw [decide_eq_false hp1]; rfl))) rfl ?_   -- 117
      refine ow_val (val_move rfl) rfl ?_   -- 118
      first | refine ow_guard_no rfl rfl rfl rfl rfl ?_ | refine ow_guard_none rfl rfl rfl rfl rfl ?_
      first | refine ow_guard_no rfl rfl rfl rfl rfl ?_ | refine ow_guard_none rfl rfl rfl rfl rfl ?_
      first | refine ow_guard_no rfl rfl rfl rfl rfl ?_ | refine ow_guard_none rfl rfl rfl rfl rfl ?_
      refine ow_val (val_pick_true rfl rfl) rfl ?_   -- 122
      refine ow_val (val_assign rfl) rfl ?_   -- 114
      refine ow_nil (into ?_)
      refine sw_true rfl rfl ?_
      refine sw_seq ?_
      refine sw_region ?_
      refine ow_val (val_assign rfl) rfl ?_   -- 8
      refine ow_nil (into ?_)
      refine sw_ret (fun w hm => ?_)
      try dsimp only [thenP, blockP, Nat.beq, cond]
      exact ret_one _ rfl rfl ⟨rfl, hm.forgetAll⟩
    · -- no
      refine ow_val ((val_neq_u8s rfl rfl Tryd.eqGuardType43 Tryd.underlying43 Tryd.underlying5 Tryd.sizeOf5 Tryd.isAgg5 (lg_len h2 _ rfl (seg_all (by assumption))) (lg_len h2 _ rfl (seg_all (by assumption)))).to (congrArg Value.bool (show (!_) = false by rw [decide_eq_true (Decidable.not_not.1 hp1)]; rfl))) rfl ?_   -- 117
      refine ow_val (val_move rfl) rfl ?_   -- 118
      refine ow_guard_yes rfl rfl rfl ?_
      refine ow_val (val_load_all 1 rfl rfl Tryd.isAgg43 Tryd.sizeOf43 (by show (List.map vU8 (lg k (seg l1 (x + m) y))).length = _; rw [List.length_map]; exact (lg_len h2 _ rfl (seg_all (by assumption))))) rfl ?_   -- 119
      refine ow_guard_yes rfl rfl rfl ?_
      refine ow_val (val_load_all 0 rfl rfl Tryd.isAgg43 Tryd.sizeOf43 (by show (List.map vU8 (lg k (seg l2 (x + m) y))).length = _; rw [List.length_map]; exact (lg_len h2 _ rfl (seg_all (by assumption))))) rfl ?_   -- 120
      by_cases hp2 : lg k (seg l1 (x + m) y) ≠ lg k (seg l2 (x + m) y)
      · -- yes
        refine ow_guard_yes rfl rfl rfl ?_
        refine ow_val ((val_neq_u8s rfl rfl Tryd.eqGuardType43 Tryd.underlying43 Tryd.underlying5 Tryd.sizeOf5 Tryd.isAgg5 (lg_len h2 _ rfl (seg_all (by assumption))) (lg_len h2 _ rfl (seg_all (by assumption)))).to (congrArg Value.bool (show (!_) = true by rw [decide_eq_false hp2]; rfl))) rfl ?_   -- 121
        refine ow_val (val_pick_false rfl rfl) rfl ?_   -- 122
        refine ow_val (val_assign rfl) rfl ?_   -- 114
        refine ow_nil (into ?_)
        refine sw_true rfl rfl ?_
        refine sw_seq ?_
        refine sw_region ?_
        refine ow_val (val_assign rfl) rfl ?_   -- 8
        refine ow_nil (into ?_)
        refine sw_ret (fun w hm => ?_)
        try dsimp only [thenP, blockP, Nat.beq, cond]
        exact ret_one _ rfl rfl ⟨rfl, hm.forgetAll⟩
      · -- no
        refine ow_guard_yes rfl rfl rfl ?_
        refine ow_val ((val_neq_u8s rfl rfl Tryd.eqGuardType43 Tryd.underlying43 Tryd.underlying5 Tryd.sizeOf5 Tryd.isAgg5 (lg_len h2 _ rfl (seg_all (by assumption))) (lg_len h2 _ rfl (seg_all (by assumption)))).to (congrArg Value.bool (show (!_) = false by rw [decide_eq_true (Decidable.not_not.1 hp2)]; rfl))) rfl ?_   -- 121
        refine ow_val (val_pick_false rfl rfl) rfl ?_   -- 122
        refine ow_val (val_assign rfl) rfl ?_   -- 114
        refine ow_nil (into ?_)
        refine sw_false rfl rfl ?_
        refine sw_seq ?_
        refine sw_region ?_
        refine ow_val (val_move rfl) rfl ?_   -- 124
        refine ow_val (val_move rfl) rfl ?_   -- 125
        refine ow_val (val_move rfl) rfl ?_   -- 126
        refine ow_val (val_move rfl) rfl ?_   -- 127
        refine ow_val (val_move rfl) rfl ?_   -- 128
        refine ow_val ((val_add_u64 rfl rfl).to (congrArg vU64 (of_add (by omega)))) rfl ?_   -- 129
        refine ow_call_pure (callsTo Tryd.func32 rfl (by kernel_rfl) rfl) rfl (fun w hm => apart_any k h1 h2 w (hK.mem0 hm) b1 l1 (ht1.mem hm) (by assumption) (by assumption) b2 l2 (ht2.mem hm) (by assumption) (by assumption) x (x + m) (by omega) (by omega) (by omega) (by omega) (by omega)) ?_   -- 130
        refine ow_val (val_assign rfl) rfl ?_   -- 123
        refine ow_nil (into ?_)
        refine sw_if rfl (fun hap => ?_) (fun hap => ?_)
        · -- then
          refine sw_region ?_
          refine ow_val (val_move rfl) rfl ?_   -- 131
          refine ow_val (val_move rfl) rfl ?_   -- 132
          refine ow_val ((val_add_u64 rfl rfl).to (congrArg vU64 (of_add (by omega)))) rfl ?_   -- 133
          refine ow_val (val_assign rfl) rfl ?_   -- 3
          refine ow_nil (into ?_)
          refine sw_region ?_
          refine ow_val (val_add_int ((r + 1 : Nat) : Int) rfl rfl (by omega) (by omega)) rfl ?_   -- 134
          refine ow_val (val_move rfl) rfl ?_   -- 20
          exact ow_nil (fun w hm => ⟨(r + 1, x, x + m), ⟨by dsimp only; omega, by dsimp only; omega, by dsimp only; omega, by dsimp only; omega, hap, (Decidable.not_not.1 hp1), (show x + m - x ≤ 2 ^ (69 - (r + 1)) by omega)⟩, by dsimp only; omega, ⟨rfl, rfl, rfl, rfl, rfl, trivial⟩, hm.forgetAll⟩)
        · -- else
          refine sw_region ?_
          refine ow_val (val_move rfl) rfl ?_   -- 111
          refine ow_val (val_move rfl) rfl ?_   -- 112
          refine ow_val ((val_add_u64 rfl rfl).to (congrArg vU64 (of_add (by omega)))) rfl ?_   -- 113
          refine ow_val (val_assign rfl) rfl ?_   -- 2
          refine ow_nil (into ?_)
          refine sw_region ?_
          refine ow_val (val_add_int ((r + 1 : Nat) : Int) rfl rfl (by omega) (by omega)) rfl ?_   -- 134
          refine ow_val (val_move rfl) rfl ?_   -- 20
          exact ow_nil (fun w hm => ⟨(r + 1, x + m, y), ⟨by dsimp only; omega, by dsimp only; omega, by dsimp only; omega, by dsimp only; omega, (seg_right (lo := x) (m := x + m) (hi := y) (by omega) (by omega) (Decidable.not_not.1 hap) hsn), (Decidable.not_not.1 hp2), (show y - (x + m) ≤ 2 ^ (69 - (r + 1)) by omega)⟩, by dsimp only; omega, ⟨rfl, rfl, rfl, rfl, rfl, trivial⟩, hm.forgetAll⟩)

theorem binds_nn (v0 : Int) (w : World) (hK : KW w) (a : Option Addr) (c : Nat) (l : List (List UInt8)) (hdl : ∀ d ∈ l, d.length = 32) (hr : Rd w a (l.flatMap fun d => d.map vU8)) (hc : l.length ≤ c) (hl : l.length < 9223372036854775808) (a2 : Option Addr) (c2 : Nat) (q : List (List UInt8)) (hdq : ∀ d ∈ q, d.length = 32) (hrq : Rd w a2 (q.flatMap fun d => d.map vU8)) (hcq : q.length ≤ c2) (hlq : q.length < 9223372036854775808) (n : Nat) (hn : min l.length q.length = n) (l1 l2 : List (List UInt8)) (hl1 : l.take n = l1) (hl2 : q.take n = l2) (ha : ¬ (l1.length ≤ 400 ∧ fitO v0 l1 = true)) (hb : ¬ (l2.length ≤ 400 ∧ fitO v0 l2 = true)) : Calls Tryd.prog 10 #[vInt v0, .slice a l.length c, .slice a2 q.length c2] w fun e w' => ∃ v, e = .returned v ∧ v = .bool true ∧ Mem w [] [] w' := by
  have hnl : n ≤ l.length := by omega
  have hnq : n ≤ q.length := by omega
  have hd1 : ∀ d ∈ l.take n, d.length = 32 := fun d hd => hdl d (List.mem_of_mem_take hd)
  have hd2 : ∀ d ∈ q.take n, d.length = 32 := fun d hd => hdq d (List.mem_of_mem_take hd)
  have hr1 := rdTakeD hr n
  have hr2 := rdTakeD hrq n
  have hn1 : (l.take n).length = n := by rw [List.length_take]; omega
  have hn2 : (q.take n).length = n := by rw [List.length_take]; omega
  rw [hl1] at hd1 hr1 hn1
  rw [hl2] at hd2 hr2 hn2
  refine calls_of_sw (vs := [vInt v0, .slice a l.length c, .slice a2 q.length c2]) Tryd.func10 rfl Tryd.ntmps10 rfl (SW.begin ?_)
  refine sw_seq ?_
  refine sw_region ?_
  refine ow_val (val_assign rfl) rfl ?_   -- 6
  refine ow_nil (into ?_)
  refine sw_seq ?_
  refine sw_seq ?_
  refine sw_region ?_
  refine ow_call_pure (v := .bool true) (callsTo Tryd.func12 rfl (by kernel_rfl) rfl) rfl (fun w hm => awake_any w (hK.mem0 hm)) ?_   -- 14
  refine ow_val (val_not rfl) rfl ?_   -- 15
  refine ow_nil (into ?_)
  refine sw_false rfl rfl ?_
  refine sw_skip (into ?_)
  refine sw_seq ?_
  refine sw_region ?_
  refine ow_val (val_move rfl) rfl ?_   -- 16
  refine ow_val (val_len rfl Tryd.underlying32) rfl ?_   -- 17
  refine ow_val (val_move rfl) rfl ?_   -- 18
  refine ow_val (val_len rfl Tryd.underlying32) rfl ?_   -- 19
  refine ow_val ((val_min rfl rfl).to (v' := vInt (n : Int)) (by congr 1; omega)) rfl ?_   -- 20
  refine ow_val (val_assign rfl) rfl ?_   -- 7
  refine ow_nil (into ?_)
  refine sw_seq ?_
  refine sw_region ?_
  refine ow_val (val_move rfl) rfl ?_   -- 22
  refine ow_val (val_move rfl) rfl ?_   -- 23
  refine ow_val (val_move rfl) rfl ?_   -- 24
  refine ow_val (val_slice_hi n rfl rfl Tryd.underlying32 Tryd.sizeOf43 rfl (by omega)) rfl ?_   -- 25
  refine ow_call_pure (v := .tuple #[.pointer none, .bool false]) (callsTo Tryd.func18 rfl (by kernel_rfl) rfl) rfl (fun w hm => grown_none v0 6 w a n c l1 hn1 hd1 (hr1.mem hm) (by omega) (by omega) ha) ?_   -- 26
  refine ow_val (val_move rfl) rfl ?_   -- 21
  refine ow_val (val_extract rfl rfl) rfl ?_   -- 27
  refine ow_val (val_extract rfl rfl) rfl ?_   -- 28
  refine ow_val (val_assign rfl) rfl ?_   -- 8
  refine ow_val (val_assign rfl) rfl ?_   -- 9
  refine ow_nil (into ?_)
  refine sw_seq ?_
  refine sw_region ?_
  refine ow_val (val_move rfl) rfl ?_   -- 30
  refine ow_val (val_move rfl) rfl ?_   -- 31
  refine ow_val (val_move rfl) rfl ?_   -- 32
  refine ow_val (val_slice_hi n rfl rfl Tryd.underlying32 Tryd.sizeOf43 rfl (by omega)) rfl ?_   -- 33
  refine ow_call_pure (v := .tuple #[.pointer none, .bool false]) (callsTo Tryd.func18 rfl (by kernel_rfl) rfl) rfl (fun w hm => grown_none v0 1 w a2 n c2 l2 hn2 hd2 (hr2.mem hm) (by omega) (by omega) hb) ?_   -- 34
  refine ow_val (val_move rfl) rfl ?_   -- 29
  refine ow_val (val_extract rfl rfl) rfl ?_   -- 35
  refine ow_val (val_extract rfl rfl) rfl ?_   -- 36
  refine ow_val (val_assign rfl) rfl ?_   -- 10
  refine ow_val (val_assign rfl) rfl ?_   -- 11
  refine ow_nil (into ?_)
  refine sw_seq ?_
  refine sw_seq ?_
  refine sw_region ?_
  refine ow_val (val_move rfl) rfl ?_   -- 37
  refine ow_val (val_not rfl) rfl ?_   -- 38
  refine ow_val (val_move rfl) rfl ?_   -- 39
  first | refine ow_guard_no rfl rfl rfl rfl rfl ?_ | refine ow_guard_none rfl rfl rfl rfl rfl ?_
  first | refine ow_guard_no rfl rfl rfl rfl rfl ?_ | refine ow_guard_none rfl rfl rfl rfl rfl ?_
  refine ow_val (val_pick_true rfl rfl) rfl ?_   -- 42
  refine ow_nil (into ?_)
  refine sw_true rfl rfl ?_
  refine sw_seq ?_
  refine sw_region ?_
  refine ow_val (val_assign rfl) rfl ?_   -- 6
  refine ow_nil (into ?_)
  refine sw_ret (fun w hm => ?_)
  try dsimp only [thenP, blockP, Nat.beq, cond]
  exact ret_one _ rfl rfl ⟨rfl, hm.forgetAll⟩

theorem binds_ng (k : Nat) (h1 : 1 ≤ k) (h2 : k ≤ 32) (w : World) (hK : KW w) (a : Option Addr) (c : Nat) (l : List (List UInt8)) (hdl : ∀ d ∈ l, d.length = 32) (hr : Rd w a (l.flatMap fun d => d.map vU8)) (hc : l.length ≤ c) (hl : l.length < 9223372036854775808) (a2 : Option Addr) (c2 : Nat) (q : List (List UInt8)) (hdq : ∀ d ∈ q, d.length = 32) (hrq : Rd w a2 (q.flatMap fun d => d.map vU8)) (hcq : q.length ≤ c2) (hlq : q.length < 9223372036854775808) (n : Nat) (hn : min l.length q.length = n) (l1 l2 : List (List UInt8)) (hl1 : l.take n = l1) (hl2 : q.take n = l2) (ha : ¬ (l1.length ≤ 400 ∧ fitO (k : Int) l1 = true)) (hf2 : ∀ d ∈ l2, fm (k : Int) d = true) (h4 : l2.length ≤ 400) : Calls Tryd.prog 10 #[vInt (k : Int), .slice a l.length c, .slice a2 q.length c2] w fun e w' => ∃ v, e = .returned v ∧ v = .bool true ∧ Mem w [] [] w' := by
  have hnl : n ≤ l.length := by omega
  have hnq : n ≤ q.length := by omega
  have hd1 : ∀ d ∈ l.take n, d.length = 32 := fun d hd => hdl d (List.mem_of_mem_take hd)
  have hd2 : ∀ d ∈ q.take n, d.length = 32 := fun d hd => hdq d (List.mem_of_mem_take hd)
  have hr1 := rdTakeD hr n
  have hr2 := rdTakeD hrq n
  have hn1 : (l.take n).length = n := by rw [List.length_take]; omega
  have hn2 : (q.take n).length = n := by rw [List.length_take]; omega
  rw [hl1] at hd1 hr1 hn1
  rw [hl2] at hd2 hr2 hn2
  refine calls_of_sw (vs := [vInt (k : Int), .slice a l.length c, .slice a2 q.length c2]) Tryd.func10 rfl Tryd.ntmps10 rfl (SW.begin ?_)
  refine sw_seq ?_
  refine sw_region ?_
  refine ow_val (val_assign rfl) rfl ?_   -- 6
  refine ow_nil (into ?_)
  refine sw_seq ?_
  refine sw_seq ?_
  refine sw_region ?_
  refine ow_call_pure (v := .bool true) (callsTo Tryd.func12 rfl (by kernel_rfl) rfl) rfl (fun w hm => awake_any w (hK.mem0 hm)) ?_   -- 14
  refine ow_val (val_not rfl) rfl ?_   -- 15
  refine ow_nil (into ?_)
  refine sw_false rfl rfl ?_
  refine sw_skip (into ?_)
  refine sw_seq ?_
  refine sw_region ?_
  refine ow_val (val_move rfl) rfl ?_   -- 16
  refine ow_val (val_len rfl Tryd.underlying32) rfl ?_   -- 17
  refine ow_val (val_move rfl) rfl ?_   -- 18
  refine ow_val (val_len rfl Tryd.underlying32) rfl ?_   -- 19
  refine ow_val ((val_min rfl rfl).to (v' := vInt (n : Int)) (by congr 1; omega)) rfl ?_   -- 20
  refine ow_val (val_assign rfl) rfl ?_   -- 7
  refine ow_nil (into ?_)
  refine sw_seq ?_
  refine sw_region ?_
  refine ow_val (val_move rfl) rfl ?_   -- 22
  refine ow_val (val_move rfl) rfl ?_   -- 23
  refine ow_val (val_move rfl) rfl ?_   -- 24
  refine ow_val (val_slice_hi n rfl rfl Tryd.underlying32 Tryd.sizeOf43 rfl (by omega)) rfl ?_   -- 25
  refine ow_call_pure (v := .tuple #[.pointer none, .bool false]) (callsTo Tryd.func18 rfl (by kernel_rfl) rfl) rfl (fun w hm => grown_none (k : Int) 6 w a n c l1 hn1 hd1 (hr1.mem hm) (by omega) (by omega) ha) ?_   -- 26
  refine ow_val (val_move rfl) rfl ?_   -- 21
  refine ow_val (val_extract rfl rfl) rfl ?_   -- 27
  refine ow_val (val_extract rfl rfl) rfl ?_   -- 28
  refine ow_val (val_assign rfl) rfl ?_   -- 8
  refine ow_val (val_assign rfl) rfl ?_   -- 9
  refine ow_nil (into ?_)
  refine sw_seq ?_
  refine sw_region ?_
  refine ow_val (val_move rfl) rfl ?_   -- 30
  refine ow_val (val_move rfl) rfl ?_   -- 31
  refine ow_val (val_move rfl) rfl ?_   -- 32
  refine ow_val (val_slice_hi n rfl rfl Tryd.underlying32 Tryd.sizeOf43 rfl (by omega)) rfl ?_   -- 33
  refine ow_call_tail (σ := Nat × List Ent) (fun q9 => .tuple #[vPtr q9.1, .bool true]) (fun q9 => q9.2) (fun q9 => TrOn 95 75 k q9.2 q9.1 l2) (callsTo Tryd.func18 rfl (by kernel_rfl) rfl) rfl (fun w hm => grown_any k h1 h2 1 (by omega) (by omega) w (hK.mem0 hm) a2 n c2 l2 hn2 hd2 (hr2.mem hm) (by omega) (by omega) (by omega) hf2) ?_   -- 34
  rintro ⟨b34, es34⟩ htr34
  simp only at htr34 ⊢
  refine ow_val (val_move rfl) rfl ?_   -- 29
  refine ow_val (val_extract rfl rfl) rfl ?_   -- 35
  refine ow_val (val_extract rfl rfl) rfl ?_   -- 36
  refine ow_val (val_assign rfl) rfl ?_   -- 10
  refine ow_val (val_assign rfl) rfl ?_   -- 11
  refine ow_nil (into ?_)
  refine sw_seq ?_
  refine sw_seq ?_
  refine sw_region ?_
  refine ow_val (val_move rfl) rfl ?_   -- 37
  refine ow_val (val_not rfl) rfl ?_   -- 38
  refine ow_val (val_move rfl) rfl ?_   -- 39
  first | refine ow_guard_no rfl rfl rfl rfl rfl ?_ | refine ow_guard_none rfl rfl rfl rfl rfl ?_
  first | refine ow_guard_no rfl rfl rfl rfl rfl ?_ | refine ow_guard_none rfl rfl rfl rfl rfl ?_
  refine ow_val (val_pick_true rfl rfl) rfl ?_   -- 42
  refine ow_nil (into ?_)
  refine sw_true rfl rfl ?_
  refine sw_seq ?_
  refine sw_region ?_
  refine ow_val (val_assign rfl) rfl ?_   -- 6
  refine ow_nil (into ?_)
  refine sw_ret (fun w hm => ?_)
  try dsimp only [thenP, blockP, Nat.beq, cond]
  exact ret_one _ rfl rfl ⟨rfl, hm.forgetAll⟩

theorem binds_gn (k : Nat) (h1 : 1 ≤ k) (h2 : k ≤ 32) (w : World) (hK : KW w) (a : Option Addr) (c : Nat) (l : List (List UInt8)) (hdl : ∀ d ∈ l, d.length = 32) (hr : Rd w a (l.flatMap fun d => d.map vU8)) (hc : l.length ≤ c) (hl : l.length < 9223372036854775808) (a2 : Option Addr) (c2 : Nat) (q : List (List UInt8)) (hdq : ∀ d ∈ q, d.length = 32) (hrq : Rd w a2 (q.flatMap fun d => d.map vU8)) (hcq : q.length ≤ c2) (hlq : q.length < 9223372036854775808) (n : Nat) (hn : min l.length q.length = n) (l1 l2 : List (List UInt8)) (hl1 : l.take n = l1) (hl2 : q.take n = l2) (hb : ¬ (l2.length ≤ 400 ∧ fitO (k : Int) l2 = true)) (hf1 : ∀ d ∈ l1, fm (k : Int) d = true) (h4 : l1.length ≤ 400) : Calls Tryd.prog 10 #[vInt (k : Int), .slice a l.length c, .slice a2 q.length c2] w fun e w' => ∃ v, e = .returned v ∧ v = .bool true ∧ Mem w [] [] w' := by
  have hnl : n ≤ l.length := by omega
  have hnq : n ≤ q.length := by omega
  have hd1 : ∀ d ∈ l.take n, d.length = 32 := fun d hd => hdl d (List.mem_of_mem_take hd)
  have hd2 : ∀ d ∈ q.take n, d.length = 32 := fun d hd => hdq d (List.mem_of_mem_take hd)
  have hr1 := rdTakeD hr n
  have hr2 := rdTakeD hrq n
  have hn1 : (l.take n).length = n := by rw [List.length_take]; omega
  have hn2 : (q.take n).length = n := by rw [List.length_take]; omega
  rw [hl1] at hd1 hr1 hn1
  rw [hl2] at hd2 hr2 hn2
  refine calls_of_sw (vs := [vInt (k : Int), .slice a l.length c, .slice a2 q.length c2]) Tryd.func10 rfl Tryd.ntmps10 rfl (SW.begin ?_)
  refine sw_seq ?_
  refine sw_region ?_
  refine ow_val (val_assign rfl) rfl ?_   -- 6
  refine ow_nil (into ?_)
  refine sw_seq ?_
  refine sw_seq ?_
  refine sw_region ?_
  refine ow_call_pure (v := .bool true) (callsTo Tryd.func12 rfl (by kernel_rfl) rfl) rfl (fun w hm => awake_any w (hK.mem0 hm)) ?_   -- 14
  refine ow_val (val_not rfl) rfl ?_   -- 15
  refine ow_nil (into ?_)
  refine sw_false rfl rfl ?_
  refine sw_skip (into ?_)
  refine sw_seq ?_
  refine sw_region ?_
  refine ow_val (val_move rfl) rfl ?_   -- 16
  refine ow_val (val_len rfl Tryd.underlying32) rfl ?_   -- 17
  refine ow_val (val_move rfl) rfl ?_   -- 18
  refine ow_val (val_len rfl Tryd.underlying32) rfl ?_   -- 19
  refine ow_val ((val_min rfl rfl).to (v' := vInt (n : Int)) (by congr 1; omega)) rfl ?_   -- 20
  refine ow_val (val_assign rfl) rfl ?_   -- 7
  refine ow_nil (into ?_)
  refine sw_seq ?_
  refine sw_region ?_
  refine ow_val (val_move rfl) rfl ?_   -- 22
  refine ow_val (val_move rfl) rfl ?_   -- 23
  refine ow_val (val_move rfl) rfl ?_   -- 24
  refine ow_val (val_slice_hi n rfl rfl Tryd.underlying32 Tryd.sizeOf43 rfl (by omega)) rfl ?_   -- 25
  refine ow_call_tail (σ := Nat × List Ent) (fun q9 => .tuple #[vPtr q9.1, .bool true]) (fun q9 => q9.2) (fun q9 => TrOn 95 75 k q9.2 q9.1 l1) (callsTo Tryd.func18 rfl (by kernel_rfl) rfl) rfl (fun w hm => grown_any k h1 h2 6 (by omega) (by omega) w (hK.mem0 hm) a n c l1 hn1 hd1 (hr1.mem hm) (by omega) (by omega) (by omega) hf1) ?_   -- 26
  rintro ⟨b26, es26⟩ htr26
  simp only at htr26 ⊢
  refine ow_val (val_move rfl) rfl ?_   -- 21
  refine ow_val (val_extract rfl rfl) rfl ?_   -- 27
  refine ow_val (val_extract rfl rfl) rfl ?_   -- 28
  refine ow_val (val_assign rfl) rfl ?_   -- 8
  refine ow_val (val_assign rfl) rfl ?_   -- 9
  refine ow_nil (into ?_)
  refine sw_seq ?_
  refine sw_region ?_
  refine ow_val (val_move rfl) rfl ?_   -- 30
  refine ow_val (val_move rfl) rfl ?_   -- 31
  refine ow_val (val_move rfl) rfl ?_   -- 32
  refine ow_val (val_slice_hi n rfl rfl Tryd.underlying32 Tryd.sizeOf43 rfl (by omega)) rfl ?_   -- 33
  refine ow_call_pure (v := .tuple #[.pointer none, .bool false]) (callsTo Tryd.func18 rfl (by kernel_rfl) rfl) rfl (fun w hm => grown_none (k : Int) 1 w a2 n c2 l2 hn2 hd2 (hr2.mem hm) (by omega) (by omega) hb) ?_   -- 34
  refine ow_val (val_move rfl) rfl ?_   -- 29
  refine ow_val (val_extract rfl rfl) rfl ?_   -- 35
  refine ow_val (val_extract rfl rfl) rfl ?_   -- 36
  refine ow_val (val_assign rfl) rfl ?_   -- 10
  refine ow_val (val_assign rfl) rfl ?_   -- 11
  refine ow_nil (into ?_)
  refine sw_seq ?_
  refine sw_seq ?_
  refine sw_region ?_
  refine ow_val (val_move rfl) rfl ?_   -- 37
  refine ow_val (val_not rfl) rfl ?_   -- 38
  refine ow_val (val_move rfl) rfl ?_   -- 39
  refine ow_guard_yes rfl rfl rfl ?_
  refine ow_val (val_move rfl) rfl ?_   -- 40
  refine ow_guard_yes rfl rfl rfl ?_
  refine ow_val (val_not rfl) rfl ?_   -- 41
  refine ow_val (val_pick_false rfl rfl) rfl ?_   -- 42
  refine ow_nil (into ?_)
  refine sw_true rfl rfl ?_
  refine sw_seq ?_
  refine sw_region ?_
  refine ow_val (val_assign rfl) rfl ?_   -- 6
  refine ow_nil (into ?_)
  refine sw_ret (fun w hm => ?_)
  try dsimp only [thenP, blockP, Nat.beq, cond]
  exact ret_one _ rfl rfl ⟨rfl, hm.forgetAll⟩

theorem binds_e (k : Nat) (h1 : 1 ≤ k) (h2 : k ≤ 32) (w : World) (hK : KW w) (a : Option Addr) (c : Nat) (l : List (List UInt8)) (hdl : ∀ d ∈ l, d.length = 32) (hr : Rd w a (l.flatMap fun d => d.map vU8)) (hc : l.length ≤ c) (hl : l.length < 9223372036854775808) (a2 : Option Addr) (c2 : Nat) (q : List (List UInt8)) (hdq : ∀ d ∈ q, d.length = 32) (hrq : Rd w a2 (q.flatMap fun d => d.map vU8)) (hcq : q.length ≤ c2) (hlq : q.length < 9223372036854775808) (n : Nat) (hn : min l.length q.length = n) (l1 l2 : List (List UInt8)) (hl1 : l.take n = l1) (hl2 : q.take n = l2) (hf1 : ∀ d ∈ l1, fm (k : Int) d = true) (hf2 : ∀ d ∈ l2, fm (k : Int) d = true) (h4 : n ≤ 400) (hse : seg l1 0 n = seg l2 0 n) : Calls Tryd.prog 10 #[vInt (k : Int), .slice a l.length c, .slice a2 q.length c2] w fun e w' => ∃ v, e = .returned v ∧ v = .bool true ∧ Mem w [] [] w' := by
  have hnl : n ≤ l.length := by omega
  have hnq : n ≤ q.length := by omega
  have hd1 : ∀ d ∈ l.take n, d.length = 32 := fun d hd => hdl d (List.mem_of_mem_take hd)
  have hd2 : ∀ d ∈ q.take n, d.length = 32 := fun d hd => hdq d (List.mem_of_mem_take hd)
  have hr1 := rdTakeD hr n
  have hr2 := rdTakeD hrq n
  have hn1 : (l.take n).length = n := by rw [List.length_take]; omega
  have hn2 : (q.take n).length = n := by rw [List.length_take]; omega
  rw [hl1] at hd1 hr1 hn1
  rw [hl2] at hd2 hr2 hn2
  refine calls_of_sw (vs := [vInt (k : Int), .slice a l.length c, .slice a2 q.length c2]) Tryd.func10 rfl Tryd.ntmps10 rfl (SW.begin ?_)
  refine sw_seq ?_
  refine sw_region ?_
  refine ow_val (val_assign rfl) rfl ?_   -- 6
  refine ow_nil (into ?_)
  refine sw_seq ?_
  refine sw_seq ?_
  refine sw_region ?_
  refine ow_call_pure (v := .bool true) (callsTo Tryd.func12 rfl (by kernel_rfl) rfl) rfl (fun w hm => awake_any w (hK.mem0 hm)) ?_   -- 14
  refine ow_val (val_not rfl) rfl ?_   -- 15
  refine ow_nil (into ?_)
  refine sw_false rfl rfl ?_
  refine sw_skip (into ?_)
  refine sw_seq ?_
  refine sw_region ?_
  refine ow_val (val_move rfl) rfl ?_   -- 16
  refine ow_val (val_len rfl Tryd.underlying32) rfl ?_   -- 17
  refine ow_val (val_move rfl) rfl ?_   -- 18
  refine ow_val (val_len rfl Tryd.underlying32) rfl ?_   -- 19
  refine ow_val ((val_min rfl rfl).to (v' := vInt (n : Int)) (by congr 1; omega)) rfl ?_   -- 20
  refine ow_val (val_assign rfl) rfl ?_   -- 7
  refine ow_nil (into ?_)
  refine sw_seq ?_
  refine sw_region ?_
  refine ow_val (val_move rfl) rfl ?_   -- 22
  refine ow_val (val_move rfl) rfl ?_   -- 23
  refine ow_val (val_move rfl) rfl ?_   -- 24
  refine ow_val (val_slice_hi n rfl rfl Tryd.underlying32 Tryd.sizeOf43 rfl (by omega)) rfl ?_   -- 25
  refine ow_call_tail (σ := Nat × List Ent) (fun q9 => .tuple #[vPtr q9.1, .bool true]) (fun q9 => q9.2) (fun q9 => TrOn 95 75 k q9.2 q9.1 l1) (callsTo Tryd.func18 rfl (by kernel_rfl) rfl) rfl (fun w hm => grown_any k h1 h2 6 (by omega) (by omega) w (hK.mem0 hm) a n c l1 hn1 hd1 (hr1.mem hm) (by omega) (by omega) (by omega) hf1) ?_   -- 26
  rintro ⟨b26, es26⟩ htr26
  simp only at htr26 ⊢
  refine ow_val (val_move rfl) rfl ?_   -- 21
  refine ow_val (val_extract rfl rfl) rfl ?_   -- 27
  refine ow_val (val_extract rfl rfl) rfl ?_   -- 28
  refine ow_val (val_assign rfl) rfl ?_   -- 8
  refine ow_val (val_assign rfl) rfl ?_   -- 9
  refine ow_nil (into ?_)
  refine sw_seq ?_
  refine sw_region ?_
  refine ow_val (val_move rfl) rfl ?_   -- 30
  refine ow_val (val_move rfl) rfl ?_   -- 31
  refine ow_val (val_move rfl) rfl ?_   -- 32
  refine ow_val (val_slice_hi n rfl rfl Tryd.underlying32 Tryd.sizeOf43 rfl (by omega)) rfl ?_   -- 33
  refine ow_call_tail (σ := Nat × List Ent) (fun q9 => .tuple #[vPtr q9.1, .bool true]) (fun q9 => q9.2) (fun q9 => TrOn 95 75 k q9.2 q9.1 l2) (callsTo Tryd.func18 rfl (by kernel_rfl) rfl) rfl (fun w hm => grown_any k h1 h2 1 (by omega) (by omega) w (hK.mem0 hm) a2 n c2 l2 hn2 hd2 (hr2.mem hm) (by omega) (by omega) (by omega) hf2) ?_   -- 34
  rintro ⟨b34, es34⟩ htr34
  simp only at htr34 ⊢
  refine ow_val (val_move rfl) rfl ?_   -- 29
  refine ow_val (val_extract rfl rfl) rfl ?_   -- 35
  refine ow_val (val_extract rfl rfl) rfl ?_   -- 36
  refine ow_val (val_assign rfl) rfl ?_   -- 10
  refine ow_val (val_assign rfl) rfl ?_   -- 11
  refine ow_nil (into ?_)
  refine sw_seq ?_
  refine sw_seq ?_
  refine sw_region ?_
  refine ow_val (val_move rfl) rfl ?_   -- 37
  refine ow_val (val_not rfl) rfl ?_   -- 38
  refine ow_val (val_move rfl) rfl ?_   -- 39
  refine ow_guard_yes rfl rfl rfl ?_
  refine ow_val (val_move rfl) rfl ?_   -- 40
  refine ow_guard_yes rfl rfl rfl ?_
  refine ow_val (val_not rfl) rfl ?_   -- 41
  refine ow_val (val_pick_false rfl rfl) rfl ?_   -- 42
  refine ow_nil (into ?_)
  refine sw_false rfl rfl ?_
  refine sw_skip (into ?_)
  refine sw_seq ?_
  refine sw_region ?_
  refine ow_val (val_move rfl) rfl ?_   -- 44
  refine ow_val (val_move rfl) rfl ?_   -- 45
  refine ow_call_pure (v := .tuple #[.agg ((lg k (seg l1 0 n)).map vU8).toArray, .bool true]) (callsTo Tryd.func31 rfl (by kernel_rfl) rfl) rfl (fun w hm => rooted_any k h1 h2 w (hK.mem0 hm) b26 l1 ((htr26.left (T' := es34)).is (hm.heldSub (List.Sublist.refl _))) (by assumption) (by assumption) n (by omega) (by omega)) ?_   -- 46
  refine ow_val (val_move rfl) rfl ?_   -- 43
  refine ow_val (val_extract rfl rfl) rfl ?_   -- 47
  refine ow_val (val_extract rfl rfl) rfl ?_   -- 48
  refine ow_new (acts_alloc zD) rfl (fun b12 hb12 => ?_)   -- 12
  refine ow_do_eq (does_store_all 0 rfl rfl rfl (one_u8s _) Tryd.sizeOf43 (by show (List.map vU8 (lg k (seg l1 0 n))).length = _; rw [List.length_map]; exact (lg_len h2 _ rfl (seg_all (by assumption)))) (by show (List.map vU8 zeros32).length = _; rw [List.length_map]; exact zeros32_len)) ?_
  refine ow_val (val_assign rfl) rfl ?_   -- 9
  refine ow_nil (into ?_)
  refine sw_seq ?_
  refine sw_region ?_
  refine ow_val (val_move rfl) rfl ?_   -- 50
  refine ow_val (val_move rfl) rfl ?_   -- 51
  refine ow_call_pure (v := .tuple #[.agg ((lg k (seg l2 0 n)).map vU8).toArray, .bool true]) (callsTo Tryd.func31 rfl (by kernel_rfl) rfl) rfl (fun w hm => rooted_any k h1 h2 w (hK.mem0 hm) b34 l2 ((htr34.right (T' := es26)).is (hm.heldSub (.cons _ (List.Sublist.refl _)))) (by assumption) (by assumption) n (by omega) (by omega)) ?_   -- 52
  refine ow_val (val_move rfl) rfl ?_   -- 49
  refine ow_val (val_extract rfl rfl) rfl ?_   -- 53
  refine ow_val (val_extract rfl rfl) rfl ?_   -- 54
  refine ow_new (acts_alloc zD) rfl (fun b13 hb13 => ?_)   -- 13
  refine ow_do_eq (does_store_all 0 rfl rfl rfl (one_u8s _) Tryd.sizeOf43 (by show (List.map vU8 (lg k (seg l2 0 n))).length = _; rw [List.length_map]; exact (lg_len h2 _ rfl (seg_all (by assumption)))) (by show (List.map vU8 zeros32).length = _; rw [List.length_map]; exact zeros32_len)) ?_
  refine ow_val (val_assign rfl) rfl ?_   -- 11
  refine ow_nil (into ?_)
  refine sw_seq ?_
  refine sw_seq ?_
  refine sw_region ?_
  refine ow_val (val_move rfl) rfl ?_   -- 55
  refine ow_val (val_not rfl) rfl ?_   -- 56
  refine ow_val (val_move rfl) rfl ?_   -- 57
  refine ow_guard_yes rfl rfl rfl ?_
  refine ow_val (val_move rfl) rfl ?_   -- 58
  refine ow_guard_yes rfl rfl rfl ?_
  refine ow_val (val_not rfl) rfl ?_   -- 59
  refine ow_val (val_pick_false rfl rfl) rfl ?_   -- 60
  refine ow_nil (into ?_)
  refine sw_false rfl rfl ?_
  refine sw_skip (into ?_)
  refine sw_seq ?_
  refine sw_seq ?_
  refine sw_region ?_
  refine ow_val (val_move rfl) rfl ?_   -- 61
  refine ow_val (val_move rfl) rfl ?_   -- 62
  refine ow_val (val_move rfl) rfl ?_   -- 63
  refine ow_val (val_conv_n_u64 n Tryd.underlying3 Tryd.underlying46 rfl rfl) rfl ?_   -- 64
  refine ow_call_pure (v := .bool false) (callsTo Tryd.func32 rfl (by kernel_rfl) rfl) rfl (fun w hm => apart_is k h1 h2 w (hK.mem0 hm) b26 l1 ((htr26.left (T' := es34)).is (hm.heldSub (.cons _ (.cons _ (List.Sublist.refl _))))) (by assumption) (by assumption) b34 l2 ((htr34.right (T' := es26)).is (hm.heldSub (.cons _ (.cons _ (List.Sublist.refl _))))) (by assumption) (by assumption) 0 n (by omega) (by omega) (by omega) (by omega) (by omega) (decide_eq_false (fun h => h hse))) ?_   -- 65
  refine ow_val (val_not rfl) rfl ?_   -- 66
  refine ow_nil (into ?_)
  refine sw_true rfl rfl ?_
  refine sw_seq ?_
  refine sw_region ?_
  refine ow_val (val_load_all 1 rfl rfl Tryd.isAgg43 Tryd.sizeOf43 (by show (List.map vU8 (lg k (seg l1 0 n))).length = _; rw [List.length_map]; exact (lg_len h2 _ rfl (seg_all (by assumption))))) rfl ?_   -- 67
  refine ow_val (val_load_all 0 rfl rfl Tryd.isAgg43 Tryd.sizeOf43 (by show (List.map vU8 (lg k (seg l2 0 n))).length = _; rw [List.length_map]; exact (lg_len h2 _ rfl (seg_all (by assumption))))) rfl ?_   -- 68
  refine ow_val ((val_eql_u8s rfl rfl Tryd.eqGuardType43 Tryd.underlying43 Tryd.underlying5 Tryd.sizeOf5 Tryd.isAgg5 (lg_len h2 _ rfl (seg_all (by assumption))) (lg_len h2 _ rfl (seg_all (by assumption)))).to (congrArg Value.bool (decide_eq_true (by rw [hse])))) rfl ?_   -- 69
  refine ow_val (val_assign rfl) rfl ?_   -- 6
  refine ow_nil (into ?_)
  refine sw_ret (fun w hm => ?_)
  try dsimp only [thenP, blockP, Nat.beq, cond]
  exact ret_one _ rfl rfl ⟨rfl, hm.forgetAll⟩

theorem binds_x (k : Nat) (h1 : 1 ≤ k) (h2 : k ≤ 32) (w : World) (hK : KW w) (a : Option Addr) (c : Nat) (l : List (List UInt8)) (hdl : ∀ d ∈ l, d.length = 32) (hr : Rd w a (l.flatMap fun d => d.map vU8)) (hc : l.length ≤ c) (hl : l.length < 9223372036854775808) (a2 : Option Addr) (c2 : Nat) (q : List (List UInt8)) (hdq : ∀ d ∈ q, d.length = 32) (hrq : Rd w a2 (q.flatMap fun d => d.map vU8)) (hcq : q.length ≤ c2) (hlq : q.length < 9223372036854775808) (n : Nat) (hn : min l.length q.length = n) (l1 l2 : List (List UInt8)) (hl1 : l.take n = l1) (hl2 : q.take n = l2) (hf1 : ∀ d ∈ l1, fm (k : Int) d = true) (hf2 : ∀ d ∈ l2, fm (k : Int) d = true) (h4 : n ≤ 400) (hse : seg l1 0 n ≠ seg l2 0 n) : Calls Tryd.prog 10 #[vInt (k : Int), .slice a l.length c, .slice a2 q.length c2] w fun e w' => ∃ v, e = .returned v ∧ v = .bool true ∧ Mem w [] [] w' := by
  have hnl : n ≤ l.length := by omega
  have hnq : n ≤ q.length := by omega
  have hd1 : ∀ d ∈ l.take n, d.length = 32 := fun d hd => hdl d (List.mem_of_mem_take hd)
  have hd2 : ∀ d ∈ q.take n, d.length = 32 := fun d hd => hdq d (List.mem_of_mem_take hd)
  have hr1 := rdTakeD hr n
  have hr2 := rdTakeD hrq n
  have hn1 : (l.take n).length = n := by rw [List.length_take]; omega
  have hn2 : (q.take n).length = n := by rw [List.length_take]; omega
  rw [hl1] at hd1 hr1 hn1
  rw [hl2] at hd2 hr2 hn2
  refine calls_of_sw (vs := [vInt (k : Int), .slice a l.length c, .slice a2 q.length c2]) Tryd.func10 rfl Tryd.ntmps10 rfl (SW.begin ?_)
  refine sw_seq ?_
  refine sw_region ?_
  refine ow_val (val_assign rfl) rfl ?_   -- 6
  refine ow_nil (into ?_)
  refine sw_seq ?_
  refine sw_seq ?_
  refine sw_region ?_
  refine ow_call_pure (v := .bool true) (callsTo Tryd.func12 rfl (by kernel_rfl) rfl) rfl (fun w hm => awake_any w (hK.mem0 hm)) ?_   -- 14
  refine ow_val (val_not rfl) rfl ?_   -- 15
  refine ow_nil (into ?_)
  refine sw_false rfl rfl ?_
  refine sw_skip (into ?_)
  refine sw_seq ?_
  refine sw_region ?_
  refine ow_val (val_move rfl) rfl ?_   -- 16
  refine ow_val (val_len rfl Tryd.underlying32) rfl ?_   -- 17
  refine ow_val (val_move rfl) rfl ?_   -- 18
  refine ow_val (val_len rfl Tryd.underlying32) rfl ?_   -- 19
  refine ow_val ((val_min rfl rfl).to (v' := vInt (n : Int)) (by congr 1; omega)) rfl ?_   -- 20
  refine ow_val (val_assign rfl) rfl ?_   -- 7
  refine ow_nil (into ?_)
  refine sw_seq ?_
  refine sw_region ?_
  refine ow_val (val_move rfl) rfl ?_   -- 22
  refine ow_val (val_move rfl) rfl ?_   -- 23
  refine ow_val (val_move rfl) rfl ?_   -- 24
  refine ow_val (val_slice_hi n rfl rfl Tryd.underlying32 Tryd.sizeOf43 rfl (by omega)) rfl ?_   -- 25
  refine ow_call_tail (σ := Nat × List Ent) (fun q9 => .tuple #[vPtr q9.1, .bool true]) (fun q9 => q9.2) (fun q9 => TrOn 95 75 k q9.2 q9.1 l1) (callsTo Tryd.func18 rfl (by kernel_rfl) rfl) rfl (fun w hm => grown_any k h1 h2 6 (by omega) (by omega) w (hK.mem0 hm) a n c l1 hn1 hd1 (hr1.mem hm) (by omega) (by omega) (by omega) hf1) ?_   -- 26
  rintro ⟨b26, es26⟩ htr26
  simp only at htr26 ⊢
  refine ow_val (val_move rfl) rfl ?_   -- 21
  refine ow_val (val_extract rfl rfl) rfl ?_   -- 27
  refine ow_val (val_extract rfl rfl) rfl ?_   -- 28
  refine ow_val (val_assign rfl) rfl ?_   -- 8
  refine ow_val (val_assign rfl) rfl ?_   -- 9
  refine ow_nil (into ?_)
  refine sw_seq ?_
  refine sw_region ?_
  refine ow_val (val_move rfl) rfl ?_   -- 30
  refine ow_val (val_move rfl) rfl ?_   -- 31
  refine ow_val (val_move rfl) rfl ?_   -- 32
  refine ow_val (val_slice_hi n rfl rfl Tryd.underlying32 Tryd.sizeOf43 rfl (by omega)) rfl ?_   -- 33
  refine ow_call_tail (σ := Nat × List Ent) (fun q9 => .tuple #[vPtr q9.1, .bool true]) (fun q9 => q9.2) (fun q9 => TrOn 95 75 k q9.2 q9.1 l2) (callsTo Tryd.func18 rfl (by kernel_rfl) rfl) rfl (fun w hm => grown_any k h1 h2 1 (by omega) (by omega) w (hK.mem0 hm) a2 n c2 l2 hn2 hd2 (hr2.mem hm) (by omega) (by omega) (by omega) hf2) ?_   -- 34
  rintro ⟨b34, es34⟩ htr34
  simp only at htr34 ⊢
  refine ow_val (val_move rfl) rfl ?_   -- 29
  refine ow_val (val_extract rfl rfl) rfl ?_   -- 35
  refine ow_val (val_extract rfl rfl) rfl ?_   -- 36
  refine ow_val (val_assign rfl) rfl ?_   -- 10
  refine ow_val (val_assign rfl) rfl ?_   -- 11
  refine ow_nil (into ?_)
  refine sw_seq ?_
  refine sw_seq ?_
  refine sw_region ?_
  refine ow_val (val_move rfl) rfl ?_   -- 37
  refine ow_val (val_not rfl) rfl ?_   -- 38
  refine ow_val (val_move rfl) rfl ?_   -- 39
  refine ow_guard_yes rfl rfl rfl ?_
  refine ow_val (val_move rfl) rfl ?_   -- 40
  refine ow_guard_yes rfl rfl rfl ?_
  refine ow_val (val_not rfl) rfl ?_   -- 41
  refine ow_val (val_pick_false rfl rfl) rfl ?_   -- 42
  refine ow_nil (into ?_)
  refine sw_false rfl rfl ?_
  refine sw_skip (into ?_)
  refine sw_seq ?_
  refine sw_region ?_
  refine ow_val (val_move rfl) rfl ?_   -- 44
  refine ow_val (val_move rfl) rfl ?_   -- 45
  refine ow_call_pure (v := .tuple #[.agg ((lg k (seg l1 0 n)).map vU8).toArray, .bool true]) (callsTo Tryd.func31 rfl (by kernel_rfl) rfl) rfl (fun w hm => rooted_any k h1 h2 w (hK.mem0 hm) b26 l1 ((htr26.left (T' := es34)).is (hm.heldSub (List.Sublist.refl _))) (by assumption) (by assumption) n (by omega) (by omega)) ?_   -- 46
  refine ow_val (val_move rfl) rfl ?_   -- 43
  refine ow_val (val_extract rfl rfl) rfl ?_   -- 47
  refine ow_val (val_extract rfl rfl) rfl ?_   -- 48
  refine ow_new (acts_alloc zD) rfl (fun b12 hb12 => ?_)   -- 12
  refine ow_do_eq (does_store_all 0 rfl rfl rfl (one_u8s _) Tryd.sizeOf43 (by show (List.map vU8 (lg k (seg l1 0 n))).length = _; rw [List.length_map]; exact (lg_len h2 _ rfl (seg_all (by assumption)))) (by show (List.map vU8 zeros32).length = _; rw [List.length_map]; exact zeros32_len)) ?_
  refine ow_val (val_assign rfl) rfl ?_   -- 9
  refine ow_nil (into ?_)
  refine sw_seq ?_
  refine sw_region ?_
  refine ow_val (val_move rfl) rfl ?_   -- 50
  refine ow_val (val_move rfl) rfl ?_   -- 51
  refine ow_call_pure (v := .tuple #[.agg ((lg k (seg l2 0 n)).map vU8).toArray, .bool true]) (callsTo Tryd.func31 rfl (by kernel_rfl) rfl) rfl (fun w hm => rooted_any k h1 h2 w (hK.mem0 hm) b34 l2 ((htr34.right (T' := es26)).is (hm.heldSub (.cons _ (List.Sublist.refl _)))) (by assumption) (by assumption) n (by omega) (by omega)) ?_   -- 52
  refine ow_val (val_move rfl) rfl ?_   -- 49
  refine ow_val (val_extract rfl rfl) rfl ?_   -- 53
  refine ow_val (val_extract rfl rfl) rfl ?_   -- 54
  refine ow_new (acts_alloc zD) rfl (fun b13 hb13 => ?_)   -- 13
  refine ow_do_eq (does_store_all 0 rfl rfl rfl (one_u8s _) Tryd.sizeOf43 (by show (List.map vU8 (lg k (seg l2 0 n))).length = _; rw [List.length_map]; exact (lg_len h2 _ rfl (seg_all (by assumption)))) (by show (List.map vU8 zeros32).length = _; rw [List.length_map]; exact zeros32_len)) ?_
  refine ow_val (val_assign rfl) rfl ?_   -- 11
  refine ow_nil (into ?_)
  refine sw_seq ?_
  refine sw_seq ?_
  refine sw_region ?_
  refine ow_val (val_move rfl) rfl ?_   -- 55
  refine ow_val (val_not rfl) rfl ?_   -- 56
  refine ow_val (val_move rfl) rfl ?_   -- 57
  refine ow_guard_yes rfl rfl rfl ?_
  refine ow_val (val_move rfl) rfl ?_   -- 58
  refine ow_guard_yes rfl rfl rfl ?_
  refine ow_val (val_not rfl) rfl ?_   -- 59
  refine ow_val (val_pick_false rfl rfl) rfl ?_   -- 60
  refine ow_nil (into ?_)
  refine sw_false rfl rfl ?_
  refine sw_skip (into ?_)
  refine sw_seq ?_
  refine sw_seq ?_
  refine sw_region ?_
  refine ow_val (val_move rfl) rfl ?_   -- 61
  refine ow_val (val_move rfl) rfl ?_   -- 62
  refine ow_val (val_move rfl) rfl ?_   -- 63
  refine ow_val (val_conv_n_u64 n Tryd.underlying3 Tryd.underlying46 rfl rfl) rfl ?_   -- 64
  refine ow_call_pure (v := .bool true) (callsTo Tryd.func32 rfl (by kernel_rfl) rfl) rfl (fun w hm => apart_is k h1 h2 w (hK.mem0 hm) b26 l1 ((htr26.left (T' := es34)).is (hm.heldSub (.cons _ (.cons _ (List.Sublist.refl _))))) (by assumption) (by assumption) b34 l2 ((htr34.right (T' := es26)).is (hm.heldSub (.cons _ (.cons _ (List.Sublist.refl _))))) (by assumption) (by assumption) 0 n (by omega) (by omega) (by omega) (by omega) (by omega) (decide_eq_true hse)) ?_   -- 65
  refine ow_val (val_not rfl) rfl ?_   -- 66
  refine ow_nil (into ?_)
  refine sw_false rfl rfl ?_
  refine sw_skip (into ?_)
  refine sw_seq ?_
  refine sw_region ?_
  refine ow_val (val_load_all 1 rfl rfl Tryd.isAgg43 Tryd.sizeOf43 (by show (List.map vU8 (lg k (seg l1 0 n))).length = _; rw [List.length_map]; exact (lg_len h2 _ rfl (seg_all (by assumption))))) rfl ?_   -- 70
  refine ow_val (val_load_all 0 rfl rfl Tryd.isAgg43 Tryd.sizeOf43 (by show (List.map vU8 (lg k (seg l2 0 n))).length = _; rw [List.length_map]; exact (lg_len h2 _ rfl (seg_all (by assumption))))) rfl ?_   -- 71
  by_cases hlx : lg k (seg l1 0 n) ≠ lg k (seg l2 0 n)
  · -- yes
    refine ow_val ((val_neq_u8s rfl rfl Tryd.eqGuardType43 Tryd.underlying43 Tryd.underlying5 Tryd.sizeOf5 Tryd.isAgg5 (lg_len h2 _ rfl (seg_all (by assumption))) (lg_len h2 _ rfl (seg_all (by assumption)))).to (congrArg Value.bool (show (!_) = true by rw [decide_eq_false hlx]; rfl))) rfl ?_   -- 72
    refine ow_val (val_move rfl) rfl ?_   -- 73
    first | refine ow_guard_no rfl rfl rfl rfl rfl ?_ | refine ow_guard_none rfl rfl rfl rfl rfl ?_
    first | refine ow_guard_no rfl rfl rfl rfl rfl ?_ | refine ow_guard_none rfl rfl rfl rfl rfl ?_
    first | refine ow_guard_no rfl rfl rfl rfl rfl ?_ | refine ow_guard_none rfl rfl rfl rfl rfl ?_
    first | refine ow_guard_no rfl rfl rfl rfl rfl ?_ | refine ow_guard_none rfl rfl rfl rfl rfl ?_
    first | refine ow_guard_no rfl rfl rfl rfl rfl ?_ | refine ow_guard_none rfl rfl rfl rfl rfl ?_
    refine ow_val (val_pick_true rfl rfl) rfl ?_   -- 79
    refine ow_val (val_assign rfl) rfl ?_   -- 6
    refine ow_nil (into ?_)
    exact sw_ret (fun w hm => ret_one _ rfl rfl ⟨rfl, hm.forgetAll⟩)
  · -- no
    refine ow_val ((val_neq_u8s rfl rfl Tryd.eqGuardType43 Tryd.underlying43 Tryd.underlying5 Tryd.sizeOf5 Tryd.isAgg5 (lg_len h2 _ rfl (seg_all (by assumption))) (lg_len h2 _ rfl (seg_all (by assumption)))).to (congrArg Value.bool (show (!_) = false by rw [decide_eq_true (Decidable.not_not.1 hlx)]; rfl))) rfl ?_   -- 72
    refine ow_val (val_move rfl) rfl ?_   -- 73
    refine ow_guard_yes rfl rfl rfl ?_
    refine ow_val (val_move rfl) rfl ?_   -- 74
    refine ow_guard_yes rfl rfl rfl ?_
    refine ow_val (val_move rfl) rfl ?_   -- 75
    refine ow_guard_yes rfl rfl rfl ?_
    refine ow_val (val_move rfl) rfl ?_   -- 76
    refine ow_guard_yes rfl rfl rfl ?_
    refine ow_val (val_conv_n_u64 n Tryd.underlying3 Tryd.underlying46 rfl rfl) rfl ?_   -- 77
    refine ow_guard_yes rfl rfl rfl ?_
    refine ow_call_pure (v := .bool true) (callsTo Tryd.func33 rfl (by kernel_rfl) rfl) rfl (fun w hm => differ_any k h1 h2 w (hK.mem0 hm) b26 l1 ((htr26.left (T' := es34)).is (hm.heldSub (.cons _ (.cons _ (List.Sublist.refl _))))) (by assumption) (by assumption) b34 l2 ((htr34.right (T' := es26)).is (hm.heldSub (.cons _ (.cons _ (List.Sublist.refl _))))) (by assumption) (by assumption) 0 n (by omega) (by omega) (by omega) (by omega) (by omega) hse (Decidable.not_not.1 hlx)) ?_   -- 78
    refine ow_val (val_pick_false rfl rfl) rfl ?_   -- 79
    refine ow_val (val_assign rfl) rfl ?_   -- 6
    refine ow_nil (into ?_)
    exact sw_ret (fun w hm => ret_one _ rfl rfl ⟨rfl, hm.forgetAll⟩)

theorem mtreeBinds_any (v0 : Int) (w : World) (hK : KW w) (a : Option Addr) (c : Nat) (l : List (List UInt8)) (hdl : ∀ d ∈ l, d.length = 32) (hr : Rd w a (l.flatMap fun d => d.map vU8)) (hc : l.length ≤ c) (hl : l.length < 9223372036854775808) (a2 : Option Addr) (c2 : Nat) (q : List (List UInt8)) (hdq : ∀ d ∈ q, d.length = 32) (hrq : Rd w a2 (q.flatMap fun d => d.map vU8)) (hcq : q.length ≤ c2) (hlq : q.length < 9223372036854775808) : Calls Tryd.prog 10 #[vInt v0, .slice a l.length c, .slice a2 q.length c2] w fun e w' => ∃ v, e = .returned v ∧ v = .bool true ∧ Mem w [] [] w' := by
  have hn1 : (l.take (min l.length q.length)).length = min l.length q.length := by rw [List.length_take]; omega
  by_cases ha : (l.take (min l.length q.length)).length ≤ 400 ∧ fitO v0 (l.take (min l.length q.length)) = true
  · have ha' := ha
    obtain ⟨h4, hf⟩ := ha'
    obtain ⟨hwd, hf1⟩ := fitO_iff.1 hf
    have h9 := wd_iff.1 hwd
    obtain ⟨k, rfl⟩ : ∃ k : Nat, v0 = (k : Int) := ⟨v0.toNat, by omega⟩
    by_cases hb : (q.take (min l.length q.length)).length ≤ 400 ∧ fitO (k : Int) (q.take (min l.length q.length)) = true
    · have hf2 := (fitO_iff.1 hb.2).2
      by_cases hse : seg (l.take (min l.length q.length)) 0 (min l.length q.length) = seg (q.take (min l.length q.length)) 0 (min l.length q.length)
      · exact binds_e k (by omega) (by omega) w hK a c l hdl hr hc hl a2 c2 q hdq hrq hcq hlq _ rfl _ _ rfl rfl hf1 hf2 (by omega) hse
      · exact binds_x k (by omega) (by omega) w hK a c l hdl hr hc hl a2 c2 q hdq hrq hcq hlq _ rfl _ _ rfl rfl hf1 hf2 (by omega) hse
    · exact binds_gn k (by omega) (by omega) w hK a c l hdl hr hc hl a2 c2 q hdq hrq hcq hlq _ rfl _ _ rfl rfl hb hf1 h4
  · by_cases hb : (q.take (min l.length q.length)).length ≤ 400 ∧ fitO v0 (q.take (min l.length q.length)) = true
    · have hb' := hb
      obtain ⟨h4, hf⟩ := hb'
      obtain ⟨hwd, hf2⟩ := fitO_iff.1 hf
      have h9 := wd_iff.1 hwd
      obtain ⟨k, rfl⟩ : ∃ k : Nat, v0 = (k : Int) := ⟨v0.toNat, by omega⟩
      exact binds_ng k (by omega) (by omega) w hK a c l hdl hr hc hl a2 c2 q hdq hrq hcq hlq _ rfl _ _ rfl rfl ha hf2 h4
    · exact binds_nn v0 w hK a c l hdl hr hc hl a2 c2 q hdq hrq hcq hlq _ rfl _ _ rfl rfl ha hb
end Go.Proofs.YtcappcjogcekkaaDoor
