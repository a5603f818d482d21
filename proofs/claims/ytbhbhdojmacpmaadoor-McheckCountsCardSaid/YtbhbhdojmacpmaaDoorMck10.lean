import Derived.Test.YtbhbhdojmacpmaaDoorMck4
import Derived.Test.YtbhbhdojmacpmaaDoorCnt
import Derived.Test.YtbhbhdojmacpmaaDoorProg
set_option linter.unusedVariables false
set_option linter.unusedSimpArgs false
namespace Go.Proofs.YtbhbhdojmacpmaaDoor
open Go.Sx Go.Ps
theorem mcounts_leaf (v0 : Int) (leaf : List UInt8) (hll : leaf.length = 32) (i n : UInt64) (root : List UInt8) (hrl : root.length = 32) (w : World) (hK : KW w) (a : Option Addr) (c : Nat) (proof : List (List UInt8)) (hpl : ∀ d ∈ proof, d.length = 32) (hr : Rd w a (proof.flatMap fun d => d.map vU8)) (hc : proof.length ≤ c) (hl : proof.length < 9223372036854775808) (hb : (proof.length + 2) * 32 ≤ 140737488355328) (hfl : fm v0 leaf = false) : Calls Tryd.prog 10 #[.agg (askC v0 leaf i n (.slice a proof.length c) root).toArray] w fun e w' => ∃ v, e = .returned v ∧ v = .bool true ∧ Mem w [] [] w' := by
  refine calls_of_sw (vs := [.agg (askC v0 leaf i n (.slice a proof.length c) root).toArray]) Tryd.func10 rfl Tryd.ntmps10 rfl (SW.begin ?_)
  refine sw_seq ?_
  refine sw_region ?_
  refine ow_new (acts_box rfl) rfl (fun b1 hb1 => ?_)   -- 1
  refine ow_val (val_assign rfl) rfl ?_   -- 2
  refine ow_nil (into ?_)
  refine sw_seq ?_
  refine sw_seq ?_
  refine sw_region ?_
  refine ow_call_pure (v := .bool true) (callsTo Tryd.func15 rfl (by kernel_rfl) rfl) rfl (fun w hm => awake_any w (hK.mem0 hm)) ?_   -- 15
  refine ow_val (val_not rfl) rfl ?_   -- 16
  refine ow_nil (into ?_)
  refine sw_false rfl rfl ?_
  refine sw_skip (into ?_)
  refine sw_seq ?_
  refine sw_seq ?_
  refine sw_region ?_
  refine ow_val (val_fieldAddr (m := 0) (e := 0) rfl Tryd.underlying27 rfl rfl Tryd.sizeOf3 rfl) rfl ?_   -- 17
  refine ow_val (val_load_at 0 rfl rfl Tryd.isAgg3 rfl) rfl ?_   -- 18
  refine ow_val (val_fieldAddr (m := 31) (e := 1) rfl Tryd.underlying27 rfl rfl Tryd.sizeOf23 rfl) rfl ?_   -- 19
  refine ow_val (val_load_part 0 rfl rfl Tryd.isAgg23 Tryd.sizeOf23 (by show (List.map vU8 leaf).length = _; rw [List.length_map]; exact hll) (ask_leaf hll)) rfl ?_   -- 20
  refine ow_call_pure (v := .bool false) (callsTo Tryd.func20 rfl (by kernel_rfl) rfl) rfl (fun w hm => (by have h := docForm_any v0 leaf hll w; rw [hfl] at h; exact h)) ?_   -- 21
  refine ow_val (val_not rfl) rfl ?_   -- 22
  refine ow_nil (into ?_)
  refine sw_true rfl rfl ?_
  refine sw_seq ?_
  refine sw_region ?_
  refine ow_val (val_assign rfl) rfl ?_   -- 2
  refine ow_nil (into ?_)
  refine sw_ret (fun w hm => ?_)
  try dsimp only [thenP, blockP, Nat.beq, cond]
  exact ret_one _ rfl rfl ⟨rfl, hm.forgetAll⟩

theorem rootsO_of {k : Nat} (h1 : 1 ≤ k) (h2 : k ≤ 32) {old : List UInt8} {P : List (List UInt8)} (hl : fm (k : Int) old = true) (hP : ∀ d ∈ P, fm (k : Int) d = true) (m n : UInt64) :
    rootsO (k : Int) m n old P = if m < 1 ∨ n ≤ m then ((zeros32, zeros32), 4) else if (twoR k old m n true P.reverse).2 = true then ((twoR k old m n true P.reverse).1, 0) else ((zeros32, zeros32), 10) := by
  have e : allE (k : Int) P [old] = 0 := by rw [allE, chk_all (wd_of h1 h2) (fun d hd => by obtain rfl := List.mem_singleton.1 hd; exact hl), if_neg (by simp), chk_all (wd_of h1 h2) hP]
  rw [rootsO, if_neg (by simp [e]), Int.toNat_natCast]
theorem rootO_of {k : Nat} (h1 : 1 ≤ k) (h2 : k ≤ 32) {leaf : List UInt8} {P : List (List UInt8)} (hl : fm (k : Int) leaf = true) (hP : ∀ d ∈ P, fm (k : Int) d = true) (i n : UInt64) :
    rootO (k : Int) leaf i n P = if n ≤ i then (zeros32, 4) else if (upR k leaf i n P.reverse).2 = true then ((upR k leaf i n P.reverse).1, 0) else (zeros32, 10) := by
  have e : allE (k : Int) P [leaf] = 0 := by rw [allE, chk_all (wd_of h1 h2) (fun d hd => by obtain rfl := List.mem_singleton.1 hd; exact hl), if_neg (by simp), chk_all (wd_of h1 h2) hP]
  rw [rootO, if_neg (by simp [e]), Int.toNat_natCast]
theorem cnt_A {k : Nat} (h1 : 1 ≤ k) (h2 : k ≤ 32) {leaf : List UInt8} {P : List (List UInt8)} (hl : fm (k : Int) leaf = true) (hP : ∀ d ∈ P, fm (k : Int) d = true) {i n : UInt64} (hin : n ≤ i) :
    (cntO i 0 n).2 = 4 ∧ (rootO (k : Int) leaf i n P).2 = 4 ∧ (rootsO (k : Int) i n leaf P).2 = 4 := by
  rw [rootO_of h1 h2 hl hP, rootsO_of h1 h2 hl hP, cntO, if_pos (.inl hin), if_pos hin, if_pos (.inr hin)]; exact ⟨rfl, rfl, rfl⟩
theorem u64_lt {a b : UInt64} (h : ¬ b ≤ a) : a < b := UInt64.lt_iff_toNat_lt.2 (Nat.lt_of_not_le fun h1 => h (UInt64.le_iff_toNat_le.2 h1))
theorem cnt_B {k : Nat} (h1 : 1 ≤ k) (h2 : k ≤ 32) {leaf : List UInt8} {P : List (List UInt8)} (hl : fm (k : Int) leaf = true) (hP : ∀ d ∈ P, fm (k : Int) d = true) {i n : UInt64} (hin : ¬ n ≤ i) :
    (cntO i 0 n).2 = 0 ∧ (rootO (k : Int) leaf i n P).2 ≠ 4 ∧ (((((rootO (k : Int) leaf i n P).2 : Nat) : Int) = 0) ↔ ((P.length : Nat) : Int) = (((cntO i 0 n).1.1 : Nat) : Int)) := by
  have h0 : n ≠ 0 := fun h => hin (by rw [h]; exact UInt64.le_iff_toNat_le.2 (Nat.zero_le _))
  have hc : cntO i 0 n = (((splitsL i n).length, cntZ 0 n), 0) := by rw [cntO, if_neg]; exact fun h => h.elim hin (fun h => by have := UInt64.lt_iff_toNat_lt.1 h; have h9 : (0 : UInt64).toNat = 0 := rfl; omega)
  have hf := up_flag_len k leaf P.reverse i n h0
  rw [List.length_reverse] at hf
  rw [rootO_of h1 h2 hl hP, hc, if_neg hin]
  by_cases hx : P.length = (splitsL i n).length
  · rw [if_pos (by rw [hf]; exact decide_eq_true hx)]; exact ⟨rfl, by simp, by simp [hx]⟩
  · rw [if_neg (by rw [hf]; simpa using hx)]; exact ⟨rfl, by simp, by simp; omega⟩
theorem cnt_Z {k : Nat} (h1 : 1 ≤ k) (h2 : k ≤ 32) {leaf : List UInt8} {P : List (List UInt8)} (hl : fm (k : Int) leaf = true) (hP : ∀ d ∈ P, fm (k : Int) d = true) {i n : UInt64} (hi : i = 0) : (rootsO (k : Int) i n leaf P).2 = 4 := by
  rw [rootsO_of h1 h2 hl hP, if_pos (.inl (by rw [hi]; decide))]
theorem cnt_C {k : Nat} (h1 : 1 ≤ k) (h2 : k ≤ 32) {leaf : List UInt8} {P : List (List UInt8)} (hl : fm (k : Int) leaf = true) (hP : ∀ d ∈ P, fm (k : Int) d = true) {i n : UInt64} (hin : ¬ n ≤ i) (hi : ¬ i = 0) :
    (cntO 0 i n).2 = 0 ∧ ((rootsO (k : Int) i n leaf P).2 = 0 ∨ (rootsO (k : Int) i n leaf P).2 = 10) ∧ (((((rootsO (k : Int) i n leaf P).2 : Nat) : Int) = 0) ↔ ((P.length : Nat) : Int) = (((cntO 0 i n).1.2 : Nat) : Int)) := by
  have h9 : (0 : UInt64).toNat = 0 := rfl
  have h8 : (1 : UInt64).toNat = 1 := rfl
  have hlt := UInt64.lt_iff_toNat_lt.1 (u64_lt hin)
  have hi0 : i.toNat ≠ 0 := fun h => hi (UInt64.toNat.inj h)
  have hle : i ≤ n := UInt64.le_iff_toNat_le.2 (by omega)
  have hc : cntO 0 i n = (((splitsL 0 n).length, cntL i n true), 0) := by
    rw [cntO, if_neg, cntZ, if_neg hi]
    exact fun h => h.elim (fun h => by have := UInt64.le_iff_toNat_le.1 h; omega) (fun h => by have := UInt64.lt_iff_toNat_lt.1 h; omega)
  have hf := two_flag_len k leaf P.reverse i n true hi hle
  rw [List.length_reverse] at hf
  rw [rootsO_of h1 h2 hl hP, hc, if_neg (fun h => h.elim (fun h => by have := UInt64.lt_iff_toNat_lt.1 h; omega) hin)]
  by_cases hx : P.length = cntL i n true
  · rw [if_pos (by rw [hf]; exact decide_eq_true hx)]; exact ⟨rfl, .inl rfl, by simp [hx]⟩
  · rw [if_neg (by rw [hf]; simpa using hx)]; exact ⟨rfl, .inr rfl, by simp; omega⟩

theorem mcounts_a0 (k : Nat) (h1 : 1 ≤ k) (h2 : k ≤ 32) (leaf : List UInt8) (hll : leaf.length = 32) (i n : UInt64) (root : List UInt8) (hrl : root.length = 32) (w : World) (hK : KW w) (a : Option Addr) (c : Nat) (proof : List (List UInt8)) (hpl : ∀ d ∈ proof, d.length = 32) (hr : Rd w a (proof.flatMap fun d => d.map vU8)) (hc : proof.length ≤ c) (hl : proof.length < 9223372036854775808) (hb : (proof.length + 2) * 32 ≤ 140737488355328) (hfl : fm (k : Int) leaf = true) (hin : n ≤ i) (hi0 : i = 0) : Calls Tryd.prog 10 #[.agg (askC (k : Int) leaf i n (.slice a proof.length c) root).toArray] w fun e w' => ∃ v, e = .returned v ∧ v = .bool true ∧ Mem w [] [] w' := by
  refine calls_of_sw (vs := [.agg (askC (k : Int) leaf i n (.slice a proof.length c) root).toArray]) Tryd.func10 rfl Tryd.ntmps10 rfl (SW.begin ?_)
  refine sw_seq ?_
  refine sw_region ?_
  refine ow_new (acts_box rfl) rfl (fun b1 hb1 => ?_)   -- 1
  refine ow_val (val_assign rfl) rfl ?_   -- 2
  refine ow_nil (into ?_)
  refine sw_seq ?_
  refine sw_seq ?_
  refine sw_region ?_
  refine ow_call_pure (v := .bool true) (callsTo Tryd.func15 rfl (by kernel_rfl) rfl) rfl (fun w hm => awake_any w (hK.mem0 hm)) ?_   -- 15
  refine ow_val (val_not rfl) rfl ?_   -- 16
  refine ow_nil (into ?_)
  refine sw_false rfl rfl ?_
  refine sw_skip (into ?_)
  refine sw_seq ?_
  refine sw_seq ?_
  refine sw_region ?_
  refine ow_val (val_fieldAddr (m := 0) (e := 0) rfl Tryd.underlying27 rfl rfl Tryd.sizeOf3 rfl) rfl ?_   -- 17
  refine ow_val (val_load_at 0 rfl rfl Tryd.isAgg3 rfl) rfl ?_   -- 18
  refine ow_val (val_fieldAddr (m := 31) (e := 1) rfl Tryd.underlying27 rfl rfl Tryd.sizeOf23 rfl) rfl ?_   -- 19
  refine ow_val (val_load_part 0 rfl rfl Tryd.isAgg23 Tryd.sizeOf23 (by show (List.map vU8 leaf).length = _; rw [List.length_map]; exact hll) (ask_leaf hll)) rfl ?_   -- 20
  refine ow_call_pure (v := .bool true) (callsTo Tryd.func20 rfl (by kernel_rfl) rfl) rfl (fun w hm => (by have h := docForm_any (k : Int) leaf hll w; rw [hfl] at h; exact h)) ?_   -- 21
  refine ow_val (val_not rfl) rfl ?_   -- 22
  refine ow_nil (into ?_)
  refine sw_false rfl rfl ?_
  refine sw_skip (into ?_)
  refine sw_seq ?_
  refine sw_seq ?_
  refine sw_region ?_
  refine ow_val (val_fieldAddr (m := 0) (e := 35) rfl Tryd.underlying27 rfl rfl Tryd.sizeOf25 rfl) rfl ?_   -- 23
  refine ow_val (val_load_at 0 rfl rfl Tryd.isAgg25 (ask_35 hll)) rfl ?_   -- 24
  refine ow_val (val_len rfl Tryd.underlying25) rfl ?_   -- 25
  refine ow_val (val_move rfl) rfl ?_   -- 26
  refine ow_nil (into ?_)
  refine sw_block ?_
  refine sw_loop (σ := Nat) (fun j => j ≤ proof.length ∧ ∀ d ∈ proof.take j, fm (k : Int) d = true) (fun j => [(26, vInt (j : Int)), (25, vInt (proof.length : Int)), (1, .pointer (some ⟨b1, 0, none⟩))]) (fun _ => Mem w [] [some (b1, blk (askC (k : Int) leaf i n (.slice a proof.length c) root) 27)]) (fun j => proof.length - j) 0 ⟨Nat.zero_le _, fun d hd => by simp at hd⟩ ⟨rfl, rfl, rfl, trivial⟩ (fun w hm => hm) ?_
  rintro j ⟨hj, hpf⟩
  refine sw_seq ?_
  refine sw_region ?_
  refine ow_val (val_lss_int rfl rfl) rfl ?_   -- 27
  refine ow_nil (into ?_)
  refine sw_seq ?_
  refine sw_if rfl (fun h0 => ?_) (fun h0 => ?_)
  · -- then
    obtain ⟨ba, oa, rfl⟩ := hr.addr (by rw [flatMap_size proof (fun x hx => by rw [List.length_map]; exact hpl x hx)]; omega)
    refine sw_skip (into ?_)
    refine sw_seq ?_
    refine sw_block ?_
    refine sw_seq ?_
    refine sw_region ?_
    refine ow_val (val_move rfl) rfl ?_   -- 28
    refine ow_val (val_assign rfl) rfl ?_   -- 3
    refine ow_nil (into ?_)
    refine sw_seq ?_
    by_cases hfp0 : fm (k : Int) (proof.getD j default) = false
    · -- yes
      skip
      refine sw_region_lex _ [] [(0, 0), (2, 0), (4, 0), (1, 1), (3, 1), (5, 0), (6, 1), (7, 2), (8, 0)] (by kernel_rfl) (by kernel_rfl) (fun _ _ _ h => h) (fun _ h => h) (fun _ h => h.drawn _) ?_
      refine lw_pure rfl (val_fieldAddr (m := 0) (e := 0) rfl Tryd.underlying27 rfl rfl Tryd.sizeOf3 rfl) rfl ?_   -- 29
      refine lw_pure rfl (val_fieldAddr (m := 0) (e := 35) rfl Tryd.underlying27 rfl rfl Tryd.sizeOf25 rfl) rfl ?_   -- 31
      refine lw_pure rfl (val_move rfl) rfl ?_   -- 33
      refine lw_held rfl (val_load_at 0 rfl rfl Tryd.isAgg3 rfl) rfl ?_   -- 30
      refine lw_held rfl (val_load_at 0 rfl rfl Tryd.isAgg25 (ask_35 hll)) rfl ?_   -- 32
      refine lw_pure rfl (val_indexAddr_slice (j) (oa + j * 32) rfl rfl Tryd.underlying25 Tryd.sizeOf23 (by omega) (by omega) (by omega)) rfl ?_   -- 34
      refine lw_held rfl (val_load_elem (cells := fun d => d.map vU8) (l := proof) (o := oa) (i := j) rfl Tryd.isAgg23 Tryd.sizeOf23 (fun x hx => by rw [List.length_map]; exact hpl x hx) (by omega) (by omega) (fun w' hm => hr.mem hm)) rfl ?_   -- 35
      refine lw_call_pure rfl (callsTo Tryd.func20 rfl (by kernel_rfl) rfl) rfl (fun w hm => docForm_any (k : Int) (proof.getD j default) (hpl _ (getD_mem (by omega))) w) ?_   -- 36
      refine lw_pure rfl ((val_not rfl).to (congrArg Value.bool (show (!_) = true by rw [hfp0]; rfl))) rfl ?_   -- 37
      refine lw_nil (into ?_)
      refine sw_true rfl rfl ?_
      refine sw_seq ?_
      refine sw_region ?_
      refine ow_val (val_assign rfl) rfl ?_   -- 2
      refine ow_nil (into ?_)
      refine sw_ret (fun w hm => ?_)
      try dsimp only [thenP, blockP, Nat.beq, cond]
      exact ret_one _ rfl rfl ⟨rfl, hm.forgetAll⟩
    · -- no
      have hfp := (Bool.not_eq_false _).mp hfp0
      refine sw_region_lex _ [] [(0, 0), (2, 0), (4, 0), (1, 1), (3, 1), (5, 0), (6, 1), (7, 2), (8, 0)] (by kernel_rfl) (by kernel_rfl) (fun _ _ _ h => h) (fun _ h => h) (fun _ h => h.drawn _) ?_
      refine lw_pure rfl (val_fieldAddr (m := 0) (e := 0) rfl Tryd.underlying27 rfl rfl Tryd.sizeOf3 rfl) rfl ?_   -- 29
      refine lw_pure rfl (val_fieldAddr (m := 0) (e := 35) rfl Tryd.underlying27 rfl rfl Tryd.sizeOf25 rfl) rfl ?_   -- 31
      refine lw_pure rfl (val_move rfl) rfl ?_   -- 33
      refine lw_held rfl (val_load_at 0 rfl rfl Tryd.isAgg3 rfl) rfl ?_   -- 30
      refine lw_held rfl (val_load_at 0 rfl rfl Tryd.isAgg25 (ask_35 hll)) rfl ?_   -- 32
      refine lw_pure rfl (val_indexAddr_slice (j) (oa + j * 32) rfl rfl Tryd.underlying25 Tryd.sizeOf23 (by omega) (by omega) (by omega)) rfl ?_   -- 34
      refine lw_held rfl (val_load_elem (cells := fun d => d.map vU8) (l := proof) (o := oa) (i := j) rfl Tryd.isAgg23 Tryd.sizeOf23 (fun x hx => by rw [List.length_map]; exact hpl x hx) (by omega) (by omega) (fun w' hm => hr.mem hm)) rfl ?_   -- 35
      refine lw_call_pure rfl (callsTo Tryd.func20 rfl (by kernel_rfl) rfl) rfl (fun w hm => docForm_any (k : Int) (proof.getD j default) (hpl _ (getD_mem (by omega))) w) ?_   -- 36
      refine lw_pure rfl ((val_not rfl).to (congrArg Value.bool (show (!_) = false by rw [(Bool.not_eq_false _).mp hfp0]; rfl))) rfl ?_   -- 37
      refine lw_nil (into ?_)
      refine sw_false rfl rfl ?_
      refine sw_skip (into ?_)
      refine sw_region ?_
      refine ow_val (val_add_int ((j + 1 : Nat) : Int) rfl rfl (by omega) (by omega)) rfl ?_   -- 38
      refine ow_val (val_move rfl) rfl ?_   -- 26
      exact ow_nil (fun w hm => ⟨j + 1, ⟨by omega, fun d hd => by rw [List.take_succ_eq_append_getElem (by omega), List.mem_append] at hd; rcases hd with hd | hd; exact hpf d hd; rw [List.mem_singleton] at hd; subst hd; simpa [List.getD_eq_getElem?_getD, show j < proof.length by omega] using hfp⟩, by omega, ⟨rfl, rfl, rfl, trivial⟩, hm⟩)
  · -- else
    obtain rfl : j = proof.length := by omega
    rw [List.take_length] at hpf
    have ⟨hC1, hR1, hR2⟩ := cnt_A h1 h2 hfl hpf hin
    refine sw_exit (into ?_)
    refine sw_seq ?_
    refine sw_region ?_
    refine ow_val (val_fieldAddr (m := 0) (e := 33) rfl Tryd.underlying27 rfl rfl Tryd.sizeOf24 rfl) rfl ?_   -- 40
    refine ow_val (val_load_at 0 rfl rfl Tryd.isAgg24 (ask_33 hll)) rfl ?_   -- 41
    refine ow_val (val_fieldAddr (m := 0) (e := 34) rfl Tryd.underlying27 rfl rfl Tryd.sizeOf24 rfl) rfl ?_   -- 42
    refine ow_val (val_load_at 0 rfl rfl Tryd.isAgg24 (ask_34 hll)) rfl ?_   -- 43
    refine ow_call_pure (callsTo Tryd.func26 rfl (by kernel_rfl) rfl) rfl (fun w hm => counts_any i 0 n w) ?_   -- 44
    refine ow_val (val_move rfl) rfl ?_   -- 39
    refine ow_val (val_extract rfl rfl) rfl ?_   -- 45
    refine ow_val (val_extract rfl rfl) rfl ?_   -- 46
    refine ow_val (val_extract rfl rfl) rfl ?_   -- 47
    refine ow_val (val_assign rfl) rfl ?_   -- 4
    refine ow_val (val_assign rfl) rfl ?_   -- 5
    refine ow_val (val_assign rfl) rfl ?_   -- 6
    refine ow_nil (into ?_)
    refine sw_seq ?_
    refine sw_region ?_
    refine ow_val (val_fieldAddr (m := 0) (e := 0) rfl Tryd.underlying27 rfl rfl Tryd.sizeOf3 rfl) rfl ?_   -- 49
    refine ow_val (val_load_at 0 rfl rfl Tryd.isAgg3 rfl) rfl ?_   -- 50
    refine ow_val (val_fieldAddr (m := 31) (e := 1) rfl Tryd.underlying27 rfl rfl Tryd.sizeOf23 rfl) rfl ?_   -- 51
    refine ow_val (val_load_part 0 rfl rfl Tryd.isAgg23 Tryd.sizeOf23 (by show (List.map vU8 leaf).length = _; rw [List.length_map]; exact hll) (ask_leaf hll)) rfl ?_   -- 52
    refine ow_val (val_fieldAddr (m := 0) (e := 33) rfl Tryd.underlying27 rfl rfl Tryd.sizeOf24 rfl) rfl ?_   -- 53
    refine ow_val (val_load_at 0 rfl rfl Tryd.isAgg24 (ask_33 hll)) rfl ?_   -- 54
    refine ow_val (val_fieldAddr (m := 0) (e := 34) rfl Tryd.underlying27 rfl rfl Tryd.sizeOf24 rfl) rfl ?_   -- 55
    refine ow_val (val_load_at 0 rfl rfl Tryd.isAgg24 (ask_34 hll)) rfl ?_   -- 56
    refine ow_val (val_fieldAddr (m := 0) (e := 35) rfl Tryd.underlying27 rfl rfl Tryd.sizeOf25 rfl) rfl ?_   -- 57
    refine ow_val (val_load_at 0 rfl rfl Tryd.isAgg25 (ask_35 hll)) rfl ?_   -- 58
    refine ow_call_pure (callsTo Tryd.func12 rfl (by kernel_rfl) rfl) rfl (fun w hm => mroot_any (k : Int) leaf hll i n w (hK.mem0 hm) a proof.length c proof rfl hpl (hr.mem hm) (by omega) (by omega) (by omega)) ?_   -- 59
    refine ow_val (val_move rfl) rfl ?_   -- 48
    refine ow_val (val_extract rfl rfl) rfl ?_   -- 60
    refine ow_val (val_extract rfl rfl) rfl ?_   -- 61
    refine ow_new (acts_alloc zD) rfl (fun b7 hb7 => ?_)   -- 7
    refine ow_do_eq (does_store_all 0 rfl rfl rfl (one_u8s _) Tryd.sizeOf23 (by show (List.map vU8 ((rootO (k : Int) leaf i n proof).1)).length = _; rw [List.length_map]; exact (rootO_len hll)) (by show (List.map vU8 zeros32).length = _; rw [List.length_map]; exact zeros32_len)) ?_
    refine ow_val (val_assign rfl) rfl ?_   -- 8
    refine ow_nil (into ?_)
    refine sw_seq ?_
    refine sw_seq ?_
    refine sw_region ?_
    refine ow_val (val_move rfl) rfl ?_   -- 62
    refine ow_val ((val_eql_int rfl rfl).to (congrArg Value.bool (decide_eq_true ((by omega))))) rfl ?_   -- 63
    refine ow_val (val_move rfl) rfl ?_   -- 64
    refine ow_val ((val_eql_int rfl rfl).to (congrArg Value.bool (decide_eq_true ((by omega))))) rfl ?_   -- 65
    refine ow_val (val_neq_bool Tryd.underlying4 rfl rfl) rfl ?_   -- 66
    refine ow_val (val_move rfl) rfl ?_   -- 67
    refine ow_guard_yes rfl rfl rfl ?_
    refine ow_val (val_move rfl) rfl ?_   -- 68
    refine ow_guard_yes rfl rfl rfl ?_
    refine ow_val ((val_eql_int rfl rfl).to (congrArg Value.bool (decide_eq_false ((by omega))))) rfl ?_   -- 69
    refine ow_guard_yes rfl rfl rfl ?_
    refine ow_val (val_move rfl) rfl ?_   -- 70
    first | refine ow_guard_no rfl rfl rfl rfl rfl ?_ | refine ow_guard_none rfl rfl rfl rfl rfl ?_
    first | refine ow_guard_no rfl rfl rfl rfl rfl ?_ | refine ow_guard_none rfl rfl rfl rfl rfl ?_
    first | refine ow_guard_no rfl rfl rfl rfl rfl ?_ | refine ow_guard_none rfl rfl rfl rfl rfl ?_
    first | refine ow_guard_no rfl rfl rfl rfl rfl ?_ | refine ow_guard_none rfl rfl rfl rfl rfl ?_
    first | refine ow_guard_no rfl rfl rfl rfl rfl ?_ | refine ow_guard_none rfl rfl rfl rfl rfl ?_
    first | refine ow_guard_no rfl rfl rfl rfl rfl ?_ | refine ow_guard_none rfl rfl rfl rfl rfl ?_
    first | refine ow_guard_no rfl rfl rfl rfl rfl ?_ | refine ow_guard_none rfl rfl rfl rfl rfl ?_
    first | refine ow_guard_no rfl rfl rfl rfl rfl ?_ | refine ow_guard_none rfl rfl rfl rfl rfl ?_
    refine ow_guard_yes rfl rfl rfl ?_
    refine ow_val (val_pick_false rfl rfl) rfl ?_   -- 79
    refine ow_val (val_pick_false rfl rfl) rfl ?_   -- 80
    refine ow_nil (into ?_)
    refine sw_false rfl rfl ?_
    refine sw_skip (into ?_)
    refine sw_seq ?_
    refine sw_region ?_
    refine ow_val (val_fieldAddr (m := 0) (e := 33) rfl Tryd.underlying27 rfl rfl Tryd.sizeOf24 rfl) rfl ?_   -- 82
    refine ow_val (val_load_at 1 rfl rfl Tryd.isAgg24 (ask_33 hll)) rfl ?_   -- 83
    refine ow_val (val_fieldAddr (m := 0) (e := 34) rfl Tryd.underlying27 rfl rfl Tryd.sizeOf24 rfl) rfl ?_   -- 84
    refine ow_val (val_load_at 1 rfl rfl Tryd.isAgg24 (ask_34 hll)) rfl ?_   -- 85
    refine ow_call_pure (callsTo Tryd.func26 rfl (by kernel_rfl) rfl) rfl (fun w hm => counts_any 0 i n w) ?_   -- 86
    refine ow_val (val_move rfl) rfl ?_   -- 81
    refine ow_val (val_extract rfl rfl) rfl ?_   -- 87
    refine ow_val (val_extract rfl rfl) rfl ?_   -- 88
    refine ow_val (val_extract rfl rfl) rfl ?_   -- 89
    refine ow_val (val_assign rfl) rfl ?_   -- 9
    refine ow_val (val_assign rfl) rfl ?_   -- 10
    refine ow_val (val_assign rfl) rfl ?_   -- 11
    refine ow_nil (into ?_)
    refine sw_seq ?_
    refine sw_region ?_
    refine ow_val (val_fieldAddr (m := 0) (e := 0) rfl Tryd.underlying27 rfl rfl Tryd.sizeOf3 rfl) rfl ?_   -- 91
    refine ow_val (val_load_at 1 rfl rfl Tryd.isAgg3 rfl) rfl ?_   -- 92
    refine ow_val (val_fieldAddr (m := 0) (e := 33) rfl Tryd.underlying27 rfl rfl Tryd.sizeOf24 rfl) rfl ?_   -- 93
    refine ow_val (val_load_at 1 rfl rfl Tryd.isAgg24 (ask_33 hll)) rfl ?_   -- 94
    refine ow_val (val_fieldAddr (m := 0) (e := 34) rfl Tryd.underlying27 rfl rfl Tryd.sizeOf24 rfl) rfl ?_   -- 95
    refine ow_val (val_load_at 1 rfl rfl Tryd.isAgg24 (ask_34 hll)) rfl ?_   -- 96
    refine ow_val (val_fieldAddr (m := 31) (e := 1) rfl Tryd.underlying27 rfl rfl Tryd.sizeOf23 rfl) rfl ?_   -- 97
    refine ow_val (val_load_part 1 rfl rfl Tryd.isAgg23 Tryd.sizeOf23 (by show (List.map vU8 leaf).length = _; rw [List.length_map]; exact hll) (ask_leaf hll)) rfl ?_   -- 98
    refine ow_val (val_fieldAddr (m := 0) (e := 35) rfl Tryd.underlying27 rfl rfl Tryd.sizeOf25 rfl) rfl ?_   -- 99
    refine ow_val (val_load_at 1 rfl rfl Tryd.isAgg25 (ask_35 hll)) rfl ?_   -- 100
    refine ow_call_pure (callsTo Tryd.func18 rfl (by kernel_rfl) rfl) rfl (fun w hm => mroots_any (k : Int) leaf hll i n w (hK.mem0 hm) a proof.length c proof rfl hpl (hr.mem hm) (by omega) (by omega) (by omega)) ?_   -- 101
    refine ow_val (val_move rfl) rfl ?_   -- 90
    refine ow_val (val_extract rfl rfl) rfl ?_   -- 102
    refine ow_val (val_extract rfl rfl) rfl ?_   -- 103
    refine ow_val (val_extract rfl rfl) rfl ?_   -- 104
    refine ow_new (acts_alloc zD) rfl (fun b12 hb12 => ?_)   -- 12
    refine ow_new (acts_alloc zD) rfl (fun b13 hb13 => ?_)   -- 13
    refine ow_do_eq (does_store_all 1 rfl rfl rfl (one_u8s _) Tryd.sizeOf23 (by show (List.map vU8 ((rootsO (k : Int) i n leaf proof).1.1)).length = _; rw [List.length_map]; exact (rootsO_len hll hpl).1) (by show (List.map vU8 zeros32).length = _; rw [List.length_map]; exact zeros32_len)) ?_
    refine ow_do_eq (does_store_all 0 rfl rfl rfl (one_u8s _) Tryd.sizeOf23 (by show (List.map vU8 ((rootsO (k : Int) i n leaf proof).1.2)).length = _; rw [List.length_map]; exact (rootsO_len hll hpl).2) (by show (List.map vU8 zeros32).length = _; rw [List.length_map]; exact zeros32_len)) ?_
    refine ow_val (val_assign rfl) rfl ?_   -- 14
    refine ow_nil (into ?_)
    refine sw_seq ?_
    refine sw_seq ?_
    refine sw_region ?_
    refine ow_val (val_fieldAddr (m := 0) (e := 33) rfl Tryd.underlying27 rfl rfl Tryd.sizeOf24 rfl) rfl ?_   -- 105
    refine ow_val (val_load_at 3 rfl rfl Tryd.isAgg24 (ask_33 hll)) rfl ?_   -- 106
    refine ow_val ((val_eql_u64 rfl rfl).to (congrArg Value.bool (decide_eq_true (hi0)))) rfl ?_   -- 107
    refine ow_val (val_move rfl) rfl ?_   -- 108
    first | refine ow_guard_no rfl rfl rfl rfl rfl ?_ | refine ow_guard_none rfl rfl rfl rfl rfl ?_
    first | refine ow_guard_no rfl rfl rfl rfl rfl ?_ | refine ow_guard_none rfl rfl rfl rfl rfl ?_
    first | refine ow_guard_no rfl rfl rfl rfl rfl ?_ | refine ow_guard_none rfl rfl rfl rfl rfl ?_
    first | refine ow_guard_no rfl rfl rfl rfl rfl ?_ | refine ow_guard_none rfl rfl rfl rfl rfl ?_
    first | refine ow_guard_no rfl rfl rfl rfl rfl ?_ | refine ow_guard_none rfl rfl rfl rfl rfl ?_
    refine ow_val (val_pick_true rfl rfl) rfl ?_   -- 114
    refine ow_nil (into ?_)
    refine sw_true rfl rfl ?_
    refine sw_seq ?_
    refine sw_region ?_
    refine ow_val (val_move rfl) rfl ?_   -- 115
    refine ow_val ((val_eql_int rfl rfl).to (congrArg Value.bool (decide_eq_true ((by omega))))) rfl ?_   -- 116
    refine ow_val (val_assign rfl) rfl ?_   -- 2
    refine ow_nil (into ?_)
    refine sw_ret (fun w hm => ?_)
    try dsimp only [thenP, blockP, Nat.beq, cond]
    exact ret_one _ rfl rfl ⟨rfl, hm.forgetAll⟩

theorem mcounts_a1 (k : Nat) (h1 : 1 ≤ k) (h2 : k ≤ 32) (leaf : List UInt8) (hll : leaf.length = 32) (i n : UInt64) (root : List UInt8) (hrl : root.length = 32) (w : World) (hK : KW w) (a : Option Addr) (c : Nat) (proof : List (List UInt8)) (hpl : ∀ d ∈ proof, d.length = 32) (hr : Rd w a (proof.flatMap fun d => d.map vU8)) (hc : proof.length ≤ c) (hl : proof.length < 9223372036854775808) (hb : (proof.length + 2) * 32 ≤ 140737488355328) (hfl : fm (k : Int) leaf = true) (hin : n ≤ i) (hi0 : ¬ i = 0) : Calls Tryd.prog 10 #[.agg (askC (k : Int) leaf i n (.slice a proof.length c) root).toArray] w fun e w' => ∃ v, e = .returned v ∧ v = .bool true ∧ Mem w [] [] w' := by
  refine calls_of_sw (vs := [.agg (askC (k : Int) leaf i n (.slice a proof.length c) root).toArray]) Tryd.func10 rfl Tryd.ntmps10 rfl (SW.begin ?_)
  refine sw_seq ?_
  refine sw_region ?_
  refine ow_new (acts_box rfl) rfl (fun b1 hb1 => ?_)   -- 1
  refine ow_val (val_assign rfl) rfl ?_   -- 2
  refine ow_nil (into ?_)
  refine sw_seq ?_
  refine sw_seq ?_
  refine sw_region ?_
  refine ow_call_pure (v := .bool true) (callsTo Tryd.func15 rfl (by kernel_rfl) rfl) rfl (fun w hm => awake_any w (hK.mem0 hm)) ?_   -- 15
  refine ow_val (val_not rfl) rfl ?_   -- 16
  refine ow_nil (into ?_)
  refine sw_false rfl rfl ?_
  refine sw_skip (into ?_)
  refine sw_seq ?_
  refine sw_seq ?_
  refine sw_region ?_
  refine ow_val (val_fieldAddr (m := 0) (e := 0) rfl Tryd.underlying27 rfl rfl Tryd.sizeOf3 rfl) rfl ?_   -- 17
  refine ow_val (val_load_at 0 rfl rfl Tryd.isAgg3 rfl) rfl ?_   -- 18
  refine ow_val (val_fieldAddr (m := 31) (e := 1) rfl Tryd.underlying27 rfl rfl Tryd.sizeOf23 rfl) rfl ?_   -- 19
  refine ow_val (val_load_part 0 rfl rfl Tryd.isAgg23 Tryd.sizeOf23 (by show (List.map vU8 leaf).length = _; rw [List.length_map]; exact hll) (ask_leaf hll)) rfl ?_   -- 20
  refine ow_call_pure (v := .bool true) (callsTo Tryd.func20 rfl (by kernel_rfl) rfl) rfl (fun w hm => (by have h := docForm_any (k : Int) leaf hll w; rw [hfl] at h; exact h)) ?_   -- 21
  refine ow_val (val_not rfl) rfl ?_   -- 22
  refine ow_nil (into ?_)
  refine sw_false rfl rfl ?_
  refine sw_skip (into ?_)
  refine sw_seq ?_
  refine sw_seq ?_
  refine sw_region ?_
  refine ow_val (val_fieldAddr (m := 0) (e := 35) rfl Tryd.underlying27 rfl rfl Tryd.sizeOf25 rfl) rfl ?_   -- 23
  refine ow_val (val_load_at 0 rfl rfl Tryd.isAgg25 (ask_35 hll)) rfl ?_   -- 24
  refine ow_val (val_len rfl Tryd.underlying25) rfl ?_   -- 25
  refine ow_val (val_move rfl) rfl ?_   -- 26
  refine ow_nil (into ?_)
  refine sw_block ?_
  refine sw_loop (σ := Nat) (fun j => j ≤ proof.length ∧ ∀ d ∈ proof.take j, fm (k : Int) d = true) (fun j => [(26, vInt (j : Int)), (25, vInt (proof.length : Int)), (1, .pointer (some ⟨b1, 0, none⟩))]) (fun _ => Mem w [] [some (b1, blk (askC (k : Int) leaf i n (.slice a proof.length c) root) 27)]) (fun j => proof.length - j) 0 ⟨Nat.zero_le _, fun d hd => by simp at hd⟩ ⟨rfl, rfl, rfl, trivial⟩ (fun w hm => hm) ?_
  rintro j ⟨hj, hpf⟩
  refine sw_seq ?_
  refine sw_region ?_
  refine ow_val (val_lss_int rfl rfl) rfl ?_   -- 27
  refine ow_nil (into ?_)
  refine sw_seq ?_
  refine sw_if rfl (fun h0 => ?_) (fun h0 => ?_)
  · -- then
    obtain ⟨ba, oa, rfl⟩ := hr.addr (by rw [flatMap_size proof (fun x hx => by rw [List.length_map]; exact hpl x hx)]; omega)
    refine sw_skip (into ?_)
    refine sw_seq ?_
    refine sw_block ?_
    refine sw_seq ?_
    refine sw_region ?_
    refine ow_val (val_move rfl) rfl ?_   -- 28
    refine ow_val (val_assign rfl) rfl ?_   -- 3
    refine ow_nil (into ?_)
    refine sw_seq ?_
    by_cases hfp0 : fm (k : Int) (proof.getD j default) = false
    · -- yes
      skip
      refine sw_region_lex _ [] [(0, 0), (2, 0), (4, 0), (1, 1), (3, 1), (5, 0), (6, 1), (7, 2), (8, 0)] (by kernel_rfl) (by kernel_rfl) (fun _ _ _ h => h) (fun _ h => h) (fun _ h => h.drawn _) ?_
      refine lw_pure rfl (val_fieldAddr (m := 0) (e := 0) rfl Tryd.underlying27 rfl rfl Tryd.sizeOf3 rfl) rfl ?_   -- 29
      refine lw_pure rfl (val_fieldAddr (m := 0) (e := 35) rfl Tryd.underlying27 rfl rfl Tryd.sizeOf25 rfl) rfl ?_   -- 31
      refine lw_pure rfl (val_move rfl) rfl ?_   -- 33
      refine lw_held rfl (val_load_at 0 rfl rfl Tryd.isAgg3 rfl) rfl ?_   -- 30
      refine lw_held rfl (val_load_at 0 rfl rfl Tryd.isAgg25 (ask_35 hll)) rfl ?_   -- 32
      refine lw_pure rfl (val_indexAddr_slice (j) (oa + j * 32) rfl rfl Tryd.underlying25 Tryd.sizeOf23 (by omega) (by omega) (by omega)) rfl ?_   -- 34
      refine lw_held rfl (val_load_elem (cells := fun d => d.map vU8) (l := proof) (o := oa) (i := j) rfl Tryd.isAgg23 Tryd.sizeOf23 (fun x hx => by rw [List.length_map]; exact hpl x hx) (by omega) (by omega) (fun w' hm => hr.mem hm)) rfl ?_   -- 35
      refine lw_call_pure rfl (callsTo Tryd.func20 rfl (by kernel_rfl) rfl) rfl (fun w hm => docForm_any (k : Int) (proof.getD j default) (hpl _ (getD_mem (by omega))) w) ?_   -- 36
      refine lw_pure rfl ((val_not rfl).to (congrArg Value.bool (show (!_) = true by rw [hfp0]; rfl))) rfl ?_   -- 37
      refine lw_nil (into ?_)
      refine sw_true rfl rfl ?_
      refine sw_seq ?_
      refine sw_region ?_
      refine ow_val (val_assign rfl) rfl ?_   -- 2
      refine ow_nil (into ?_)
      refine sw_ret (fun w hm => ?_)
      try dsimp only [thenP, blockP, Nat.beq, cond]
      exact ret_one _ rfl rfl ⟨rfl, hm.forgetAll⟩
    · -- no
      have hfp := (Bool.not_eq_false _).mp hfp0
      refine sw_region_lex _ [] [(0, 0), (2, 0), (4, 0), (1, 1), (3, 1), (5, 0), (6, 1), (7, 2), (8, 0)] (by kernel_rfl) (by kernel_rfl) (fun _ _ _ h => h) (fun _ h => h) (fun _ h => h.drawn _) ?_
      refine lw_pure rfl (val_fieldAddr (m := 0) (e := 0) rfl Tryd.underlying27 rfl rfl Tryd.sizeOf3 rfl) rfl ?_   -- 29
      refine lw_pure rfl (val_fieldAddr (m := 0) (e := 35) rfl Tryd.underlying27 rfl rfl Tryd.sizeOf25 rfl) rfl ?_   -- 31
      refine lw_pure rfl (val_move rfl) rfl ?_   -- 33
      refine lw_held rfl (val_load_at 0 rfl rfl Tryd.isAgg3 rfl) rfl ?_   -- 30
      refine lw_held rfl (val_load_at 0 rfl rfl Tryd.isAgg25 (ask_35 hll)) rfl ?_   -- 32
      refine lw_pure rfl (val_indexAddr_slice (j) (oa + j * 32) rfl rfl Tryd.underlying25 Tryd.sizeOf23 (by omega) (by omega) (by omega)) rfl ?_   -- 34
      refine lw_held rfl (val_load_elem (cells := fun d => d.map vU8) (l := proof) (o := oa) (i := j) rfl Tryd.isAgg23 Tryd.sizeOf23 (fun x hx => by rw [List.length_map]; exact hpl x hx) (by omega) (by omega) (fun w' hm => hr.mem hm)) rfl ?_   -- 35
      refine lw_call_pure rfl (callsTo Tryd.func20 rfl (by kernel_rfl) rfl) rfl (fun w hm => docForm_any (k : Int) (proof.getD j default) (hpl _ (getD_mem (by omega))) w) ?_   -- 36
      refine lw_pure rfl ((val_not rfl).to (congrArg Value.bool (show (!_) = false by rw [(Bool.not_eq_false _).mp hfp0]; rfl))) rfl ?_   -- 37
      refine lw_nil (into ?_)
      refine sw_false rfl rfl ?_
      refine sw_skip (into ?_)
      refine sw_region ?_
      refine ow_val (val_add_int ((j + 1 : Nat) : Int) rfl rfl (by omega) (by omega)) rfl ?_   -- 38
      refine ow_val (val_move rfl) rfl ?_   -- 26
      exact ow_nil (fun w hm => ⟨j + 1, ⟨by omega, fun d hd => by rw [List.take_succ_eq_append_getElem (by omega), List.mem_append] at hd; rcases hd with hd | hd; exact hpf d hd; rw [List.mem_singleton] at hd; subst hd; simpa [List.getD_eq_getElem?_getD, show j < proof.length by omega] using hfp⟩, by omega, ⟨rfl, rfl, rfl, trivial⟩, hm⟩)
  · -- else
    obtain rfl : j = proof.length := by omega
    rw [List.take_length] at hpf
    have ⟨hC1, hR1, hR2⟩ := cnt_A h1 h2 hfl hpf hin
    refine sw_exit (into ?_)
    refine sw_seq ?_
    refine sw_region ?_
    refine ow_val (val_fieldAddr (m := 0) (e := 33) rfl Tryd.underlying27 rfl rfl Tryd.sizeOf24 rfl) rfl ?_   -- 40
    refine ow_val (val_load_at 0 rfl rfl Tryd.isAgg24 (ask_33 hll)) rfl ?_   -- 41
    refine ow_val (val_fieldAddr (m := 0) (e := 34) rfl Tryd.underlying27 rfl rfl Tryd.sizeOf24 rfl) rfl ?_   -- 42
    refine ow_val (val_load_at 0 rfl rfl Tryd.isAgg24 (ask_34 hll)) rfl ?_   -- 43
    refine ow_call_pure (callsTo Tryd.func26 rfl (by kernel_rfl) rfl) rfl (fun w hm => counts_any i 0 n w) ?_   -- 44
    refine ow_val (val_move rfl) rfl ?_   -- 39
    refine ow_val (val_extract rfl rfl) rfl ?_   -- 45
    refine ow_val (val_extract rfl rfl) rfl ?_   -- 46
    refine ow_val (val_extract rfl rfl) rfl ?_   -- 47
    refine ow_val (val_assign rfl) rfl ?_   -- 4
    refine ow_val (val_assign rfl) rfl ?_   -- 5
    refine ow_val (val_assign rfl) rfl ?_   -- 6
    refine ow_nil (into ?_)
    refine sw_seq ?_
    refine sw_region ?_
    refine ow_val (val_fieldAddr (m := 0) (e := 0) rfl Tryd.underlying27 rfl rfl Tryd.sizeOf3 rfl) rfl ?_   -- 49
    refine ow_val (val_load_at 0 rfl rfl Tryd.isAgg3 rfl) rfl ?_   -- 50
    refine ow_val (val_fieldAddr (m := 31) (e := 1) rfl Tryd.underlying27 rfl rfl Tryd.sizeOf23 rfl) rfl ?_   -- 51
    refine ow_val (val_load_part 0 rfl rfl Tryd.isAgg23 Tryd.sizeOf23 (by show (List.map vU8 leaf).length = _; rw [List.length_map]; exact hll) (ask_leaf hll)) rfl ?_   -- 52
    refine ow_val (val_fieldAddr (m := 0) (e := 33) rfl Tryd.underlying27 rfl rfl Tryd.sizeOf24 rfl) rfl ?_   -- 53
    refine ow_val (val_load_at 0 rfl rfl Tryd.isAgg24 (ask_33 hll)) rfl ?_   -- 54
    refine ow_val (val_fieldAddr (m := 0) (e := 34) rfl Tryd.underlying27 rfl rfl Tryd.sizeOf24 rfl) rfl ?_   -- 55
    refine ow_val (val_load_at 0 rfl rfl Tryd.isAgg24 (ask_34 hll)) rfl ?_   -- 56
    refine ow_val (val_fieldAddr (m := 0) (e := 35) rfl Tryd.underlying27 rfl rfl Tryd.sizeOf25 rfl) rfl ?_   -- 57
    refine ow_val (val_load_at 0 rfl rfl Tryd.isAgg25 (ask_35 hll)) rfl ?_   -- 58
    refine ow_call_pure (callsTo Tryd.func12 rfl (by kernel_rfl) rfl) rfl (fun w hm => mroot_any (k : Int) leaf hll i n w (hK.mem0 hm) a proof.length c proof rfl hpl (hr.mem hm) (by omega) (by omega) (by omega)) ?_   -- 59
    refine ow_val (val_move rfl) rfl ?_   -- 48
    refine ow_val (val_extract rfl rfl) rfl ?_   -- 60
    refine ow_val (val_extract rfl rfl) rfl ?_   -- 61
    refine ow_new (acts_alloc zD) rfl (fun b7 hb7 => ?_)   -- 7
    refine ow_do_eq (does_store_all 0 rfl rfl rfl (one_u8s _) Tryd.sizeOf23 (by show (List.map vU8 ((rootO (k : Int) leaf i n proof).1)).length = _; rw [List.length_map]; exact (rootO_len hll)) (by show (List.map vU8 zeros32).length = _; rw [List.length_map]; exact zeros32_len)) ?_
    refine ow_val (val_assign rfl) rfl ?_   -- 8
    refine ow_nil (into ?_)
    refine sw_seq ?_
    refine sw_seq ?_
    refine sw_region ?_
    refine ow_val (val_move rfl) rfl ?_   -- 62
    refine ow_val ((val_eql_int rfl rfl).to (congrArg Value.bool (decide_eq_true ((by omega))))) rfl ?_   -- 63
    refine ow_val (val_move rfl) rfl ?_   -- 64
    refine ow_val ((val_eql_int rfl rfl).to (congrArg Value.bool (decide_eq_true ((by omega))))) rfl ?_   -- 65
    refine ow_val (val_neq_bool Tryd.underlying4 rfl rfl) rfl ?_   -- 66
    refine ow_val (val_move rfl) rfl ?_   -- 67
    refine ow_guard_yes rfl rfl rfl ?_
    refine ow_val (val_move rfl) rfl ?_   -- 68
    refine ow_guard_yes rfl rfl rfl ?_
    refine ow_val ((val_eql_int rfl rfl).to (congrArg Value.bool (decide_eq_false ((by omega))))) rfl ?_   -- 69
    refine ow_guard_yes rfl rfl rfl ?_
    refine ow_val (val_move rfl) rfl ?_   -- 70
    first | refine ow_guard_no rfl rfl rfl rfl rfl ?_ | refine ow_guard_none rfl rfl rfl rfl rfl ?_
    first | refine ow_guard_no rfl rfl rfl rfl rfl ?_ | refine ow_guard_none rfl rfl rfl rfl rfl ?_
    first | refine ow_guard_no rfl rfl rfl rfl rfl ?_ | refine ow_guard_none rfl rfl rfl rfl rfl ?_
    first | refine ow_guard_no rfl rfl rfl rfl rfl ?_ | refine ow_guard_none rfl rfl rfl rfl rfl ?_
    first | refine ow_guard_no rfl rfl rfl rfl rfl ?_ | refine ow_guard_none rfl rfl rfl rfl rfl ?_
    first | refine ow_guard_no rfl rfl rfl rfl rfl ?_ | refine ow_guard_none rfl rfl rfl rfl rfl ?_
    first | refine ow_guard_no rfl rfl rfl rfl rfl ?_ | refine ow_guard_none rfl rfl rfl rfl rfl ?_
    first | refine ow_guard_no rfl rfl rfl rfl rfl ?_ | refine ow_guard_none rfl rfl rfl rfl rfl ?_
    refine ow_guard_yes rfl rfl rfl ?_
    refine ow_val (val_pick_false rfl rfl) rfl ?_   -- 79
    refine ow_val (val_pick_false rfl rfl) rfl ?_   -- 80
    refine ow_nil (into ?_)
    refine sw_false rfl rfl ?_
    refine sw_skip (into ?_)
    refine sw_seq ?_
    refine sw_region ?_
    refine ow_val (val_fieldAddr (m := 0) (e := 33) rfl Tryd.underlying27 rfl rfl Tryd.sizeOf24 rfl) rfl ?_   -- 82
    refine ow_val (val_load_at 1 rfl rfl Tryd.isAgg24 (ask_33 hll)) rfl ?_   -- 83
    refine ow_val (val_fieldAddr (m := 0) (e := 34) rfl Tryd.underlying27 rfl rfl Tryd.sizeOf24 rfl) rfl ?_   -- 84
    refine ow_val (val_load_at 1 rfl rfl Tryd.isAgg24 (ask_34 hll)) rfl ?_   -- 85
    refine ow_call_pure (callsTo Tryd.func26 rfl (by kernel_rfl) rfl) rfl (fun w hm => counts_any 0 i n w) ?_   -- 86
    refine ow_val (val_move rfl) rfl ?_   -- 81
    refine ow_val (val_extract rfl rfl) rfl ?_   -- 87
    refine ow_val (val_extract rfl rfl) rfl ?_   -- 88
    refine ow_val (val_extract rfl rfl) rfl ?_   -- 89
    refine ow_val (val_assign rfl) rfl ?_   -- 9
    refine ow_val (val_assign rfl) rfl ?_   -- 10
    refine ow_val (val_assign rfl) rfl ?_   -- 11
    refine ow_nil (into ?_)
    refine sw_seq ?_
    refine sw_region ?_
    refine ow_val (val_fieldAddr (m := 0) (e := 0) rfl Tryd.underlying27 rfl rfl Tryd.sizeOf3 rfl) rfl ?_   -- 91
    refine ow_val (val_load_at 1 rfl rfl Tryd.isAgg3 rfl) rfl ?_   -- 92
    refine ow_val (val_fieldAddr (m := 0) (e := 33) rfl Tryd.underlying27 rfl rfl Tryd.sizeOf24 rfl) rfl ?_   -- 93
    refine ow_val (val_load_at 1 rfl rfl Tryd.isAgg24 (ask_33 hll)) rfl ?_   -- 94
    refine ow_val (val_fieldAddr (m := 0) (e := 34) rfl Tryd.underlying27 rfl rfl Tryd.sizeOf24 rfl) rfl ?_   -- 95
    refine ow_val (val_load_at 1 rfl rfl Tryd.isAgg24 (ask_34 hll)) rfl ?_   -- 96
    refine ow_val (val_fieldAddr (m := 31) (e := 1) rfl Tryd.underlying27 rfl rfl Tryd.sizeOf23 rfl) rfl ?_   -- 97
    refine ow_val (val_load_part 1 rfl rfl Tryd.isAgg23 Tryd.sizeOf23 (by show (List.map vU8 leaf).length = _; rw [List.length_map]; exact hll) (ask_leaf hll)) rfl ?_   -- 98
    refine ow_val (val_fieldAddr (m := 0) (e := 35) rfl Tryd.underlying27 rfl rfl Tryd.sizeOf25 rfl) rfl ?_   -- 99
    refine ow_val (val_load_at 1 rfl rfl Tryd.isAgg25 (ask_35 hll)) rfl ?_   -- 100
    refine ow_call_pure (callsTo Tryd.func18 rfl (by kernel_rfl) rfl) rfl (fun w hm => mroots_any (k : Int) leaf hll i n w (hK.mem0 hm) a proof.length c proof rfl hpl (hr.mem hm) (by omega) (by omega) (by omega)) ?_   -- 101
    refine ow_val (val_move rfl) rfl ?_   -- 90
    refine ow_val (val_extract rfl rfl) rfl ?_   -- 102
    refine ow_val (val_extract rfl rfl) rfl ?_   -- 103
    refine ow_val (val_extract rfl rfl) rfl ?_   -- 104
    refine ow_new (acts_alloc zD) rfl (fun b12 hb12 => ?_)   -- 12
    refine ow_new (acts_alloc zD) rfl (fun b13 hb13 => ?_)   -- 13
    refine ow_do_eq (does_store_all 1 rfl rfl rfl (one_u8s _) Tryd.sizeOf23 (by show (List.map vU8 ((rootsO (k : Int) i n leaf proof).1.1)).length = _; rw [List.length_map]; exact (rootsO_len hll hpl).1) (by show (List.map vU8 zeros32).length = _; rw [List.length_map]; exact zeros32_len)) ?_
    refine ow_do_eq (does_store_all 0 rfl rfl rfl (one_u8s _) Tryd.sizeOf23 (by show (List.map vU8 ((rootsO (k : Int) i n leaf proof).1.2)).length = _; rw [List.length_map]; exact (rootsO_len hll hpl).2) (by show (List.map vU8 zeros32).length = _; rw [List.length_map]; exact zeros32_len)) ?_
    refine ow_val (val_assign rfl) rfl ?_   -- 14
    refine ow_nil (into ?_)
    refine sw_seq ?_
    refine sw_seq ?_
    refine sw_region ?_
    refine ow_val (val_fieldAddr (m := 0) (e := 33) rfl Tryd.underlying27 rfl rfl Tryd.sizeOf24 rfl) rfl ?_   -- 105
    refine ow_val (val_load_at 3 rfl rfl Tryd.isAgg24 (ask_33 hll)) rfl ?_   -- 106
    refine ow_val ((val_eql_u64 rfl rfl).to (congrArg Value.bool (decide_eq_false (hi0)))) rfl ?_   -- 107
    refine ow_val (val_move rfl) rfl ?_   -- 108
    refine ow_guard_yes rfl rfl rfl ?_
    refine ow_val (val_fieldAddr (m := 0) (e := 33) rfl Tryd.underlying27 rfl rfl Tryd.sizeOf24 rfl) rfl ?_   -- 109
    refine ow_guard_yes rfl rfl rfl ?_
    refine ow_val (val_load_at 3 rfl rfl Tryd.isAgg24 (ask_33 hll)) rfl ?_   -- 110
    refine ow_guard_yes rfl rfl rfl ?_
    refine ow_val (val_fieldAddr (m := 0) (e := 34) rfl Tryd.underlying27 rfl rfl Tryd.sizeOf24 rfl) rfl ?_   -- 111
    refine ow_guard_yes rfl rfl rfl ?_
    refine ow_val (val_load_at 3 rfl rfl Tryd.isAgg24 (ask_34 hll)) rfl ?_   -- 112
    refine ow_guard_yes rfl rfl rfl ?_
    refine ow_val ((val_geq_u64 rfl rfl).to (congrArg Value.bool (decide_eq_true (hin)))) rfl ?_   -- 113
    refine ow_val (val_pick_false rfl rfl) rfl ?_   -- 114
    refine ow_nil (into ?_)
    refine sw_true rfl rfl ?_
    refine sw_seq ?_
    refine sw_region ?_
    refine ow_val (val_move rfl) rfl ?_   -- 115
    refine ow_val ((val_eql_int rfl rfl).to (congrArg Value.bool (decide_eq_true ((by omega))))) rfl ?_   -- 116
    refine ow_val (val_assign rfl) rfl ?_   -- 2
    refine ow_nil (into ?_)
    refine sw_ret (fun w hm => ?_)
    try dsimp only [thenP, blockP, Nat.beq, cond]
    exact ret_one _ rfl rfl ⟨rfl, hm.forgetAll⟩

theorem mcounts_b (k : Nat) (h1 : 1 ≤ k) (h2 : k ≤ 32) (leaf : List UInt8) (hll : leaf.length = 32) (i n : UInt64) (root : List UInt8) (hrl : root.length = 32) (w : World) (hK : KW w) (a : Option Addr) (c : Nat) (proof : List (List UInt8)) (hpl : ∀ d ∈ proof, d.length = 32) (hr : Rd w a (proof.flatMap fun d => d.map vU8)) (hc : proof.length ≤ c) (hl : proof.length < 9223372036854775808) (hb : (proof.length + 2) * 32 ≤ 140737488355328) (hfl : fm (k : Int) leaf = true) (hin : ¬ n ≤ i) (hi0 : i = 0) : Calls Tryd.prog 10 #[.agg (askC (k : Int) leaf i n (.slice a proof.length c) root).toArray] w fun e w' => ∃ v, e = .returned v ∧ v = .bool true ∧ Mem w [] [] w' := by
  refine calls_of_sw (vs := [.agg (askC (k : Int) leaf i n (.slice a proof.length c) root).toArray]) Tryd.func10 rfl Tryd.ntmps10 rfl (SW.begin ?_)
  refine sw_seq ?_
  refine sw_region ?_
  refine ow_new (acts_box rfl) rfl (fun b1 hb1 => ?_)   -- 1
  refine ow_val (val_assign rfl) rfl ?_   -- 2
  refine ow_nil (into ?_)
  refine sw_seq ?_
  refine sw_seq ?_
  refine sw_region ?_
  refine ow_call_pure (v := .bool true) (callsTo Tryd.func15 rfl (by kernel_rfl) rfl) rfl (fun w hm => awake_any w (hK.mem0 hm)) ?_   -- 15
  refine ow_val (val_not rfl) rfl ?_   -- 16
  refine ow_nil (into ?_)
  refine sw_false rfl rfl ?_
  refine sw_skip (into ?_)
  refine sw_seq ?_
  refine sw_seq ?_
  refine sw_region ?_
  refine ow_val (val_fieldAddr (m := 0) (e := 0) rfl Tryd.underlying27 rfl rfl Tryd.sizeOf3 rfl) rfl ?_   -- 17
  refine ow_val (val_load_at 0 rfl rfl Tryd.isAgg3 rfl) rfl ?_   -- 18
  refine ow_val (val_fieldAddr (m := 31) (e := 1) rfl Tryd.underlying27 rfl rfl Tryd.sizeOf23 rfl) rfl ?_   -- 19
  refine ow_val (val_load_part 0 rfl rfl Tryd.isAgg23 Tryd.sizeOf23 (by show (List.map vU8 leaf).length = _; rw [List.length_map]; exact hll) (ask_leaf hll)) rfl ?_   -- 20
  refine ow_call_pure (v := .bool true) (callsTo Tryd.func20 rfl (by kernel_rfl) rfl) rfl (fun w hm => (by have h := docForm_any (k : Int) leaf hll w; rw [hfl] at h; exact h)) ?_   -- 21
  refine ow_val (val_not rfl) rfl ?_   -- 22
  refine ow_nil (into ?_)
  refine sw_false rfl rfl ?_
  refine sw_skip (into ?_)
  refine sw_seq ?_
  refine sw_seq ?_
  refine sw_region ?_
  refine ow_val (val_fieldAddr (m := 0) (e := 35) rfl Tryd.underlying27 rfl rfl Tryd.sizeOf25 rfl) rfl ?_   -- 23
  refine ow_val (val_load_at 0 rfl rfl Tryd.isAgg25 (ask_35 hll)) rfl ?_   -- 24
  refine ow_val (val_len rfl Tryd.underlying25) rfl ?_   -- 25
  refine ow_val (val_move rfl) rfl ?_   -- 26
  refine ow_nil (into ?_)
  refine sw_block ?_
  refine sw_loop (σ := Nat) (fun j => j ≤ proof.length ∧ ∀ d ∈ proof.take j, fm (k : Int) d = true) (fun j => [(26, vInt (j : Int)), (25, vInt (proof.length : Int)), (1, .pointer (some ⟨b1, 0, none⟩))]) (fun _ => Mem w [] [some (b1, blk (askC (k : Int) leaf i n (.slice a proof.length c) root) 27)]) (fun j => proof.length - j) 0 ⟨Nat.zero_le _, fun d hd => by simp at hd⟩ ⟨rfl, rfl, rfl, trivial⟩ (fun w hm => hm) ?_
  rintro j ⟨hj, hpf⟩
  refine sw_seq ?_
  refine sw_region ?_
  refine ow_val (val_lss_int rfl rfl) rfl ?_   -- 27
  refine ow_nil (into ?_)
  refine sw_seq ?_
  refine sw_if rfl (fun h0 => ?_) (fun h0 => ?_)
  · -- then
    obtain ⟨ba, oa, rfl⟩ := hr.addr (by rw [flatMap_size proof (fun x hx => by rw [List.length_map]; exact hpl x hx)]; omega)
    refine sw_skip (into ?_)
    refine sw_seq ?_
    refine sw_block ?_
    refine sw_seq ?_
    refine sw_region ?_
    refine ow_val (val_move rfl) rfl ?_   -- 28
    refine ow_val (val_assign rfl) rfl ?_   -- 3
    refine ow_nil (into ?_)
    refine sw_seq ?_
    by_cases hfp0 : fm (k : Int) (proof.getD j default) = false
    · -- yes
      skip
      refine sw_region_lex _ [] [(0, 0), (2, 0), (4, 0), (1, 1), (3, 1), (5, 0), (6, 1), (7, 2), (8, 0)] (by kernel_rfl) (by kernel_rfl) (fun _ _ _ h => h) (fun _ h => h) (fun _ h => h.drawn _) ?_
      refine lw_pure rfl (val_fieldAddr (m := 0) (e := 0) rfl Tryd.underlying27 rfl rfl Tryd.sizeOf3 rfl) rfl ?_   -- 29
      refine lw_pure rfl (val_fieldAddr (m := 0) (e := 35) rfl Tryd.underlying27 rfl rfl Tryd.sizeOf25 rfl) rfl ?_   -- 31
      refine lw_pure rfl (val_move rfl) rfl ?_   -- 33
      refine lw_held rfl (val_load_at 0 rfl rfl Tryd.isAgg3 rfl) rfl ?_   -- 30
      refine lw_held rfl (val_load_at 0 rfl rfl Tryd.isAgg25 (ask_35 hll)) rfl ?_   -- 32
      refine lw_pure rfl (val_indexAddr_slice (j) (oa + j * 32) rfl rfl Tryd.underlying25 Tryd.sizeOf23 (by omega) (by omega) (by omega)) rfl ?_   -- 34
      refine lw_held rfl (val_load_elem (cells := fun d => d.map vU8) (l := proof) (o := oa) (i := j) rfl Tryd.isAgg23 Tryd.sizeOf23 (fun x hx => by rw [List.length_map]; exact hpl x hx) (by omega) (by omega) (fun w' hm => hr.mem hm)) rfl ?_   -- 35
      refine lw_call_pure rfl (callsTo Tryd.func20 rfl (by kernel_rfl) rfl) rfl (fun w hm => docForm_any (k : Int) (proof.getD j default) (hpl _ (getD_mem (by omega))) w) ?_   -- 36
      refine lw_pure rfl ((val_not rfl).to (congrArg Value.bool (show (!_) = true by rw [hfp0]; rfl))) rfl ?_   -- 37
      refine lw_nil (into ?_)
      refine sw_true rfl rfl ?_
      refine sw_seq ?_
      refine sw_region ?_
      refine ow_val (val_assign rfl) rfl ?_   -- 2
      refine ow_nil (into ?_)
      refine sw_ret (fun w hm => ?_)
      try dsimp only [thenP, blockP, Nat.beq, cond]
      exact ret_one _ rfl rfl ⟨rfl, hm.forgetAll⟩
    · -- no
      have hfp := (Bool.not_eq_false _).mp hfp0
      refine sw_region_lex _ [] [(0, 0), (2, 0), (4, 0), (1, 1), (3, 1), (5, 0), (6, 1), (7, 2), (8, 0)] (by kernel_rfl) (by kernel_rfl) (fun _ _ _ h => h) (fun _ h => h) (fun _ h => h.drawn _) ?_
      refine lw_pure rfl (val_fieldAddr (m := 0) (e := 0) rfl Tryd.underlying27 rfl rfl Tryd.sizeOf3 rfl) rfl ?_   -- 29
      refine lw_pure rfl (val_fieldAddr (m := 0) (e := 35) rfl Tryd.underlying27 rfl rfl Tryd.sizeOf25 rfl) rfl ?_   -- 31
      refine lw_pure rfl (val_move rfl) rfl ?_   -- 33
      refine lw_held rfl (val_load_at 0 rfl rfl Tryd.isAgg3 rfl) rfl ?_   -- 30
      refine lw_held rfl (val_load_at 0 rfl rfl Tryd.isAgg25 (ask_35 hll)) rfl ?_   -- 32
      refine lw_pure rfl (val_indexAddr_slice (j) (oa + j * 32) rfl rfl Tryd.underlying25 Tryd.sizeOf23 (by omega) (by omega) (by omega)) rfl ?_   -- 34
      refine lw_held rfl (val_load_elem (cells := fun d => d.map vU8) (l := proof) (o := oa) (i := j) rfl Tryd.isAgg23 Tryd.sizeOf23 (fun x hx => by rw [List.length_map]; exact hpl x hx) (by omega) (by omega) (fun w' hm => hr.mem hm)) rfl ?_   -- 35
      refine lw_call_pure rfl (callsTo Tryd.func20 rfl (by kernel_rfl) rfl) rfl (fun w hm => docForm_any (k : Int) (proof.getD j default) (hpl _ (getD_mem (by omega))) w) ?_   -- 36
      refine lw_pure rfl ((val_not rfl).to (congrArg Value.bool (show (!_) = false by rw [(Bool.not_eq_false _).mp hfp0]; rfl))) rfl ?_   -- 37
      refine lw_nil (into ?_)
      refine sw_false rfl rfl ?_
      refine sw_skip (into ?_)
      refine sw_region ?_
      refine ow_val (val_add_int ((j + 1 : Nat) : Int) rfl rfl (by omega) (by omega)) rfl ?_   -- 38
      refine ow_val (val_move rfl) rfl ?_   -- 26
      exact ow_nil (fun w hm => ⟨j + 1, ⟨by omega, fun d hd => by rw [List.take_succ_eq_append_getElem (by omega), List.mem_append] at hd; rcases hd with hd | hd; exact hpf d hd; rw [List.mem_singleton] at hd; subst hd; simpa [List.getD_eq_getElem?_getD, show j < proof.length by omega] using hfp⟩, by omega, ⟨rfl, rfl, rfl, trivial⟩, hm⟩)
  · -- else
    obtain rfl : j = proof.length := by omega
    rw [List.take_length] at hpf
    have ⟨hC1, hR1, hf1⟩ := cnt_B h1 h2 hfl hpf hin
    have hR2 := cnt_Z (n := n) h1 h2 hfl hpf hi0
    refine sw_exit (into ?_)
    refine sw_seq ?_
    refine sw_region ?_
    refine ow_val (val_fieldAddr (m := 0) (e := 33) rfl Tryd.underlying27 rfl rfl Tryd.sizeOf24 rfl) rfl ?_   -- 40
    refine ow_val (val_load_at 0 rfl rfl Tryd.isAgg24 (ask_33 hll)) rfl ?_   -- 41
    refine ow_val (val_fieldAddr (m := 0) (e := 34) rfl Tryd.underlying27 rfl rfl Tryd.sizeOf24 rfl) rfl ?_   -- 42
    refine ow_val (val_load_at 0 rfl rfl Tryd.isAgg24 (ask_34 hll)) rfl ?_   -- 43
    refine ow_call_pure (callsTo Tryd.func26 rfl (by kernel_rfl) rfl) rfl (fun w hm => counts_any i 0 n w) ?_   -- 44
    refine ow_val (val_move rfl) rfl ?_   -- 39
    refine ow_val (val_extract rfl rfl) rfl ?_   -- 45
    refine ow_val (val_extract rfl rfl) rfl ?_   -- 46
    refine ow_val (val_extract rfl rfl) rfl ?_   -- 47
    refine ow_val (val_assign rfl) rfl ?_   -- 4
    refine ow_val (val_assign rfl) rfl ?_   -- 5
    refine ow_val (val_assign rfl) rfl ?_   -- 6
    refine ow_nil (into ?_)
    refine sw_seq ?_
    refine sw_region ?_
    refine ow_val (val_fieldAddr (m := 0) (e := 0) rfl Tryd.underlying27 rfl rfl Tryd.sizeOf3 rfl) rfl ?_   -- 49
    refine ow_val (val_load_at 0 rfl rfl Tryd.isAgg3 rfl) rfl ?_   -- 50
    refine ow_val (val_fieldAddr (m := 31) (e := 1) rfl Tryd.underlying27 rfl rfl Tryd.sizeOf23 rfl) rfl ?_   -- 51
    refine ow_val (val_load_part 0 rfl rfl Tryd.isAgg23 Tryd.sizeOf23 (by show (List.map vU8 leaf).length = _; rw [List.length_map]; exact hll) (ask_leaf hll)) rfl ?_   -- 52
    refine ow_val (val_fieldAddr (m := 0) (e := 33) rfl Tryd.underlying27 rfl rfl Tryd.sizeOf24 rfl) rfl ?_   -- 53
    refine ow_val (val_load_at 0 rfl rfl Tryd.isAgg24 (ask_33 hll)) rfl ?_   -- 54
    refine ow_val (val_fieldAddr (m := 0) (e := 34) rfl Tryd.underlying27 rfl rfl Tryd.sizeOf24 rfl) rfl ?_   -- 55
    refine ow_val (val_load_at 0 rfl rfl Tryd.isAgg24 (ask_34 hll)) rfl ?_   -- 56
    refine ow_val (val_fieldAddr (m := 0) (e := 35) rfl Tryd.underlying27 rfl rfl Tryd.sizeOf25 rfl) rfl ?_   -- 57
    refine ow_val (val_load_at 0 rfl rfl Tryd.isAgg25 (ask_35 hll)) rfl ?_   -- 58
    refine ow_call_pure (callsTo Tryd.func12 rfl (by kernel_rfl) rfl) rfl (fun w hm => mroot_any (k : Int) leaf hll i n w (hK.mem0 hm) a proof.length c proof rfl hpl (hr.mem hm) (by omega) (by omega) (by omega)) ?_   -- 59
    refine ow_val (val_move rfl) rfl ?_   -- 48
    refine ow_val (val_extract rfl rfl) rfl ?_   -- 60
    refine ow_val (val_extract rfl rfl) rfl ?_   -- 61
    refine ow_new (acts_alloc zD) rfl (fun b7 hb7 => ?_)   -- 7
    refine ow_do_eq (does_store_all 0 rfl rfl rfl (one_u8s _) Tryd.sizeOf23 (by show (List.map vU8 ((rootO (k : Int) leaf i n proof).1)).length = _; rw [List.length_map]; exact (rootO_len hll)) (by show (List.map vU8 zeros32).length = _; rw [List.length_map]; exact zeros32_len)) ?_
    refine ow_val (val_assign rfl) rfl ?_   -- 8
    refine ow_nil (into ?_)
    refine sw_seq ?_
    refine sw_seq ?_
    refine sw_region ?_
    refine ow_val (val_move rfl) rfl ?_   -- 62
    refine ow_val ((val_eql_int rfl rfl).to (congrArg Value.bool (decide_eq_false ((by omega))))) rfl ?_   -- 63
    refine ow_val (val_move rfl) rfl ?_   -- 64
    refine ow_val ((val_eql_int rfl rfl).to (congrArg Value.bool (decide_eq_false ((by omega))))) rfl ?_   -- 65
    refine ow_val (val_neq_bool Tryd.underlying4 rfl rfl) rfl ?_   -- 66
    refine ow_val (val_move rfl) rfl ?_   -- 67
    refine ow_guard_yes rfl rfl rfl ?_
    refine ow_val (val_move rfl) rfl ?_   -- 68
    refine ow_guard_yes rfl rfl rfl ?_
    refine ow_val ((val_eql_int rfl rfl).to (congrArg Value.bool (decide_eq_true ((by omega))))) rfl ?_   -- 69
    refine ow_guard_yes rfl rfl rfl ?_
    refine ow_val (val_move rfl) rfl ?_   -- 70
    refine ow_guard_yes rfl rfl rfl ?_
    refine ow_val (val_move rfl) rfl ?_   -- 71
    refine ow_guard_yes rfl rfl rfl ?_
    refine ow_val (val_eql_int rfl rfl) rfl ?_   -- 72
    refine ow_guard_yes rfl rfl rfl ?_
    refine ow_val (val_fieldAddr (m := 0) (e := 35) rfl Tryd.underlying27 rfl rfl Tryd.sizeOf25 rfl) rfl ?_   -- 73
    refine ow_guard_yes rfl rfl rfl ?_
    refine ow_val (val_load_at 1 rfl rfl Tryd.isAgg25 (ask_35 hll)) rfl ?_   -- 74
    refine ow_guard_yes rfl rfl rfl ?_
    refine ow_val (val_len rfl Tryd.underlying25) rfl ?_   -- 75
    refine ow_guard_yes rfl rfl rfl ?_
    refine ow_val (val_move rfl) rfl ?_   -- 76
    refine ow_guard_yes rfl rfl rfl ?_
    refine ow_val (val_eql_int rfl rfl) rfl ?_   -- 77
    refine ow_guard_yes rfl rfl rfl ?_
    refine ow_val ((val_neq_bool Tryd.underlying4 rfl rfl).to (congrArg Value.bool (bne_eq_false_iff_eq.2 (decide_eq_decide.2 hf1)))) rfl ?_   -- 78
    refine ow_guard_yes rfl rfl rfl ?_
    refine ow_val (val_pick_true rfl rfl) rfl ?_   -- 79
    refine ow_val (val_pick_false rfl rfl) rfl ?_   -- 80
    refine ow_nil (into ?_)
    refine sw_false rfl rfl ?_
    refine sw_skip (into ?_)
    refine sw_seq ?_
    refine sw_region ?_
    refine ow_val (val_fieldAddr (m := 0) (e := 33) rfl Tryd.underlying27 rfl rfl Tryd.sizeOf24 rfl) rfl ?_   -- 82
    refine ow_val (val_load_at 1 rfl rfl Tryd.isAgg24 (ask_33 hll)) rfl ?_   -- 83
    refine ow_val (val_fieldAddr (m := 0) (e := 34) rfl Tryd.underlying27 rfl rfl Tryd.sizeOf24 rfl) rfl ?_   -- 84
    refine ow_val (val_load_at 1 rfl rfl Tryd.isAgg24 (ask_34 hll)) rfl ?_   -- 85
    refine ow_call_pure (callsTo Tryd.func26 rfl (by kernel_rfl) rfl) rfl (fun w hm => counts_any 0 i n w) ?_   -- 86
    refine ow_val (val_move rfl) rfl ?_   -- 81
    refine ow_val (val_extract rfl rfl) rfl ?_   -- 87
    refine ow_val (val_extract rfl rfl) rfl ?_   -- 88
    refine ow_val (val_extract rfl rfl) rfl ?_   -- 89
    refine ow_val (val_assign rfl) rfl ?_   -- 9
    refine ow_val (val_assign rfl) rfl ?_   -- 10
    refine ow_val (val_assign rfl) rfl ?_   -- 11
    refine ow_nil (into ?_)
    refine sw_seq ?_
    refine sw_region ?_
    refine ow_val (val_fieldAddr (m := 0) (e := 0) rfl Tryd.underlying27 rfl rfl Tryd.sizeOf3 rfl) rfl ?_   -- 91
    refine ow_val (val_load_at 1 rfl rfl Tryd.isAgg3 rfl) rfl ?_   -- 92
    refine ow_val (val_fieldAddr (m := 0) (e := 33) rfl Tryd.underlying27 rfl rfl Tryd.sizeOf24 rfl) rfl ?_   -- 93
    refine ow_val (val_load_at 1 rfl rfl Tryd.isAgg24 (ask_33 hll)) rfl ?_   -- 94
    refine ow_val (val_fieldAddr (m := 0) (e := 34) rfl Tryd.underlying27 rfl rfl Tryd.sizeOf24 rfl) rfl ?_   -- 95
    refine ow_val (val_load_at 1 rfl rfl Tryd.isAgg24 (ask_34 hll)) rfl ?_   -- 96
    refine ow_val (val_fieldAddr (m := 31) (e := 1) rfl Tryd.underlying27 rfl rfl Tryd.sizeOf23 rfl) rfl ?_   -- 97
    refine ow_val (val_load_part 1 rfl rfl Tryd.isAgg23 Tryd.sizeOf23 (by show (List.map vU8 leaf).length = _; rw [List.length_map]; exact hll) (ask_leaf hll)) rfl ?_   -- 98
    refine ow_val (val_fieldAddr (m := 0) (e := 35) rfl Tryd.underlying27 rfl rfl Tryd.sizeOf25 rfl) rfl ?_   -- 99
    refine ow_val (val_load_at 1 rfl rfl Tryd.isAgg25 (ask_35 hll)) rfl ?_   -- 100
    refine ow_call_pure (callsTo Tryd.func18 rfl (by kernel_rfl) rfl) rfl (fun w hm => mroots_any (k : Int) leaf hll i n w (hK.mem0 hm) a proof.length c proof rfl hpl (hr.mem hm) (by omega) (by omega) (by omega)) ?_   -- 101
    refine ow_val (val_move rfl) rfl ?_   -- 90
    refine ow_val (val_extract rfl rfl) rfl ?_   -- 102
    refine ow_val (val_extract rfl rfl) rfl ?_   -- 103
    refine ow_val (val_extract rfl rfl) rfl ?_   -- 104
    refine ow_new (acts_alloc zD) rfl (fun b12 hb12 => ?_)   -- 12
    refine ow_new (acts_alloc zD) rfl (fun b13 hb13 => ?_)   -- 13
    refine ow_do_eq (does_store_all 1 rfl rfl rfl (one_u8s _) Tryd.sizeOf23 (by show (List.map vU8 ((rootsO (k : Int) i n leaf proof).1.1)).length = _; rw [List.length_map]; exact (rootsO_len hll hpl).1) (by show (List.map vU8 zeros32).length = _; rw [List.length_map]; exact zeros32_len)) ?_
    refine ow_do_eq (does_store_all 0 rfl rfl rfl (one_u8s _) Tryd.sizeOf23 (by show (List.map vU8 ((rootsO (k : Int) i n leaf proof).1.2)).length = _; rw [List.length_map]; exact (rootsO_len hll hpl).2) (by show (List.map vU8 zeros32).length = _; rw [List.length_map]; exact zeros32_len)) ?_
    refine ow_val (val_assign rfl) rfl ?_   -- 14
    refine ow_nil (into ?_)
    refine sw_seq ?_
    refine sw_seq ?_
    refine sw_region ?_
    refine ow_val (val_fieldAddr (m := 0) (e := 33) rfl Tryd.underlying27 rfl rfl Tryd.sizeOf24 rfl) rfl ?_   -- 105
    refine ow_val (val_load_at 3 rfl rfl Tryd.isAgg24 (ask_33 hll)) rfl ?_   -- 106
    refine ow_val ((val_eql_u64 rfl rfl).to (congrArg Value.bool (decide_eq_true (hi0)))) rfl ?_   -- 107
    refine ow_val (val_move rfl) rfl ?_   -- 108
    first | refine ow_guard_no rfl rfl rfl rfl rfl ?_ | refine ow_guard_none rfl rfl rfl rfl rfl ?_
    first | refine ow_guard_no rfl rfl rfl rfl rfl ?_ | refine ow_guard_none rfl rfl rfl rfl rfl ?_
    first | refine ow_guard_no rfl rfl rfl rfl rfl ?_ | refine ow_guard_none rfl rfl rfl rfl rfl ?_
    first | refine ow_guard_no rfl rfl rfl rfl rfl ?_ | refine ow_guard_none rfl rfl rfl rfl rfl ?_
    first | refine ow_guard_no rfl rfl rfl rfl rfl ?_ | refine ow_guard_none rfl rfl rfl rfl rfl ?_
    refine ow_val (val_pick_true rfl rfl) rfl ?_   -- 114
    refine ow_nil (into ?_)
    refine sw_true rfl rfl ?_
    refine sw_seq ?_
    refine sw_region ?_
    refine ow_val (val_move rfl) rfl ?_   -- 115
    refine ow_val ((val_eql_int rfl rfl).to (congrArg Value.bool (decide_eq_true ((by omega))))) rfl ?_   -- 116
    refine ow_val (val_assign rfl) rfl ?_   -- 2
    refine ow_nil (into ?_)
    refine sw_ret (fun w hm => ?_)
    try dsimp only [thenP, blockP, Nat.beq, cond]
    exact ret_one _ rfl rfl ⟨rfl, hm.forgetAll⟩

theorem mcounts_c (k : Nat) (h1 : 1 ≤ k) (h2 : k ≤ 32) (leaf : List UInt8) (hll : leaf.length = 32) (i n : UInt64) (root : List UInt8) (hrl : root.length = 32) (w : World) (hK : KW w) (a : Option Addr) (c : Nat) (proof : List (List UInt8)) (hpl : ∀ d ∈ proof, d.length = 32) (hr : Rd w a (proof.flatMap fun d => d.map vU8)) (hc : proof.length ≤ c) (hl : proof.length < 9223372036854775808) (hb : (proof.length + 2) * 32 ≤ 140737488355328) (hfl : fm (k : Int) leaf = true) (hin : ¬ n ≤ i) (hi0 : ¬ i = 0) : Calls Tryd.prog 10 #[.agg (askC (k : Int) leaf i n (.slice a proof.length c) root).toArray] w fun e w' => ∃ v, e = .returned v ∧ v = .bool true ∧ Mem w [] [] w' := by
  refine calls_of_sw (vs := [.agg (askC (k : Int) leaf i n (.slice a proof.length c) root).toArray]) Tryd.func10 rfl Tryd.ntmps10 rfl (SW.begin ?_)
  refine sw_seq ?_
  refine sw_region ?_
  refine ow_new (acts_box rfl) rfl (fun b1 hb1 => ?_)   -- 1
  refine ow_val (val_assign rfl) rfl ?_   -- 2
  refine ow_nil (into ?_)
  refine sw_seq ?_
  refine sw_seq ?_
  refine sw_region ?_
  refine ow_call_pure (v := .bool true) (callsTo Tryd.func15 rfl (by kernel_rfl) rfl) rfl (fun w hm => awake_any w (hK.mem0 hm)) ?_   -- 15
  refine ow_val (val_not rfl) rfl ?_   -- 16
  refine ow_nil (into ?_)
  refine sw_false rfl rfl ?_
  refine sw_skip (into ?_)
  refine sw_seq ?_
  refine sw_seq ?_
  refine sw_region ?_
  refine ow_val (val_fieldAddr (m := 0) (e := 0) rfl Tryd.underlying27 rfl rfl Tryd.sizeOf3 rfl) rfl ?_   -- 17
  refine ow_val (val_load_at 0 rfl rfl Tryd.isAgg3 rfl) rfl ?_   -- 18
  refine ow_val (val_fieldAddr (m := 31) (e := 1) rfl Tryd.underlying27 rfl rfl Tryd.sizeOf23 rfl) rfl ?_   -- 19
  refine ow_val (val_load_part 0 rfl rfl Tryd.isAgg23 Tryd.sizeOf23 (by show (List.map vU8 leaf).length = _; rw [List.length_map]; exact hll) (ask_leaf hll)) rfl ?_   -- 20
  refine ow_call_pure (v := .bool true) (callsTo Tryd.func20 rfl (by kernel_rfl) rfl) rfl (fun w hm => (by have h := docForm_any (k : Int) leaf hll w; rw [hfl] at h; exact h)) ?_   -- 21
  refine ow_val (val_not rfl) rfl ?_   -- 22
  refine ow_nil (into ?_)
  refine sw_false rfl rfl ?_
  refine sw_skip (into ?_)
  refine sw_seq ?_
  refine sw_seq ?_
  refine sw_region ?_
  refine ow_val (val_fieldAddr (m := 0) (e := 35) rfl Tryd.underlying27 rfl rfl Tryd.sizeOf25 rfl) rfl ?_   -- 23
  refine ow_val (val_load_at 0 rfl rfl Tryd.isAgg25 (ask_35 hll)) rfl ?_   -- 24
  refine ow_val (val_len rfl Tryd.underlying25) rfl ?_   -- 25
  refine ow_val (val_move rfl) rfl ?_   -- 26
  refine ow_nil (into ?_)
  refine sw_block ?_
  refine sw_loop (σ := Nat) (fun j => j ≤ proof.length ∧ ∀ d ∈ proof.take j, fm (k : Int) d = true) (fun j => [(26, vInt (j : Int)), (25, vInt (proof.length : Int)), (1, .pointer (some ⟨b1, 0, none⟩))]) (fun _ => Mem w [] [some (b1, blk (askC (k : Int) leaf i n (.slice a proof.length c) root) 27)]) (fun j => proof.length - j) 0 ⟨Nat.zero_le _, fun d hd => by simp at hd⟩ ⟨rfl, rfl, rfl, trivial⟩ (fun w hm => hm) ?_
  rintro j ⟨hj, hpf⟩
  refine sw_seq ?_
  refine sw_region ?_
  refine ow_val (val_lss_int rfl rfl) rfl ?_   -- 27
  refine ow_nil (into ?_)
  refine sw_seq ?_
  refine sw_if rfl (fun h0 => ?_) (fun h0 => ?_)
  · -- then
    obtain ⟨ba, oa, rfl⟩ := hr.addr (by rw [flatMap_size proof (fun x hx => by rw [List.length_map]; exact hpl x hx)]; omega)
    refine sw_skip (into ?_)
    refine sw_seq ?_
    refine sw_block ?_
    refine sw_seq ?_
    refine sw_region ?_
    refine ow_val (val_move rfl) rfl ?_   -- 28
    refine ow_val (val_assign rfl) rfl ?_   -- 3
    refine ow_nil (into ?_)
    refine sw_seq ?_
    by_cases hfp0 : fm (k : Int) (proof.getD j default) = false
    · -- yes
      skip
      refine sw_region_lex _ [] [(0, 0), (2, 0), (4, 0), (1, 1), (3, 1), (5, 0), (6, 1), (7, 2), (8, 0)] (by kernel_rfl) (by kernel_rfl) (fun _ _ _ h => h) (fun _ h => h) (fun _ h => h.drawn _) ?_
      refine lw_pure rfl (val_fieldAddr (m := 0) (e := 0) rfl Tryd.underlying27 rfl rfl Tryd.sizeOf3 rfl) rfl ?_   -- 29
      refine lw_pure rfl (val_fieldAddr (m := 0) (e := 35) rfl Tryd.underlying27 rfl rfl Tryd.sizeOf25 rfl) rfl ?_   -- 31
      refine lw_pure rfl (val_move rfl) rfl ?_   -- 33
      refine lw_held rfl (val_load_at 0 rfl rfl Tryd.isAgg3 rfl) rfl ?_   -- 30
      refine lw_held rfl (val_load_at 0 rfl rfl Tryd.isAgg25 (ask_35 hll)) rfl ?_   -- 32
      refine lw_pure rfl (val_indexAddr_slice (j) (oa + j * 32) rfl rfl Tryd.underlying25 Tryd.sizeOf23 (by omega) (by omega) (by omega)) rfl ?_   -- 34
      refine lw_held rfl (val_load_elem (cells := fun d => d.map vU8) (l := proof) (o := oa) (i := j) rfl Tryd.isAgg23 Tryd.sizeOf23 (fun x hx => by rw [List.length_map]; exact hpl x hx) (by omega) (by omega) (fun w' hm => hr.mem hm)) rfl ?_   -- 35
      refine lw_call_pure rfl (callsTo Tryd.func20 rfl (by kernel_rfl) rfl) rfl (fun w hm => docForm_any (k : Int) (proof.getD j default) (hpl _ (getD_mem (by omega))) w) ?_   -- 36
      refine lw_pure rfl ((val_not rfl).to (congrArg Value.bool (show (!_) = true by rw [hfp0]; rfl))) rfl ?_   -- 37
      refine lw_nil (into ?_)
      refine sw_true rfl rfl ?_
      refine sw_seq ?_
      refine sw_region ?_
      refine ow_val (val_assign rfl) rfl ?_   -- 2
      refine ow_nil (into ?_)
      refine sw_ret (fun w hm => ?_)
      try dsimp only [thenP, blockP, Nat.beq, cond]
      exact ret_one _ rfl rfl ⟨rfl, hm.forgetAll⟩
    · -- no
      have hfp := (Bool.not_eq_false _).mp hfp0
      refine sw_region_lex _ [] [(0, 0), (2, 0), (4, 0), (1, 1), (3, 1), (5, 0), (6, 1), (7, 2), (8, 0)] (by kernel_rfl) (by kernel_rfl) (fun _ _ _ h => h) (fun _ h => h) (fun _ h => h.drawn _) ?_
      refine lw_pure rfl (val_fieldAddr (m := 0) (e := 0) rfl Tryd.underlying27 rfl rfl Tryd.sizeOf3 rfl) rfl ?_   -- 29
      refine lw_pure rfl (val_fieldAddr (m := 0) (e := 35) rfl Tryd.underlying27 rfl rfl Tryd.sizeOf25 rfl) rfl ?_   -- 31
      refine lw_pure rfl (val_move rfl) rfl ?_   -- 33
      refine lw_held rfl (val_load_at 0 rfl rfl Tryd.isAgg3 rfl) rfl ?_   -- 30
      refine lw_held rfl (val_load_at 0 rfl rfl Tryd.isAgg25 (ask_35 hll)) rfl ?_   -- 32
      refine lw_pure rfl (val_indexAddr_slice (j) (oa + j * 32) rfl rfl Tryd.underlying25 Tryd.sizeOf23 (by omega) (by omega) (by omega)) rfl ?_   -- 34
      refine lw_held rfl (val_load_elem (cells := fun d => d.map vU8) (l := proof) (o := oa) (i := j) rfl Tryd.isAgg23 Tryd.sizeOf23 (fun x hx => by rw [List.length_map]; exact hpl x hx) (by omega) (by omega) (fun w' hm => hr.mem hm)) rfl ?_   -- 35
      refine lw_call_pure rfl (callsTo Tryd.func20 rfl (by kernel_rfl) rfl) rfl (fun w hm => docForm_any (k : Int) (proof.getD j default) (hpl _ (getD_mem (by omega))) w) ?_   -- 36
      refine lw_pure rfl ((val_not rfl).to (congrArg Value.bool (show (!_) = false by rw [(Bool.not_eq_false _).mp hfp0]; rfl))) rfl ?_   -- 37
      refine lw_nil (into ?_)
      refine sw_false rfl rfl ?_
      refine sw_skip (into ?_)
      refine sw_region ?_
      refine ow_val (val_add_int ((j + 1 : Nat) : Int) rfl rfl (by omega) (by omega)) rfl ?_   -- 38
      refine ow_val (val_move rfl) rfl ?_   -- 26
      exact ow_nil (fun w hm => ⟨j + 1, ⟨by omega, fun d hd => by rw [List.take_succ_eq_append_getElem (by omega), List.mem_append] at hd; rcases hd with hd | hd; exact hpf d hd; rw [List.mem_singleton] at hd; subst hd; simpa [List.getD_eq_getElem?_getD, show j < proof.length by omega] using hfp⟩, by omega, ⟨rfl, rfl, rfl, trivial⟩, hm⟩)
  · -- else
    obtain rfl : j = proof.length := by omega
    rw [List.take_length] at hpf
    have ⟨hC1, hR1, hf1⟩ := cnt_B h1 h2 hfl hpf hin
    have ⟨hC2, hR2, hf2⟩ := cnt_C h1 h2 hfl hpf hin hi0
    refine sw_exit (into ?_)
    refine sw_seq ?_
    refine sw_region ?_
    refine ow_val (val_fieldAddr (m := 0) (e := 33) rfl Tryd.underlying27 rfl rfl Tryd.sizeOf24 rfl) rfl ?_   -- 40
    refine ow_val (val_load_at 0 rfl rfl Tryd.isAgg24 (ask_33 hll)) rfl ?_   -- 41
    refine ow_val (val_fieldAddr (m := 0) (e := 34) rfl Tryd.underlying27 rfl rfl Tryd.sizeOf24 rfl) rfl ?_   -- 42
    refine ow_val (val_load_at 0 rfl rfl Tryd.isAgg24 (ask_34 hll)) rfl ?_   -- 43
    refine ow_call_pure (callsTo Tryd.func26 rfl (by kernel_rfl) rfl) rfl (fun w hm => counts_any i 0 n w) ?_   -- 44
    refine ow_val (val_move rfl) rfl ?_   -- 39
    refine ow_val (val_extract rfl rfl) rfl ?_   -- 45
    refine ow_val (val_extract rfl rfl) rfl ?_   -- 46
    refine ow_val (val_extract rfl rfl) rfl ?_   -- 47
    refine ow_val (val_assign rfl) rfl ?_   -- 4
    refine ow_val (val_assign rfl) rfl ?_   -- 5
    refine ow_val (val_assign rfl) rfl ?_   -- 6
    refine ow_nil (into ?_)
    refine sw_seq ?_
    refine sw_region ?_
    refine ow_val (val_fieldAddr (m := 0) (e := 0) rfl Tryd.underlying27 rfl rfl Tryd.sizeOf3 rfl) rfl ?_   -- 49
    refine ow_val (val_load_at 0 rfl rfl Tryd.isAgg3 rfl) rfl ?_   -- 50
    refine ow_val (val_fieldAddr (m := 31) (e := 1) rfl Tryd.underlying27 rfl rfl Tryd.sizeOf23 rfl) rfl ?_   -- 51
    refine ow_val (val_load_part 0 rfl rfl Tryd.isAgg23 Tryd.sizeOf23 (by show (List.map vU8 leaf).length = _; rw [List.length_map]; exact hll) (ask_leaf hll)) rfl ?_   -- 52
    refine ow_val (val_fieldAddr (m := 0) (e := 33) rfl Tryd.underlying27 rfl rfl Tryd.sizeOf24 rfl) rfl ?_   -- 53
    refine ow_val (val_load_at 0 rfl rfl Tryd.isAgg24 (ask_33 hll)) rfl ?_   -- 54
    refine ow_val (val_fieldAddr (m := 0) (e := 34) rfl Tryd.underlying27 rfl rfl Tryd.sizeOf24 rfl) rfl ?_   -- 55
    refine ow_val (val_load_at 0 rfl rfl Tryd.isAgg24 (ask_34 hll)) rfl ?_   -- 56
    refine ow_val (val_fieldAddr (m := 0) (e := 35) rfl Tryd.underlying27 rfl rfl Tryd.sizeOf25 rfl) rfl ?_   -- 57
    refine ow_val (val_load_at 0 rfl rfl Tryd.isAgg25 (ask_35 hll)) rfl ?_   -- 58
    refine ow_call_pure (callsTo Tryd.func12 rfl (by kernel_rfl) rfl) rfl (fun w hm => mroot_any (k : Int) leaf hll i n w (hK.mem0 hm) a proof.length c proof rfl hpl (hr.mem hm) (by omega) (by omega) (by omega)) ?_   -- 59
    refine ow_val (val_move rfl) rfl ?_   -- 48
    refine ow_val (val_extract rfl rfl) rfl ?_   -- 60
    refine ow_val (val_extract rfl rfl) rfl ?_   -- 61
    refine ow_new (acts_alloc zD) rfl (fun b7 hb7 => ?_)   -- 7
    refine ow_do_eq (does_store_all 0 rfl rfl rfl (one_u8s _) Tryd.sizeOf23 (by show (List.map vU8 ((rootO (k : Int) leaf i n proof).1)).length = _; rw [List.length_map]; exact (rootO_len hll)) (by show (List.map vU8 zeros32).length = _; rw [List.length_map]; exact zeros32_len)) ?_
    refine ow_val (val_assign rfl) rfl ?_   -- 8
    refine ow_nil (into ?_)
    refine sw_seq ?_
    refine sw_seq ?_
    refine sw_region ?_
    refine ow_val (val_move rfl) rfl ?_   -- 62
    refine ow_val ((val_eql_int rfl rfl).to (congrArg Value.bool (decide_eq_false ((by omega))))) rfl ?_   -- 63
    refine ow_val (val_move rfl) rfl ?_   -- 64
    refine ow_val ((val_eql_int rfl rfl).to (congrArg Value.bool (decide_eq_false ((by omega))))) rfl ?_   -- 65
    refine ow_val (val_neq_bool Tryd.underlying4 rfl rfl) rfl ?_   -- 66
    refine ow_val (val_move rfl) rfl ?_   -- 67
    refine ow_guard_yes rfl rfl rfl ?_
    refine ow_val (val_move rfl) rfl ?_   -- 68
    refine ow_guard_yes rfl rfl rfl ?_
    refine ow_val ((val_eql_int rfl rfl).to (congrArg Value.bool (decide_eq_true ((by omega))))) rfl ?_   -- 69
    refine ow_guard_yes rfl rfl rfl ?_
    refine ow_val (val_move rfl) rfl ?_   -- 70
    refine ow_guard_yes rfl rfl rfl ?_
    refine ow_val (val_move rfl) rfl ?_   -- 71
    refine ow_guard_yes rfl rfl rfl ?_
    refine ow_val (val_eql_int rfl rfl) rfl ?_   -- 72
    refine ow_guard_yes rfl rfl rfl ?_
    refine ow_val (val_fieldAddr (m := 0) (e := 35) rfl Tryd.underlying27 rfl rfl Tryd.sizeOf25 rfl) rfl ?_   -- 73
    refine ow_guard_yes rfl rfl rfl ?_
    refine ow_val (val_load_at 1 rfl rfl Tryd.isAgg25 (ask_35 hll)) rfl ?_   -- 74
    refine ow_guard_yes rfl rfl rfl ?_
    refine ow_val (val_len rfl Tryd.underlying25) rfl ?_   -- 75
    refine ow_guard_yes rfl rfl rfl ?_
    refine ow_val (val_move rfl) rfl ?_   -- 76
    refine ow_guard_yes rfl rfl rfl ?_
    refine ow_val (val_eql_int rfl rfl) rfl ?_   -- 77
    refine ow_guard_yes rfl rfl rfl ?_
    refine ow_val ((val_neq_bool Tryd.underlying4 rfl rfl).to (congrArg Value.bool (bne_eq_false_iff_eq.2 (decide_eq_decide.2 hf1)))) rfl ?_   -- 78
    refine ow_guard_yes rfl rfl rfl ?_
    refine ow_val (val_pick_true rfl rfl) rfl ?_   -- 79
    refine ow_val (val_pick_false rfl rfl) rfl ?_   -- 80
    refine ow_nil (into ?_)
    refine sw_false rfl rfl ?_
    refine sw_skip (into ?_)
    refine sw_seq ?_
    refine sw_region ?_
    refine ow_val (val_fieldAddr (m := 0) (e := 33) rfl Tryd.underlying27 rfl rfl Tryd.sizeOf24 rfl) rfl ?_   -- 82
    refine ow_val (val_load_at 1 rfl rfl Tryd.isAgg24 (ask_33 hll)) rfl ?_   -- 83
    refine ow_val (val_fieldAddr (m := 0) (e := 34) rfl Tryd.underlying27 rfl rfl Tryd.sizeOf24 rfl) rfl ?_   -- 84
    refine ow_val (val_load_at 1 rfl rfl Tryd.isAgg24 (ask_34 hll)) rfl ?_   -- 85
    refine ow_call_pure (callsTo Tryd.func26 rfl (by kernel_rfl) rfl) rfl (fun w hm => counts_any 0 i n w) ?_   -- 86
    refine ow_val (val_move rfl) rfl ?_   -- 81
    refine ow_val (val_extract rfl rfl) rfl ?_   -- 87
    refine ow_val (val_extract rfl rfl) rfl ?_   -- 88
    refine ow_val (val_extract rfl rfl) rfl ?_   -- 89
    refine ow_val (val_assign rfl) rfl ?_   -- 9
    refine ow_val (val_assign rfl) rfl ?_   -- 10
    refine ow_val (val_assign rfl) rfl ?_   -- 11
    refine ow_nil (into ?_)
    refine sw_seq ?_
    refine sw_region ?_
    refine ow_val (val_fieldAddr (m := 0) (e := 0) rfl Tryd.underlying27 rfl rfl Tryd.sizeOf3 rfl) rfl ?_   -- 91
    refine ow_val (val_load_at 1 rfl rfl Tryd.isAgg3 rfl) rfl ?_   -- 92
    refine ow_val (val_fieldAddr (m := 0) (e := 33) rfl Tryd.underlying27 rfl rfl Tryd.sizeOf24 rfl) rfl ?_   -- 93
    refine ow_val (val_load_at 1 rfl rfl Tryd.isAgg24 (ask_33 hll)) rfl ?_   -- 94
    refine ow_val (val_fieldAddr (m := 0) (e := 34) rfl Tryd.underlying27 rfl rfl Tryd.sizeOf24 rfl) rfl ?_   -- 95
    refine ow_val (val_load_at 1 rfl rfl Tryd.isAgg24 (ask_34 hll)) rfl ?_   -- 96
    refine ow_val (val_fieldAddr (m := 31) (e := 1) rfl Tryd.underlying27 rfl rfl Tryd.sizeOf23 rfl) rfl ?_   -- 97
    refine ow_val (val_load_part 1 rfl rfl Tryd.isAgg23 Tryd.sizeOf23 (by show (List.map vU8 leaf).length = _; rw [List.length_map]; exact hll) (ask_leaf hll)) rfl ?_   -- 98
    refine ow_val (val_fieldAddr (m := 0) (e := 35) rfl Tryd.underlying27 rfl rfl Tryd.sizeOf25 rfl) rfl ?_   -- 99
    refine ow_val (val_load_at 1 rfl rfl Tryd.isAgg25 (ask_35 hll)) rfl ?_   -- 100
    refine ow_call_pure (callsTo Tryd.func18 rfl (by kernel_rfl) rfl) rfl (fun w hm => mroots_any (k : Int) leaf hll i n w (hK.mem0 hm) a proof.length c proof rfl hpl (hr.mem hm) (by omega) (by omega) (by omega)) ?_   -- 101
    refine ow_val (val_move rfl) rfl ?_   -- 90
    refine ow_val (val_extract rfl rfl) rfl ?_   -- 102
    refine ow_val (val_extract rfl rfl) rfl ?_   -- 103
    refine ow_val (val_extract rfl rfl) rfl ?_   -- 104
    refine ow_new (acts_alloc zD) rfl (fun b12 hb12 => ?_)   -- 12
    refine ow_new (acts_alloc zD) rfl (fun b13 hb13 => ?_)   -- 13
    refine ow_do_eq (does_store_all 1 rfl rfl rfl (one_u8s _) Tryd.sizeOf23 (by show (List.map vU8 ((rootsO (k : Int) i n leaf proof).1.1)).length = _; rw [List.length_map]; exact (rootsO_len hll hpl).1) (by show (List.map vU8 zeros32).length = _; rw [List.length_map]; exact zeros32_len)) ?_
    refine ow_do_eq (does_store_all 0 rfl rfl rfl (one_u8s _) Tryd.sizeOf23 (by show (List.map vU8 ((rootsO (k : Int) i n leaf proof).1.2)).length = _; rw [List.length_map]; exact (rootsO_len hll hpl).2) (by show (List.map vU8 zeros32).length = _; rw [List.length_map]; exact zeros32_len)) ?_
    refine ow_val (val_assign rfl) rfl ?_   -- 14
    refine ow_nil (into ?_)
    refine sw_seq ?_
    refine sw_seq ?_
    refine sw_region ?_
    refine ow_val (val_fieldAddr (m := 0) (e := 33) rfl Tryd.underlying27 rfl rfl Tryd.sizeOf24 rfl) rfl ?_   -- 105
    refine ow_val (val_load_at 3 rfl rfl Tryd.isAgg24 (ask_33 hll)) rfl ?_   -- 106
    refine ow_val ((val_eql_u64 rfl rfl).to (congrArg Value.bool (decide_eq_false (hi0)))) rfl ?_   -- 107
    refine ow_val (val_move rfl) rfl ?_   -- 108
    refine ow_guard_yes rfl rfl rfl ?_
    refine ow_val (val_fieldAddr (m := 0) (e := 33) rfl Tryd.underlying27 rfl rfl Tryd.sizeOf24 rfl) rfl ?_   -- 109
    refine ow_guard_yes rfl rfl rfl ?_
    refine ow_val (val_load_at 3 rfl rfl Tryd.isAgg24 (ask_33 hll)) rfl ?_   -- 110
    refine ow_guard_yes rfl rfl rfl ?_
    refine ow_val (val_fieldAddr (m := 0) (e := 34) rfl Tryd.underlying27 rfl rfl Tryd.sizeOf24 rfl) rfl ?_   -- 111
    refine ow_guard_yes rfl rfl rfl ?_
    refine ow_val (val_load_at 3 rfl rfl Tryd.isAgg24 (ask_34 hll)) rfl ?_   -- 112
    refine ow_guard_yes rfl rfl rfl ?_
    refine ow_val ((val_geq_u64 rfl rfl).to (congrArg Value.bool (decide_eq_false (hin)))) rfl ?_   -- 113
    refine ow_val (val_pick_false rfl rfl) rfl ?_   -- 114
    refine ow_nil (into ?_)
    refine sw_false rfl rfl ?_
    refine sw_skip (into ?_)
    refine sw_seq ?_
    refine sw_region ?_
    refine ow_val (val_move rfl) rfl ?_   -- 117
    refine ow_val ((val_eql_int rfl rfl).to (congrArg Value.bool (decide_eq_true ((by omega))))) rfl ?_   -- 118
    refine ow_val (val_move rfl) rfl ?_   -- 119
    refine ow_guard_yes rfl rfl rfl ?_
    refine ow_val (val_move rfl) rfl ?_   -- 120
    refine ow_guard_yes rfl rfl rfl ?_
    refine ow_val (val_eql_int rfl rfl) rfl ?_   -- 121
    refine ow_guard_yes rfl rfl rfl ?_
    refine ow_val (val_fieldAddr (m := 0) (e := 35) rfl Tryd.underlying27 rfl rfl Tryd.sizeOf25 rfl) rfl ?_   -- 122
    refine ow_guard_yes rfl rfl rfl ?_
    refine ow_val (val_load_at 3 rfl rfl Tryd.isAgg25 (ask_35 hll)) rfl ?_   -- 123
    refine ow_guard_yes rfl rfl rfl ?_
    refine ow_val (val_len rfl Tryd.underlying25) rfl ?_   -- 124
    refine ow_guard_yes rfl rfl rfl ?_
    refine ow_val (val_move rfl) rfl ?_   -- 125
    refine ow_guard_yes rfl rfl rfl ?_
    refine ow_val (val_eql_int rfl rfl) rfl ?_   -- 126
    refine ow_guard_yes rfl rfl rfl ?_
    refine ow_val ((val_eql_bool Tryd.underlying4 rfl rfl).to (congrArg Value.bool (beq_iff_eq.2 (decide_eq_decide.2 hf2)))) rfl ?_   -- 127
    refine ow_val (val_pick_true rfl rfl) rfl ?_   -- 128
    refine ow_val (val_move rfl) rfl ?_   -- 129
    refine ow_guard_yes rfl rfl rfl ?_
    refine ow_val (val_move rfl) rfl ?_   -- 130
    by_cases hz : (rootsO (k : Int) i n leaf proof).2 = 0
    · -- yes
      refine ow_guard_yes rfl rfl rfl ?_
      refine ow_val ((val_eql_int rfl rfl).to (congrArg Value.bool (decide_eq_true (by omega)))) rfl ?_   -- 131
      refine ow_guard_yes rfl rfl rfl ?_
      refine ow_val (val_move rfl) rfl ?_   -- 132
      first | refine ow_guard_no rfl rfl rfl rfl rfl ?_ | refine ow_guard_none rfl rfl rfl rfl rfl ?_
      first | refine ow_guard_no rfl rfl rfl rfl rfl ?_ | refine ow_guard_none rfl rfl rfl rfl rfl ?_
      refine ow_guard_yes rfl rfl rfl ?_
      refine ow_val (val_pick_true rfl rfl) rfl ?_   -- 135
      refine ow_val (val_pick_true rfl rfl) rfl ?_   -- 136
      refine ow_val (val_assign rfl) rfl ?_   -- 2
      refine ow_nil (into ?_)
      refine sw_ret (fun w hm => ?_)
      try dsimp only [thenP, blockP, Nat.beq, cond]
      exact ret_one _ rfl rfl ⟨rfl, hm.forgetAll⟩
    · -- no
      refine ow_guard_yes rfl rfl rfl ?_
      refine ow_val ((val_eql_int rfl rfl).to (congrArg Value.bool (decide_eq_false (by omega)))) rfl ?_   -- 131
      refine ow_guard_yes rfl rfl rfl ?_
      refine ow_val (val_move rfl) rfl ?_   -- 132
      refine ow_guard_yes rfl rfl rfl ?_
      refine ow_val (val_move rfl) rfl ?_   -- 133
      refine ow_guard_yes rfl rfl rfl ?_
      refine ow_val ((val_eql_int rfl rfl).to (congrArg Value.bool (decide_eq_true ((by omega))))) rfl ?_   -- 134
      refine ow_guard_yes rfl rfl rfl ?_
      refine ow_val (val_pick_false rfl rfl) rfl ?_   -- 135
      refine ow_val (val_pick_true rfl rfl) rfl ?_   -- 136
      refine ow_val (val_assign rfl) rfl ?_   -- 2
      refine ow_nil (into ?_)
      refine sw_ret (fun w hm => ?_)
      try dsimp only [thenP, blockP, Nat.beq, cond]
      exact ret_one _ rfl rfl ⟨rfl, hm.forgetAll⟩

theorem mcheckCounts_any (v0 : Int) (leaf : List UInt8) (hll : leaf.length = 32) (i n : UInt64) (root : List UInt8) (hrl : root.length = 32) (w : World) (hK : KW w) (a : Option Addr) (c : Nat) (proof : List (List UInt8)) (hpl : ∀ d ∈ proof, d.length = 32) (hr : Rd w a (proof.flatMap fun d => d.map vU8)) (hc : proof.length ≤ c) (hl : proof.length < 9223372036854775808) (hb : (proof.length + 2) * 32 ≤ 140737488355328) : Calls Tryd.prog 10 #[.agg (askC v0 leaf i n (.slice a proof.length c) root).toArray] w fun e w' => ∃ v, e = .returned v ∧ v = .bool true ∧ Mem w [] [] w' := by
  cases hfl : fm v0 leaf with
  | false => exact mcounts_leaf v0 leaf hll i n root hrl w hK a c proof hpl hr hc hl hb hfl
  | true =>
    have hw : wd v0 = true := by cases hw : wd v0 with
      | true => rfl
      | false => simp [fm, hw] at hfl
    obtain ⟨k, rfl, h1, h2⟩ := wd_nat hw
    by_cases hin : n ≤ i
    · by_cases hi0 : i = 0
      · exact mcounts_a0 k h1 h2 leaf hll i n root hrl w hK a c proof hpl hr hc hl hb hfl hin hi0
      · exact mcounts_a1 k h1 h2 leaf hll i n root hrl w hK a c proof hpl hr hc hl hb hfl hin hi0
    · by_cases hi0 : i = 0
      · exact mcounts_b k h1 h2 leaf hll i n root hrl w hK a c proof hpl hr hc hl hb hfl hin hi0
      · exact mcounts_c k h1 h2 leaf hll i n root hrl w hK a c proof hpl hr hc hl hb hfl hin hi0
end Go.Proofs.YtbhbhdojmacpmaaDoor
