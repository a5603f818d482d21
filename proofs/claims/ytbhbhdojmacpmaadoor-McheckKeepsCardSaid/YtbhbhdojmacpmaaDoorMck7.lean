import Derived.Test.YtbhbhdojmacpmaaDoorMck4
import Derived.Test.YtbhbhdojmacpmaaDoorProg
set_option linter.unusedVariables false
set_option linter.unusedSimpArgs false
namespace Go.Proofs.YtbhbhdojmacpmaaDoor
open Go.Sx Go.Ps
theorem same_ne (w : World) (a : Option Addr) (c : Nat) (proof : List (List UInt8)) (hpl : ∀ d ∈ proof, d.length = 32) (hr : Rd w a (proof.flatMap fun d => d.map vU8)) (hc : proof.length ≤ c) (hl : proof.length < 9223372036854775808) (a2 : Option Addr) (c2 : Nat) (qs : List (List UInt8)) (hql : ∀ d ∈ qs, d.length = 32) (hq : Rd w a2 (qs.flatMap fun d => d.map vU8)) (hc2 : qs.length ≤ c2) (hl2 : qs.length < 9223372036854775808) (hne : ¬ proof.length = qs.length) : Calls Tryd.prog 25 #[.slice a proof.length c, .slice a2 qs.length c2] w fun e w' => ∃ v, e = .returned v ∧ v = .bool (decide (proof = qs)) ∧ Mem w [] [] w' := by
  refine calls_of_sw (vs := [.slice a proof.length c, .slice a2 qs.length c2]) Tryd.func25 rfl Tryd.ntmps25 rfl (SW.begin ?_)
  refine sw_seq ?_
  refine sw_region ?_
  refine ow_val (val_assign rfl) rfl ?_   -- 4
  refine ow_nil (into ?_)
  refine sw_seq ?_
  refine sw_seq ?_
  refine sw_region ?_
  refine ow_val (val_move rfl) rfl ?_   -- 6
  refine ow_val (val_len rfl Tryd.underlying25) rfl ?_   -- 7
  refine ow_val (val_move rfl) rfl ?_   -- 8
  refine ow_val (val_len rfl Tryd.underlying25) rfl ?_   -- 9
  refine ow_val ((val_neq_int rfl rfl).to (congrArg Value.bool (decide_eq_true (by omega)))) rfl ?_   -- 10
  refine ow_nil (into ?_)
  refine sw_true rfl rfl ?_
  refine sw_seq ?_
  refine sw_region ?_
  refine ow_val (val_assign rfl) rfl ?_   -- 4
  refine ow_nil (into ?_)
  refine sw_ret (fun w hm => ?_)
  try dsimp only [thenP, blockP, Nat.beq, cond]
  exact ret_one _ rfl rfl ⟨by rw [decide_eq_false (fun h => hne (congrArg List.length h))] <;> rfl, hm.forgetAll⟩

theorem same_end {l q : List (List UInt8)} {j : Nat} (hj : l.length ≤ j) (hl : l.length = q.length) (h : l.take j = q.take j) : l = q := by
  rw [List.take_of_length_le hj, List.take_of_length_le (by omega)] at h; exact h

theorem same_eq (w : World) (a : Option Addr) (c : Nat) (proof : List (List UInt8)) (hpl : ∀ d ∈ proof, d.length = 32) (hr : Rd w a (proof.flatMap fun d => d.map vU8)) (hc : proof.length ≤ c) (hl : proof.length < 9223372036854775808) (a2 : Option Addr) (c2 : Nat) (qs : List (List UInt8)) (hql : ∀ d ∈ qs, d.length = 32) (hq : Rd w a2 (qs.flatMap fun d => d.map vU8)) (hc2 : qs.length ≤ c2) (hl2 : qs.length < 9223372036854775808) (hne : proof.length = qs.length) : Calls Tryd.prog 25 #[.slice a proof.length c, .slice a2 qs.length c2] w fun e w' => ∃ v, e = .returned v ∧ v = .bool (decide (proof = qs)) ∧ Mem w [] [] w' := by
  refine calls_of_sw (vs := [.slice a proof.length c, .slice a2 qs.length c2]) Tryd.func25 rfl Tryd.ntmps25 rfl (SW.begin ?_)
  refine sw_seq ?_
  refine sw_region ?_
  refine ow_val (val_assign rfl) rfl ?_   -- 4
  refine ow_nil (into ?_)
  refine sw_seq ?_
  refine sw_seq ?_
  refine sw_region ?_
  refine ow_val (val_move rfl) rfl ?_   -- 6
  refine ow_val (val_len rfl Tryd.underlying25) rfl ?_   -- 7
  refine ow_val (val_move rfl) rfl ?_   -- 8
  refine ow_val (val_len rfl Tryd.underlying25) rfl ?_   -- 9
  refine ow_val ((val_neq_int rfl rfl).to (congrArg Value.bool (decide_eq_false (by omega)))) rfl ?_   -- 10
  refine ow_nil (into ?_)
  refine sw_false rfl rfl ?_
  refine sw_skip (into ?_)
  refine sw_seq ?_
  refine sw_seq ?_
  refine sw_region ?_
  refine ow_val (val_move rfl) rfl ?_   -- 11
  refine ow_val (val_len rfl Tryd.underlying25) rfl ?_   -- 12
  refine ow_val (val_move rfl) rfl ?_   -- 13
  refine ow_nil (into ?_)
  refine sw_block ?_
  refine sw_loop (σ := Nat) (fun j => j ≤ proof.length ∧ proof.take j = qs.take j) (fun j => [(13, vInt (j : Int)), (12, vInt (proof.length : Int)), (1, .slice a2 qs.length c2), (0, .slice a proof.length c)]) (fun _ => Mem w [] []) (fun j => proof.length - j) 0 ⟨Nat.zero_le _, by simp⟩ ⟨rfl, rfl, rfl, rfl, trivial⟩ (fun w hm => hm) ?_
  rintro j ⟨hj, htk⟩
  refine sw_seq ?_
  refine sw_region ?_
  refine ow_val (val_lss_int rfl rfl) rfl ?_   -- 14
  refine ow_nil (into ?_)
  refine sw_seq ?_
  refine sw_if rfl (fun h0 => ?_) (fun h0 => ?_)
  · -- then
    obtain ⟨ba, oa, rfl⟩ := hr.addr (by rw [flatMap_size proof (fun x hx => by rw [List.length_map]; exact hpl x hx)]; omega)
    obtain ⟨bb, ob, rfl⟩ := hq.addr (by rw [flatMap_size qs (fun x hx => by rw [List.length_map]; exact hql x hx)]; omega)
    refine sw_skip (into ?_)
    refine sw_seq ?_
    refine sw_block ?_
    refine sw_seq ?_
    refine sw_region ?_
    refine ow_val (val_move rfl) rfl ?_   -- 15
    refine ow_val (val_assign rfl) rfl ?_   -- 5
    refine ow_nil (into ?_)
    refine sw_seq ?_
    by_cases hxy0 : (proof.getD j default) ≠ (qs.getD j default)
    · -- yes
      have hxy := hxy0
      refine sw_region_lex _ [] [(0, 0), (1, 0), (2, 0), (4, 0), (5, 0), (6, 0), (3, 1), (7, 1), (8, 0)] (by kernel_rfl) (by kernel_rfl) (fun _ _ _ h => h) (fun _ h => h) (fun _ h => h.drawn _) ?_
      refine lw_pure rfl (val_move rfl) rfl ?_   -- 16
      refine lw_pure rfl (val_move rfl) rfl ?_   -- 17
      refine lw_pure rfl (val_indexAddr_slice (j) (oa + j * 32) rfl rfl Tryd.underlying25 Tryd.sizeOf23 (by omega) (by omega) (by omega)) rfl ?_   -- 18
      refine lw_pure rfl (val_move rfl) rfl ?_   -- 20
      refine lw_pure rfl (val_move rfl) rfl ?_   -- 21
      refine lw_pure rfl (val_indexAddr_slice (j) (ob + j * 32) rfl rfl Tryd.underlying25 Tryd.sizeOf23 (by omega) (by omega) (by omega)) rfl ?_   -- 22
      refine lw_held rfl (val_load_elem (cells := fun d => d.map vU8) (l := proof) (o := oa) (i := j) rfl Tryd.isAgg23 Tryd.sizeOf23 (fun x hx => by rw [List.length_map]; exact hpl x hx) (by omega) (by omega) (fun w' hm => hr.mem hm)) rfl ?_   -- 19
      refine lw_held rfl (val_load_elem (cells := fun d => d.map vU8) (l := qs) (o := ob) (i := j) rfl Tryd.isAgg23 Tryd.sizeOf23 (fun x hx => by rw [List.length_map]; exact hql x hx) (by omega) (by omega) (fun w' hm => hq.mem hm)) rfl ?_   -- 23
      refine lw_pure rfl ((val_neq_u8s rfl rfl Tryd.eqGuardType23 Tryd.underlying23 Tryd.underlying5 Tryd.sizeOf5 Tryd.isAgg5 (hpl _ (getD_mem (by omega))) (hql _ (getD_mem (by omega)))).to (congrArg Value.bool (show (!decide _) = true by rw [decide_eq_false hxy]; rfl))) rfl ?_   -- 24
      refine lw_nil (into ?_)
      refine sw_true rfl rfl ?_
      refine sw_seq ?_
      refine sw_region ?_
      refine ow_val (val_assign rfl) rfl ?_   -- 4
      refine ow_nil (into ?_)
      refine sw_ret (fun w hm => ?_)
      try dsimp only [thenP, blockP, Nat.beq, cond]
      exact ret_one _ rfl rfl ⟨by rw [decide_eq_false (fun h => hxy (by rw [h]))] <;> rfl, hm.forgetAll⟩
    · -- no
      have hxy := Decidable.not_not.1 hxy0
      refine sw_region_lex _ [] [(0, 0), (1, 0), (2, 0), (4, 0), (5, 0), (6, 0), (3, 1), (7, 1), (8, 0)] (by kernel_rfl) (by kernel_rfl) (fun _ _ _ h => h) (fun _ h => h) (fun _ h => h.drawn _) ?_
      refine lw_pure rfl (val_move rfl) rfl ?_   -- 16
      refine lw_pure rfl (val_move rfl) rfl ?_   -- 17
      refine lw_pure rfl (val_indexAddr_slice (j) (oa + j * 32) rfl rfl Tryd.underlying25 Tryd.sizeOf23 (by omega) (by omega) (by omega)) rfl ?_   -- 18
      refine lw_pure rfl (val_move rfl) rfl ?_   -- 20
      refine lw_pure rfl (val_move rfl) rfl ?_   -- 21
      refine lw_pure rfl (val_indexAddr_slice (j) (ob + j * 32) rfl rfl Tryd.underlying25 Tryd.sizeOf23 (by omega) (by omega) (by omega)) rfl ?_   -- 22
      refine lw_held rfl (val_load_elem (cells := fun d => d.map vU8) (l := proof) (o := oa) (i := j) rfl Tryd.isAgg23 Tryd.sizeOf23 (fun x hx => by rw [List.length_map]; exact hpl x hx) (by omega) (by omega) (fun w' hm => hr.mem hm)) rfl ?_   -- 19
      refine lw_held rfl (val_load_elem (cells := fun d => d.map vU8) (l := qs) (o := ob) (i := j) rfl Tryd.isAgg23 Tryd.sizeOf23 (fun x hx => by rw [List.length_map]; exact hql x hx) (by omega) (by omega) (fun w' hm => hq.mem hm)) rfl ?_   -- 23
      refine lw_pure rfl ((val_neq_u8s rfl rfl Tryd.eqGuardType23 Tryd.underlying23 Tryd.underlying5 Tryd.sizeOf5 Tryd.isAgg5 (hpl _ (getD_mem (by omega))) (hql _ (getD_mem (by omega)))).to (congrArg Value.bool (show (!decide _) = false by rw [decide_eq_true hxy]; rfl))) rfl ?_   -- 24
      refine lw_nil (into ?_)
      refine sw_false rfl rfl ?_
      refine sw_skip (into ?_)
      refine sw_region ?_
      refine ow_val (val_add_int ((j + 1 : Nat) : Int) rfl rfl (by omega) (by omega)) rfl ?_   -- 25
      refine ow_val (val_move rfl) rfl ?_   -- 13
      exact ow_nil (fun w hm => ⟨j + 1, ⟨by omega, by rw [List.take_succ_eq_append_getElem (by omega), List.take_succ_eq_append_getElem (by omega), htk]; simp [List.getD_eq_getElem?_getD, show j < proof.length by omega, show j < qs.length by omega] at hxy; rw [hxy]⟩, by omega, ⟨rfl, rfl, rfl, rfl, trivial⟩, hm.forgetAll⟩)
  · -- else
    refine sw_exit (into ?_)
    refine sw_seq ?_
    refine sw_region ?_
    refine ow_val (val_assign rfl) rfl ?_   -- 4
    refine ow_nil (into ?_)
    refine sw_ret (fun w hm => ?_)
    try dsimp only [thenP, blockP, Nat.beq, cond]
    exact ret_one _ rfl rfl ⟨by rw [decide_eq_true (same_end (by omega) hne htk)] <;> rfl, hm.forgetAll⟩

theorem same_any (w : World) (a : Option Addr) (m c : Nat) (proof : List (List UInt8)) (hpm : proof.length = m) (hpl : ∀ d ∈ proof, d.length = 32) (hr : Rd w a (proof.flatMap fun d => d.map vU8)) (hc : m ≤ c) (hl : m < 9223372036854775808) (a2 : Option Addr) (m2 c2 : Nat) (qs : List (List UInt8)) (hqm : qs.length = m2) (hql : ∀ d ∈ qs, d.length = 32) (hq : Rd w a2 (qs.flatMap fun d => d.map vU8)) (hc2 : m2 ≤ c2) (hl2 : m2 < 9223372036854775808) : Calls Tryd.prog 25 #[.slice a m c, .slice a2 m2 c2] w fun e w' => ∃ v, e = .returned v ∧ v = .bool (decide (proof = qs)) ∧ Mem w [] [] w' := by
  subst hpm; subst hqm
  by_cases hne : proof.length = qs.length
  · exact same_eq w a c proof hpl hr hc hl a2 c2 qs hql hq hc2 hl2 hne
  · exact same_ne w a c proof hpl hr hc hl a2 c2 qs hql hq hc2 hl2 hne

def kD7 : List UInt8 := ([7] : List UInt8) ++ List.replicate 31 0
def kD9 : List UInt8 := ([9] : List UInt8) ++ List.replicate 31 0
theorem mul32 {m : Nat} (h : m + 2 ≤ 4398046511104) : (m + 2) * 32 ≤ 140737488355328 := by omega
theorem kD7_len : kD7.length = 32 := rfl
theorem kD9_len : kD9.length = 32 := rfl
theorem keep_el {l : List (List UInt8)} (h : ∀ d ∈ l, d.length = 32) : ∀ d ∈ l ++ [kD7, kD9], d.length = 32 := by
  intro d hd
  rcases List.mem_append.1 hd with hd | hd
  · exact h d hd
  · rcases List.mem_cons.1 hd with rfl | hd
    · exact kD7_len
    · rw [List.mem_singleton.1 hd]; exact kD9_len
theorem Rd.preD {w : World} {a : Option Addr} {p q : List (List UInt8)} (h : Rd w a ((p ++ q).flatMap fun d => d.map vU8)) : Rd w a (p.flatMap fun d => d.map vU8) := by
  rw [List.flatMap_append] at h; exact Rd.pre h
theorem take_dgs : ∀ (l : List (List UInt8)) (k : Nat), (∀ d ∈ l, d.length = 32) → (l.flatMap fun d => d.map vU8).take (k * 32) = (l.take k).flatMap fun d => d.map vU8
  | [], k, _ => by simp
  | x :: r, 0, _ => by simp
  | x :: r, k + 1, h => by
    have hx := h x (by simp)
    rw [List.flatMap_cons, List.take_succ_cons, List.flatMap_cons, show (k + 1) * 32 = (x.map vU8).length + k * 32 by rw [List.length_map, hx]; omega, List.take_length_add_append, take_dgs r k (fun d hd => h d (by simp [hd]))]
theorem drop_dgs : ∀ (l : List (List UInt8)) (k : Nat), (∀ d ∈ l, d.length = 32) → (l.flatMap fun d => d.map vU8).drop (k * 32) = (l.drop k).flatMap fun d => d.map vU8
  | [], k, _ => by simp
  | x :: r, 0, _ => by simp
  | x :: r, k + 1, h => by
    have hx := h x (by simp)
    rw [List.flatMap_cons, List.drop_succ_cons, show (k + 1) * 32 = (x.map vU8).length + k * 32 by rw [List.length_map, hx]; omega, List.drop_length_add_append, drop_dgs r k (fun d hd => h d (by simp [hd]))]
theorem copy_dgs {l q o : List (List UInt8)} {rest : List Value} {k : Nat} (hl : ∀ d ∈ l, d.length = 32) (ho : ∀ d ∈ o, d.length = 32) (hk : k ≤ l.length) (hko : k ≤ o.length) :
    (((l ++ q).flatMap fun d => d.map vU8) ++ rest).take 0 ++ (o.flatMap fun d => d.map vU8).take (k * 32) ++ (((l ++ q).flatMap fun d => d.map vU8) ++ rest).drop (0 + k * 32) = (((o.take k ++ l.drop k) ++ q).flatMap fun d => d.map vU8) ++ rest := by
  rw [List.take_zero, List.nil_append, Nat.zero_add, take_dgs o k ho, List.flatMap_append, List.append_assoc, List.drop_append_of_le_length (by rw [flatMap_size l (n := 32) (fun y hy => by rw [List.length_map]; exact hl y hy)]; exact Nat.mul_le_mul_right _ hk), drop_dgs l k hl]
  simp [List.flatMap_append]
theorem rootO_zero {w : Int} {leaf : List UInt8} {i n : UInt64} {proof : List (List UInt8)} (h : (rootO w leaf i n proof).2 ≠ 0) : (rootO w leaf i n proof).1 = zeros32 := by
  unfold rootO at h ⊢
  split at h
  · rename_i h1; rw [if_pos h1]
  · rename_i h1
    rw [if_neg h1]
    split at h
    · rename_i h2; rw [if_pos h2]
    · rename_i h2
      rw [if_neg h2]
      split at h
      · exact absurd rfl h
      · rename_i h3; rw [if_neg h3]

theorem mcheckKeeps_any (v0 : Int) (leaf : List UInt8) (hll : leaf.length = 32) (i n : UInt64) (root : List UInt8) (hrl : root.length = 32) (w : World) (hK : KW w) (a : Option Addr) (c : Nat) (proof : List (List UInt8)) (hpl : ∀ d ∈ proof, d.length = 32) (hr : Rd w a (proof.flatMap fun d => d.map vU8)) (hc : proof.length ≤ c) (hl : proof.length < 9223372036854775808) (a2 : Option Addr) (c2 : Nat) (other : List (List UInt8)) (hol : ∀ d ∈ other, d.length = 32) (hor : Rd w a2 (other.flatMap fun d => d.map vU8)) (hoc : other.length ≤ c2) (hol2 : other.length < 9223372036854775808) (hb4 : proof.length + 8 ≤ 4398046511104) : Calls Tryd.prog 9 #[.agg (askC v0 leaf i n (.slice a proof.length c) root).toArray, .slice a2 other.length c2] w fun e w' => ∃ v, e = .returned v ∧ v = .bool true ∧ Mem w [] [] w' := by
  obtain ⟨tiD, hDi, hDz, hDsz, hDby⟩ := info_parts iD
  refine calls_of_sw (vs := [.agg (askC v0 leaf i n (.slice a proof.length c) root).toArray, .slice a2 other.length c2]) Tryd.func9 rfl Tryd.ntmps9 rfl (SW.begin ?_)
  refine sw_seq ?_
  refine sw_region ?_
  refine ow_new (acts_box rfl) rfl (fun b2 hb2 => ?_)   -- 2
  refine ow_val (val_assign rfl) rfl ?_   -- 4
  refine ow_nil (into ?_)
  refine sw_seq ?_
  refine sw_seq ?_
  refine sw_region ?_
  refine ow_call_pure (v := .bool true) (callsTo Tryd.func15 rfl (by kernel_rfl) rfl) rfl (fun w hm => awake_any w (hK.mem0 hm)) ?_   -- 25
  refine ow_val (val_not rfl) rfl ?_   -- 26
  refine ow_nil (into ?_)
  refine sw_false rfl rfl ?_
  refine sw_skip (into ?_)
  refine sw_seq ?_
  refine sw_region ?_
  refine ow_val (val_fieldAddr (m := 0) (e := 35) rfl Tryd.underlying27 rfl rfl Tryd.sizeOf25 rfl) rfl ?_   -- 27
  refine ow_val (val_load_at 0 rfl rfl Tryd.isAgg25 (ask_35 hll)) rfl ?_   -- 28
  refine ow_call_row (E := 23) (size := 32) (k := proof.length) (xs := (proof.flatMap fun d => d.map vU8)) (callsTo Tryd.func13 rfl (by kernel_rfl) rfl) rfl (fun w hm => twin_any w a proof.length c proof rfl hpl (hr.mem hm) (by omega) (by omega) (mul32 (by omega))) (fun a29 c29 e29 hr29 => ?_)   -- 29
  refine ow_val (val_build' (cs := kD7.map vU8) rfl (by kernel_rfl)) rfl ?_   -- 30
  refine ow_val (val_build' (cs := kD9.map vU8) rfl (by kernel_rfl)) rfl ?_   -- 31
  refine ow_make (acts_buildSlice (cs := [kD7.map vU8, kD9.map vU8].flatten) Tryd.underlying25 Tryd.sizeOf23 zD rfl rfl (fill_aggs [kD7.map vU8, kD9.map vU8] (by decide) rfl (by simp only [List.forall_mem_cons, List.length_map]; exact ⟨kD7_len, kD9_len, fun _ h => by cases h⟩))) rfl (fun b32 hb32 => ?_)   -- 32
  refine ow_append' (k := proof.length + 2) (acts_append (size := 32) (bytes := 32) 1 rfl rfl rfl hr29 rfl Tryd.underlying25 hDi hDz hDsz hDby rfl (by decide) (fun w hm => (Rd.blk (hm.at (i := 0) rfl))) (by simp only [List.flatten_cons, List.flatten_nil, List.append_nil, List.length_append, List.length_map, kD7_len, kD9_len]) (fun u hu => by simp only [List.flatten_cons, List.flatten_nil, List.append_nil, List.mem_append] at hu; rcases hu with hu | hu <;> exact one_u8s _ u hu) (by omega) (by omega)) rfl (fun a33 c33 e33 hr33 => ?_)   -- 33
  have hlx : (proof ++ [kD7, kD9]).length = proof.length + 2 := by rw [List.length_append]; simp only [List.length_cons, List.length_nil]
  have hr33' : RowE (.slice a33 (proof.length + 2) c33) 23 32 (proof.length + 2) ((proof ++ [kD7, kD9]).flatMap fun d => d.map vU8) e33 := hr33.cong rfl rfl (by rw [List.flatMap_append]; simp only [List.flatMap_cons, List.flatMap_nil, List.flatten_cons, List.flatten_nil])
  have hc33 := hr33'.le
  refine ow_val (val_assign rfl) rfl ?_   -- 5
  refine ow_nil (into ?_)
  refine sw_seq ?_
  refine sw_region ?_
  refine ow_val (val_move rfl) rfl ?_   -- 34
  refine ow_call_row (E := 23) (size := 32) (k := proof.length + 2) (xs := ((proof ++ [kD7, kD9]).flatMap fun d => d.map vU8)) (callsTo Tryd.func13 rfl (by kernel_rfl) rfl) rfl (fun w hm => twin_any w a33 (proof.length + 2) c33 ((proof ++ [kD7, kD9])) hlx (keep_el hpl) (hr33'.rdAt hm (i := 1) rfl) hc33 (by omega) (mul32 (by omega))) (fun a35 c35 e35 hr35 => ?_)   -- 35
  refine ow_val (val_assign rfl) rfl ?_   -- 6
  refine ow_nil (into ?_)
  refine sw_seq ?_
  refine sw_region ?_
  refine ow_val (val_move rfl) rfl ?_   -- 36
  refine ow_val (val_fieldAddr (m := 0) (e := 35) rfl Tryd.underlying27 rfl rfl Tryd.sizeOf25 rfl) rfl ?_   -- 37
  refine ow_val (val_load_at 3 rfl rfl Tryd.isAgg25 (ask_35 hll)) rfl ?_   -- 38
  refine ow_val (val_len rfl Tryd.underlying25) rfl ?_   -- 39
  refine ow_val (val_slice_hi proof.length rfl rfl Tryd.underlying25 Tryd.sizeOf23 (by omega) (by omega)) rfl ?_   -- 40
  refine ow_val (val_assign rfl) rfl ?_   -- 7
  refine ow_nil (into ?_)
  refine sw_seq ?_
  refine sw_seq ?_
  refine sw_region ?_
  refine ow_val (val_move rfl) rfl ?_   -- 41
  refine ow_nil (into ?_)
  refine sw_block ?_
  refine sw_loop (σ := Nat) (fun j => j ≤ 2) (fun j => [(41, vInt (j : Int)), (7, .slice a33 proof.length c33), (6, .slice a35 (proof.length + 2) c35), (5, .slice a33 (proof.length + 2) c33), (2, .pointer (some ⟨b2, 0, none⟩)), (1, .slice a2 other.length c2)]) (fun _ => Mem w [] [e35, e33, some (b2, blk (askC v0 leaf i n (.slice a proof.length c) root) 27)]) (fun j => 2 - j) 0 (by omega) ⟨rfl, rfl, rfl, rfl, rfl, rfl, trivial⟩ (fun w hm => hm.only (.cons_cons _ (.cons _ (.cons_cons _ (.cons_cons _ (List.nil_sublist _)))))) ?_
  intro j hj
  refine sw_seq ?_
  refine sw_region ?_
  refine ow_val (val_lss_int rfl rfl) rfl ?_   -- 42
  refine ow_nil (into ?_)
  refine sw_seq ?_
  refine sw_if rfl (fun hc1 => ?_) (fun hc1 => ?_)
  · -- then
    refine sw_skip (into ?_)
    refine sw_seq ?_
    refine sw_block ?_
    refine sw_seq ?_
    refine sw_region ?_
    refine ow_val (val_fieldAddr (m := 0) (e := 0) rfl Tryd.underlying27 rfl rfl Tryd.sizeOf3 rfl) rfl ?_   -- 44
    refine ow_val (val_load_at 2 rfl rfl Tryd.isAgg3 rfl) rfl ?_   -- 45
    refine ow_val (val_fieldAddr (m := 31) (e := 1) rfl Tryd.underlying27 rfl rfl Tryd.sizeOf23 rfl) rfl ?_   -- 46
    refine ow_val (val_load_part 2 rfl rfl Tryd.isAgg23 Tryd.sizeOf23 (by show (List.map vU8 leaf).length = _; rw [List.length_map]; exact hll) (ask_leaf hll)) rfl ?_   -- 47
    refine ow_val (val_fieldAddr (m := 0) (e := 33) rfl Tryd.underlying27 rfl rfl Tryd.sizeOf24 rfl) rfl ?_   -- 48
    refine ow_val (val_load_at 2 rfl rfl Tryd.isAgg24 (ask_33 hll)) rfl ?_   -- 49
    refine ow_val (val_fieldAddr (m := 0) (e := 34) rfl Tryd.underlying27 rfl rfl Tryd.sizeOf24 rfl) rfl ?_   -- 50
    refine ow_val (val_load_at 2 rfl rfl Tryd.isAgg24 (ask_34 hll)) rfl ?_   -- 51
    refine ow_val (val_move rfl) rfl ?_   -- 52
    refine ow_call_pure (callsTo Tryd.func12 rfl (by kernel_rfl) rfl) rfl (fun w hm => mroot_any v0 leaf hll i n w (hK.mem0 hm) a33 proof.length c33 proof rfl hpl (Rd.preD (hr33'.rdAt hm (i := 1) rfl)) (by omega) (by omega) (mul32 (by omega))) ?_   -- 53
    refine ow_val (val_move rfl) rfl ?_   -- 43
    refine ow_val (val_extract rfl rfl) rfl ?_   -- 54
    refine ow_val (val_extract rfl rfl) rfl ?_   -- 55
    refine ow_new (acts_alloc zD) rfl (fun b8 hb8 => ?_)   -- 8
    refine ow_do_eq (does_store_all 0 rfl rfl rfl (one_u8s _) Tryd.sizeOf23 (by show (List.map vU8 ((rootO v0 leaf i n proof).1)).length = _; rw [List.length_map]; exact (rootO_len hll)) (by show (List.map vU8 zeros32).length = _; rw [List.length_map]; exact zeros32_len)) ?_
    refine ow_val (val_assign rfl) rfl ?_   -- 9
    refine ow_nil (into ?_)
    refine sw_seq ?_
    refine sw_region ?_
    refine ow_val (val_fieldAddr (m := 0) (e := 0) rfl Tryd.underlying27 rfl rfl Tryd.sizeOf3 rfl) rfl ?_   -- 57
    refine ow_val (val_load_at 3 rfl rfl Tryd.isAgg3 rfl) rfl ?_   -- 58
    refine ow_val (val_fieldAddr (m := 31) (e := 1) rfl Tryd.underlying27 rfl rfl Tryd.sizeOf23 rfl) rfl ?_   -- 59
    refine ow_val (val_load_part 3 rfl rfl Tryd.isAgg23 Tryd.sizeOf23 (by show (List.map vU8 leaf).length = _; rw [List.length_map]; exact hll) (ask_leaf hll)) rfl ?_   -- 60
    refine ow_val (val_fieldAddr (m := 0) (e := 33) rfl Tryd.underlying27 rfl rfl Tryd.sizeOf24 rfl) rfl ?_   -- 61
    refine ow_val (val_load_at 3 rfl rfl Tryd.isAgg24 (ask_33 hll)) rfl ?_   -- 62
    refine ow_val (val_fieldAddr (m := 0) (e := 34) rfl Tryd.underlying27 rfl rfl Tryd.sizeOf24 rfl) rfl ?_   -- 63
    refine ow_val (val_load_at 3 rfl rfl Tryd.isAgg24 (ask_34 hll)) rfl ?_   -- 64
    refine ow_val (val_fieldAddr (m := 0) (e := 35) rfl Tryd.underlying27 rfl rfl Tryd.sizeOf25 rfl) rfl ?_   -- 65
    refine ow_val (val_load_at 3 rfl rfl Tryd.isAgg25 (ask_35 hll)) rfl ?_   -- 66
    refine ow_call_pure (callsTo Tryd.func14 rfl (by kernel_rfl) rfl) rfl (fun w hm => rroot_any v0 leaf hll i n w (hK.mem0 hm) a proof.length c proof rfl hpl (hr.mem hm) (by omega) (by omega) (mul32 (by omega))) ?_   -- 67
    refine ow_val (val_move rfl) rfl ?_   -- 56
    refine ow_val (val_extract rfl rfl) rfl ?_   -- 68
    refine ow_val (val_extract rfl rfl) rfl ?_   -- 69
    refine ow_new (acts_alloc zD) rfl (fun b10 hb10 => ?_)   -- 10
    refine ow_do_eq (does_store_all 0 rfl rfl rfl (one_u8s _) Tryd.sizeOf23 (by show (List.map vU8 ((rootO v0 leaf i n proof).1)).length = _; rw [List.length_map]; exact (rootO_len hll)) (by show (List.map vU8 zeros32).length = _; rw [List.length_map]; exact zeros32_len)) ?_
    refine ow_val (val_assign rfl) rfl ?_   -- 11
    refine ow_nil (into ?_)
    refine sw_seq ?_
    refine sw_region ?_
    refine ow_val (val_fieldAddr (m := 0) (e := 0) rfl Tryd.underlying27 rfl rfl Tryd.sizeOf3 rfl) rfl ?_   -- 70
    refine ow_val (val_load_at 4 rfl rfl Tryd.isAgg3 rfl) rfl ?_   -- 71
    refine ow_val (val_fieldAddr (m := 31) (e := 1) rfl Tryd.underlying27 rfl rfl Tryd.sizeOf23 rfl) rfl ?_   -- 72
    refine ow_val (val_load_part 4 rfl rfl Tryd.isAgg23 Tryd.sizeOf23 (by show (List.map vU8 leaf).length = _; rw [List.length_map]; exact hll) (ask_leaf hll)) rfl ?_   -- 73
    refine ow_val (val_fieldAddr (m := 0) (e := 33) rfl Tryd.underlying27 rfl rfl Tryd.sizeOf24 rfl) rfl ?_   -- 74
    refine ow_val (val_load_at 4 rfl rfl Tryd.isAgg24 (ask_33 hll)) rfl ?_   -- 75
    refine ow_val (val_fieldAddr (m := 0) (e := 34) rfl Tryd.underlying27 rfl rfl Tryd.sizeOf24 rfl) rfl ?_   -- 76
    refine ow_val (val_load_at 4 rfl rfl Tryd.isAgg24 (ask_34 hll)) rfl ?_   -- 77
    refine ow_val (val_move rfl) rfl ?_   -- 78
    refine ow_val (val_load_all 0 rfl rfl Tryd.isAgg23 Tryd.sizeOf23 (by show (List.map vU8 ((rootO v0 leaf i n proof).1)).length = _; rw [List.length_map]; exact (rootO_len hll))) rfl ?_   -- 79
    refine ow_call_pure (callsTo Tryd.func16 rfl (by kernel_rfl) rfl) rfl (fun w hm => mincl_any v0 leaf hll i n ((rootO v0 leaf i n proof).1) (rootO_len hll) w (hK.mem0 hm) a33 proof.length c33 proof rfl hpl (Rd.preD (hr33'.rdAt hm (i := 3) rfl)) (by omega) (by omega) (mul32 (by omega))) ?_   -- 80
    refine ow_val (val_assign rfl) rfl ?_   -- 12
    refine ow_nil (into ?_)
    refine sw_seq ?_
    refine sw_region ?_
    refine ow_val (val_fieldAddr (m := 0) (e := 0) rfl Tryd.underlying27 rfl rfl Tryd.sizeOf3 rfl) rfl ?_   -- 82
    refine ow_val (val_load_at 4 rfl rfl Tryd.isAgg3 rfl) rfl ?_   -- 83
    refine ow_val (val_fieldAddr (m := 0) (e := 33) rfl Tryd.underlying27 rfl rfl Tryd.sizeOf24 rfl) rfl ?_   -- 84
    refine ow_val (val_load_at 4 rfl rfl Tryd.isAgg24 (ask_33 hll)) rfl ?_   -- 85
    refine ow_val (val_fieldAddr (m := 0) (e := 34) rfl Tryd.underlying27 rfl rfl Tryd.sizeOf24 rfl) rfl ?_   -- 86
    refine ow_val (val_load_at 4 rfl rfl Tryd.isAgg24 (ask_34 hll)) rfl ?_   -- 87
    refine ow_val (val_fieldAddr (m := 31) (e := 1) rfl Tryd.underlying27 rfl rfl Tryd.sizeOf23 rfl) rfl ?_   -- 88
    refine ow_val (val_load_part 4 rfl rfl Tryd.isAgg23 Tryd.sizeOf23 (by show (List.map vU8 leaf).length = _; rw [List.length_map]; exact hll) (ask_leaf hll)) rfl ?_   -- 89
    refine ow_val (val_move rfl) rfl ?_   -- 90
    refine ow_call_pure (callsTo Tryd.func18 rfl (by kernel_rfl) rfl) rfl (fun w hm => mroots_any v0 leaf hll i n w (hK.mem0 hm) a33 proof.length c33 proof rfl hpl (Rd.preD (hr33'.rdAt hm (i := 3) rfl)) (by omega) (by omega) (mul32 (by omega))) ?_   -- 91
    refine ow_val (val_move rfl) rfl ?_   -- 81
    refine ow_val (val_extract rfl rfl) rfl ?_   -- 92
    refine ow_val (val_extract rfl rfl) rfl ?_   -- 93
    refine ow_val (val_extract rfl rfl) rfl ?_   -- 94
    refine ow_new (acts_alloc zD) rfl (fun b13 hb13 => ?_)   -- 13
    refine ow_new (acts_alloc zD) rfl (fun b14 hb14 => ?_)   -- 14
    refine ow_do_eq (does_store_all 1 rfl rfl rfl (one_u8s _) Tryd.sizeOf23 (by show (List.map vU8 ((rootsO v0 i n leaf proof).1.1)).length = _; rw [List.length_map]; exact (rootsO_len hll hpl).1) (by show (List.map vU8 zeros32).length = _; rw [List.length_map]; exact zeros32_len)) ?_
    refine ow_do_eq (does_store_all 0 rfl rfl rfl (one_u8s _) Tryd.sizeOf23 (by show (List.map vU8 ((rootsO v0 i n leaf proof).1.2)).length = _; rw [List.length_map]; exact (rootsO_len hll hpl).2) (by show (List.map vU8 zeros32).length = _; rw [List.length_map]; exact zeros32_len)) ?_
    refine ow_val (val_assign rfl) rfl ?_   -- 15
    refine ow_nil (into ?_)
    refine sw_seq ?_
    refine sw_region ?_
    refine ow_val (val_fieldAddr (m := 0) (e := 0) rfl Tryd.underlying27 rfl rfl Tryd.sizeOf3 rfl) rfl ?_   -- 96
    refine ow_val (val_load_at 6 rfl rfl Tryd.isAgg3 rfl) rfl ?_   -- 97
    refine ow_val (val_fieldAddr (m := 0) (e := 33) rfl Tryd.underlying27 rfl rfl Tryd.sizeOf24 rfl) rfl ?_   -- 98
    refine ow_val (val_load_at 6 rfl rfl Tryd.isAgg24 (ask_33 hll)) rfl ?_   -- 99
    refine ow_val (val_fieldAddr (m := 0) (e := 34) rfl Tryd.underlying27 rfl rfl Tryd.sizeOf24 rfl) rfl ?_   -- 100
    refine ow_val (val_load_at 6 rfl rfl Tryd.isAgg24 (ask_34 hll)) rfl ?_   -- 101
    refine ow_val (val_fieldAddr (m := 31) (e := 1) rfl Tryd.underlying27 rfl rfl Tryd.sizeOf23 rfl) rfl ?_   -- 102
    refine ow_val (val_load_part 6 rfl rfl Tryd.isAgg23 Tryd.sizeOf23 (by show (List.map vU8 leaf).length = _; rw [List.length_map]; exact hll) (ask_leaf hll)) rfl ?_   -- 103
    refine ow_val (val_fieldAddr (m := 0) (e := 35) rfl Tryd.underlying27 rfl rfl Tryd.sizeOf25 rfl) rfl ?_   -- 104
    refine ow_val (val_load_at 6 rfl rfl Tryd.isAgg25 (ask_35 hll)) rfl ?_   -- 105
    refine ow_call_pure (callsTo Tryd.func19 rfl (by kernel_rfl) rfl) rfl (fun w hm => rroots_any v0 leaf hll i n w (hK.mem0 hm) a proof.length c proof rfl hpl (hr.mem hm) (by omega) (by omega) (mul32 (by omega))) ?_   -- 106
    refine ow_val (val_move rfl) rfl ?_   -- 95
    refine ow_val (val_extract rfl rfl) rfl ?_   -- 107
    refine ow_val (val_extract rfl rfl) rfl ?_   -- 108
    refine ow_val (val_extract rfl rfl) rfl ?_   -- 109
    refine ow_new (acts_alloc zD) rfl (fun b16 hb16 => ?_)   -- 16
    refine ow_new (acts_alloc zD) rfl (fun b17 hb17 => ?_)   -- 17
    refine ow_do_eq (does_store_all 1 rfl rfl rfl (one_u8s _) Tryd.sizeOf23 (by show (List.map vU8 ((rootsO v0 i n leaf proof).1.1)).length = _; rw [List.length_map]; exact (rootsO_len hll hpl).1) (by show (List.map vU8 zeros32).length = _; rw [List.length_map]; exact zeros32_len)) ?_
    refine ow_do_eq (does_store_all 0 rfl rfl rfl (one_u8s _) Tryd.sizeOf23 (by show (List.map vU8 ((rootsO v0 i n leaf proof).1.2)).length = _; rw [List.length_map]; exact (rootsO_len hll hpl).2) (by show (List.map vU8 zeros32).length = _; rw [List.length_map]; exact zeros32_len)) ?_
    refine ow_val (val_assign rfl) rfl ?_   -- 18
    refine ow_nil (into ?_)
    refine sw_seq ?_
    refine sw_region ?_
    refine ow_val (val_fieldAddr (m := 0) (e := 0) rfl Tryd.underlying27 rfl rfl Tryd.sizeOf3 rfl) rfl ?_   -- 110
    refine ow_val (val_load_at 8 rfl rfl Tryd.isAgg3 rfl) rfl ?_   -- 111
    refine ow_val (val_fieldAddr (m := 0) (e := 33) rfl Tryd.underlying27 rfl rfl Tryd.sizeOf24 rfl) rfl ?_   -- 112
    refine ow_val (val_load_at 8 rfl rfl Tryd.isAgg24 (ask_33 hll)) rfl ?_   -- 113
    refine ow_val (val_fieldAddr (m := 0) (e := 34) rfl Tryd.underlying27 rfl rfl Tryd.sizeOf24 rfl) rfl ?_   -- 114
    refine ow_val (val_load_at 8 rfl rfl Tryd.isAgg24 (ask_34 hll)) rfl ?_   -- 115
    refine ow_val (val_fieldAddr (m := 31) (e := 1) rfl Tryd.underlying27 rfl rfl Tryd.sizeOf23 rfl) rfl ?_   -- 116
    refine ow_val (val_load_part 8 rfl rfl Tryd.isAgg23 Tryd.sizeOf23 (by show (List.map vU8 leaf).length = _; rw [List.length_map]; exact hll) (ask_leaf hll)) rfl ?_   -- 117
    refine ow_val (val_load_all 0 rfl rfl Tryd.isAgg23 Tryd.sizeOf23 (by show (List.map vU8 ((rootsO v0 i n leaf proof).1.2)).length = _; rw [List.length_map]; exact (rootsO_len hll hpl).2)) rfl ?_   -- 118
    refine ow_val (val_move rfl) rfl ?_   -- 119
    refine ow_call_pure (callsTo Tryd.func23 rfl (by kernel_rfl) rfl) rfl (fun w hm => mcons_any v0 leaf hll i n ((rootsO v0 i n leaf proof).1.2) (rootsO_len hll hpl).2 w (hK.mem0 hm) a33 proof.length c33 proof rfl hpl (Rd.preD (hr33'.rdAt hm (i := 7) rfl)) (by omega) (by omega) (mul32 (by omega))) ?_   -- 120
    refine ow_val (val_assign rfl) rfl ?_   -- 19
    refine ow_nil (into ?_)
    refine sw_seq ?_
    refine sw_seq ?_
    refine sw_region ?_
    refine ow_val (val_load_all 5 rfl rfl Tryd.isAgg23 Tryd.sizeOf23 (by show (List.map vU8 ((rootO v0 leaf i n proof).1)).length = _; rw [List.length_map]; exact (rootO_len hll))) rfl ?_   -- 121
    refine ow_val (val_load_all 4 rfl rfl Tryd.isAgg23 Tryd.sizeOf23 (by show (List.map vU8 ((rootO v0 leaf i n proof).1)).length = _; rw [List.length_map]; exact (rootO_len hll))) rfl ?_   -- 122
    refine ow_val ((val_neq_u8s rfl rfl Tryd.eqGuardType23 Tryd.underlying23 Tryd.underlying5 Tryd.sizeOf5 Tryd.isAgg5 (rootO_len hll) (rootO_len hll)).to (congrArg Value.bool (show _ = false by simp [txt]))) rfl ?_   -- 123
    refine ow_val (val_move rfl) rfl ?_   -- 124
    refine ow_guard_yes rfl rfl rfl ?_
    refine ow_val (val_move rfl) rfl ?_   -- 125
    refine ow_guard_yes rfl rfl rfl ?_
    refine ow_val (val_move rfl) rfl ?_   -- 126
    refine ow_guard_yes rfl rfl rfl ?_
    refine ow_val ((val_neq_int rfl rfl).to (v' := .bool false) (congrArg Value.bool (decide_eq_false (fun h => h rfl)))) rfl ?_   -- 127
    refine ow_val (val_pick_false rfl rfl) rfl ?_   -- 128
    refine ow_val (val_move rfl) rfl ?_   -- 129
    refine ow_guard_yes rfl rfl rfl ?_
    refine ow_val (val_load_all 3 rfl rfl Tryd.isAgg23 Tryd.sizeOf23 (by show (List.map vU8 ((rootsO v0 i n leaf proof).1.1)).length = _; rw [List.length_map]; exact (rootsO_len hll hpl).1)) rfl ?_   -- 130
    refine ow_guard_yes rfl rfl rfl ?_
    refine ow_val (val_load_all 1 rfl rfl Tryd.isAgg23 Tryd.sizeOf23 (by show (List.map vU8 ((rootsO v0 i n leaf proof).1.1)).length = _; rw [List.length_map]; exact (rootsO_len hll hpl).1)) rfl ?_   -- 131
    refine ow_guard_yes rfl rfl rfl ?_
    refine ow_val ((val_neq_u8s rfl rfl Tryd.eqGuardType23 Tryd.underlying23 Tryd.underlying5 Tryd.sizeOf5 Tryd.isAgg5 (rootsO_len hll hpl).1 (rootsO_len hll hpl).1).to (congrArg Value.bool (show _ = false by simp [txt]))) rfl ?_   -- 132
    refine ow_val (val_pick_false rfl rfl) rfl ?_   -- 133
    refine ow_val (val_move rfl) rfl ?_   -- 134
    refine ow_guard_yes rfl rfl rfl ?_
    refine ow_val (val_load_all 2 rfl rfl Tryd.isAgg23 Tryd.sizeOf23 (by show (List.map vU8 ((rootsO v0 i n leaf proof).1.2)).length = _; rw [List.length_map]; exact (rootsO_len hll hpl).2)) rfl ?_   -- 135
    refine ow_guard_yes rfl rfl rfl ?_
    refine ow_val (val_load_all 0 rfl rfl Tryd.isAgg23 Tryd.sizeOf23 (by show (List.map vU8 ((rootsO v0 i n leaf proof).1.2)).length = _; rw [List.length_map]; exact (rootsO_len hll hpl).2)) rfl ?_   -- 136
    refine ow_guard_yes rfl rfl rfl ?_
    refine ow_val ((val_neq_u8s rfl rfl Tryd.eqGuardType23 Tryd.underlying23 Tryd.underlying5 Tryd.sizeOf5 Tryd.isAgg5 (rootsO_len hll hpl).2 (rootsO_len hll hpl).2).to (congrArg Value.bool (show _ = false by simp [txt]))) rfl ?_   -- 137
    refine ow_val (val_pick_false rfl rfl) rfl ?_   -- 138
    refine ow_val (val_move rfl) rfl ?_   -- 139
    refine ow_guard_yes rfl rfl rfl ?_
    refine ow_val (val_move rfl) rfl ?_   -- 140
    refine ow_guard_yes rfl rfl rfl ?_
    refine ow_val (val_move rfl) rfl ?_   -- 141
    refine ow_guard_yes rfl rfl rfl ?_
    refine ow_val ((val_neq_int rfl rfl).to (v' := .bool false) (congrArg Value.bool (decide_eq_false (fun h => h rfl)))) rfl ?_   -- 142
    refine ow_val (val_pick_false rfl rfl) rfl ?_   -- 143
    refine ow_val (val_move rfl) rfl ?_   -- 144
    refine ow_guard_yes rfl rfl rfl ?_
    refine ow_val (val_move rfl) rfl ?_   -- 145
    refine ow_guard_yes rfl rfl rfl ?_
    refine ow_val (val_move rfl) rfl ?_   -- 146
    refine ow_guard_yes rfl rfl rfl ?_
    refine ow_call_pure (v := .bool true) (callsTo Tryd.func25 rfl (by kernel_rfl) rfl) rfl (fun w hm => (by have h := same_any w a33 (proof.length + 2) c33 ((proof ++ [kD7, kD9])) hlx (keep_el hpl) (hr33'.rdAt hm (i := 7) rfl) hc33 (by omega) a35 (proof.length + 2) c35 ((proof ++ [kD7, kD9])) hlx (keep_el hpl) (hr35.rdAt hm (i := 6) rfl) hr35.le (by omega); rw [decide_eq_true rfl] at h; exact h)) ?_   -- 147
    refine ow_guard_yes rfl rfl rfl ?_
    refine ow_val (val_not rfl) rfl ?_   -- 148
    refine ow_val (val_pick_false rfl rfl) rfl ?_   -- 149
    refine ow_nil (into ?_)
    refine sw_false rfl rfl ?_
    refine sw_skip (into ?_)
    refine sw_seq ?_
    refine sw_region ?_
    refine ow_val (val_move rfl) rfl ?_   -- 150
    refine ow_val (val_fieldAddr (m := 0) (e := 0) rfl Tryd.underlying27 rfl rfl Tryd.sizeOf3 rfl) rfl ?_   -- 151
    refine ow_val (val_load_at 8 rfl rfl Tryd.isAgg3 rfl) rfl ?_   -- 152
    refine ow_val (val_fieldAddr (m := 31) (e := 1) rfl Tryd.underlying27 rfl rfl Tryd.sizeOf23 rfl) rfl ?_   -- 153
    refine ow_val (val_load_part 8 rfl rfl Tryd.isAgg23 Tryd.sizeOf23 (by show (List.map vU8 leaf).length = _; rw [List.length_map]; exact hll) (ask_leaf hll)) rfl ?_   -- 154
    refine ow_val (val_fieldAddr (m := 0) (e := 33) rfl Tryd.underlying27 rfl rfl Tryd.sizeOf24 rfl) rfl ?_   -- 155
    refine ow_val (val_load_at 8 rfl rfl Tryd.isAgg24 (ask_33 hll)) rfl ?_   -- 156
    refine ow_val (val_fieldAddr (m := 0) (e := 34) rfl Tryd.underlying27 rfl rfl Tryd.sizeOf24 rfl) rfl ?_   -- 157
    refine ow_val (val_load_at 8 rfl rfl Tryd.isAgg24 (ask_34 hll)) rfl ?_   -- 158
    refine ow_val (val_fieldAddr (m := 0) (e := 35) rfl Tryd.underlying27 rfl rfl Tryd.sizeOf25 rfl) rfl ?_   -- 159
    refine ow_val (val_load_at 8 rfl rfl Tryd.isAgg25 (ask_35 hll)) rfl ?_   -- 160
    refine ow_val (val_load_all 4 rfl rfl Tryd.isAgg23 Tryd.sizeOf23 (by show (List.map vU8 ((rootO v0 leaf i n proof).1)).length = _; rw [List.length_map]; exact (rootO_len hll))) rfl ?_   -- 161
    refine ow_call_pure (callsTo Tryd.func17 rfl (by kernel_rfl) rfl) rfl (fun w hm => rincl_any v0 leaf hll i n ((rootO v0 leaf i n proof).1) (rootO_len hll) w (hK.mem0 hm) a proof.length c proof rfl hpl (hr.mem hm) (by omega) (by omega) (mul32 (by omega))) ?_   -- 162
    refine ow_val ((val_neq_int rfl rfl).to (v' := .bool false) (congrArg Value.bool (decide_eq_false (fun h => h rfl)))) rfl ?_   -- 163
    refine ow_val (val_move rfl) rfl ?_   -- 164
    refine ow_guard_yes rfl rfl rfl ?_
    refine ow_val (val_move rfl) rfl ?_   -- 165
    refine ow_guard_yes rfl rfl rfl ?_
    refine ow_val (val_fieldAddr (m := 0) (e := 0) rfl Tryd.underlying27 rfl rfl Tryd.sizeOf3 rfl) rfl ?_   -- 166
    refine ow_guard_yes rfl rfl rfl ?_
    refine ow_val (val_load_at 8 rfl rfl Tryd.isAgg3 rfl) rfl ?_   -- 167
    refine ow_guard_yes rfl rfl rfl ?_
    refine ow_val (val_fieldAddr (m := 0) (e := 33) rfl Tryd.underlying27 rfl rfl Tryd.sizeOf24 rfl) rfl ?_   -- 168
    refine ow_guard_yes rfl rfl rfl ?_
    refine ow_val (val_load_at 8 rfl rfl Tryd.isAgg24 (ask_33 hll)) rfl ?_   -- 169
    refine ow_guard_yes rfl rfl rfl ?_
    refine ow_val (val_fieldAddr (m := 0) (e := 34) rfl Tryd.underlying27 rfl rfl Tryd.sizeOf24 rfl) rfl ?_   -- 170
    refine ow_guard_yes rfl rfl rfl ?_
    refine ow_val (val_load_at 8 rfl rfl Tryd.isAgg24 (ask_34 hll)) rfl ?_   -- 171
    refine ow_guard_yes rfl rfl rfl ?_
    refine ow_val (val_fieldAddr (m := 31) (e := 1) rfl Tryd.underlying27 rfl rfl Tryd.sizeOf23 rfl) rfl ?_   -- 172
    refine ow_guard_yes rfl rfl rfl ?_
    refine ow_val (val_load_part 8 rfl rfl Tryd.isAgg23 Tryd.sizeOf23 (by show (List.map vU8 leaf).length = _; rw [List.length_map]; exact hll) (ask_leaf hll)) rfl ?_   -- 173
    refine ow_guard_yes rfl rfl rfl ?_
    refine ow_val (val_load_all 0 rfl rfl Tryd.isAgg23 Tryd.sizeOf23 (by show (List.map vU8 ((rootsO v0 i n leaf proof).1.2)).length = _; rw [List.length_map]; exact (rootsO_len hll hpl).2)) rfl ?_   -- 174
    refine ow_guard_yes rfl rfl rfl ?_
    refine ow_val (val_fieldAddr (m := 0) (e := 35) rfl Tryd.underlying27 rfl rfl Tryd.sizeOf25 rfl) rfl ?_   -- 175
    refine ow_guard_yes rfl rfl rfl ?_
    refine ow_val (val_load_at 8 rfl rfl Tryd.isAgg25 (ask_35 hll)) rfl ?_   -- 176
    refine ow_guard_yes rfl rfl rfl ?_
    refine ow_call_pure (callsTo Tryd.func24 rfl (by kernel_rfl) rfl) rfl (fun w hm => rcons_any v0 leaf hll i n ((rootsO v0 i n leaf proof).1.2) (rootsO_len hll hpl).2 w (hK.mem0 hm) a proof.length c proof rfl hpl (hr.mem hm) (by omega) (by omega) (mul32 (by omega))) ?_   -- 177
    refine ow_guard_yes rfl rfl rfl ?_
    refine ow_val ((val_neq_int rfl rfl).to (v' := .bool false) (congrArg Value.bool (decide_eq_false (fun h => h rfl)))) rfl ?_   -- 178
    refine ow_val (val_pick_false rfl rfl) rfl ?_   -- 179
    refine ow_nil (into ?_)
    refine sw_false rfl rfl ?_
    refine sw_skip (into ?_)
    refine sw_region ?_
    refine ow_val (val_add_int ((j + 1 : Nat) : Int) rfl rfl (by omega) (by omega)) rfl ?_   -- 180
    refine ow_val (val_move rfl) rfl ?_   -- 41
    exact ow_nil (fun w hm => ⟨j + 1, by omega, by omega, ⟨rfl, rfl, rfl, rfl, rfl, rfl, trivial⟩, hm.only (.cons _ (.cons _ (.cons _ (.cons _ (.cons _ (.cons _ (.cons_cons _ (.cons_cons _ (.cons_cons _ (List.nil_sublist _))))))))))⟩)
  · -- else
    refine sw_exit (into ?_)
    refine sw_seq ?_
    refine sw_region ?_
    refine ow_val (val_move rfl) rfl ?_   -- 181
    refine ow_val (val_move rfl) rfl ?_   -- 182
    obtain ⟨hrl, h9 | ⟨bf, capf, restf, hvf, hcf, hcf2, hlf, hef⟩⟩ := hr33'
    · exact absurd h9.2.1 (by omega)
    simp only [Value.slice.injEq, true_and] at hvf
    obtain ⟨rfl, rfl⟩ := hvf
    subst hef
    have hkm : min other.length proof.length ≤ proof.length := Nat.min_le_right _ _
    have hko : min other.length proof.length ≤ other.length := Nat.min_le_left _ _
    have hcd := copy_dgs (q := [kD7, kD9]) (rest := restf) hpl hol hkm hko
    obtain ⟨P2, hP2⟩ : ∃ P, other.take (min other.length proof.length) ++ proof.drop (min other.length proof.length) = P := ⟨_, rfl⟩
    rw [hP2] at hcd
    have hP2l : P2.length = proof.length := by rw [← hP2, List.length_append, List.length_take, List.length_drop]; omega
    have hP2e : ∀ d ∈ P2, d.length = 32 := fun d hd => by rw [← hP2] at hd; exact (List.mem_append.1 hd).elim (fun h => hol d (List.mem_of_mem_take h)) (fun h => hpl d (List.mem_of_mem_drop h))
    refine ow_act_eq (acts_copy_to (size := 32) (min other.length proof.length) (((P2 ++ [kD7, kD9]).flatMap fun d => d.map vU8) ++ restf) 1 rfl rfl rfl Tryd.underlying25 Tryd.sizeOf23 (fun w hm => hor.mem hm) (flatMap_size' rfl hol) (one_dgs _) (by rw [hlf]; omega) rfl hcd) rfl ?_
    refine ow_nil (into ?_)
    refine sw_seq ?_
    refine sw_region ?_
    refine ow_val (val_move rfl) rfl ?_   -- 184
    refine ow_call_row (E := 23) (size := 32) (k := proof.length) (xs := (P2.flatMap fun d => d.map vU8)) (callsTo Tryd.func13 rfl (by kernel_rfl) rfl) rfl (fun w hm => twin_any w (some ⟨bf, 0, none⟩) proof.length c33 P2 hP2l hP2e (Rd.preD (Rd.pre (Rd.blk (hm.at (i := 1) rfl)))) (by omega) (by omega) (mul32 (by omega))) (fun a185 c185 e185 hr185 => ?_)   -- 185
    refine ow_val (val_assign rfl) rfl ?_   -- 20
    refine ow_nil (into ?_)
    refine sw_seq ?_
    refine sw_region ?_
    refine ow_val (val_fieldAddr (m := 0) (e := 0) rfl Tryd.underlying27 rfl rfl Tryd.sizeOf3 rfl) rfl ?_   -- 187
    refine ow_val (val_load_at 3 rfl rfl Tryd.isAgg3 rfl) rfl ?_   -- 188
    refine ow_val (val_fieldAddr (m := 31) (e := 1) rfl Tryd.underlying27 rfl rfl Tryd.sizeOf23 rfl) rfl ?_   -- 189
    refine ow_val (val_load_part 3 rfl rfl Tryd.isAgg23 Tryd.sizeOf23 (by show (List.map vU8 leaf).length = _; rw [List.length_map]; exact hll) (ask_leaf hll)) rfl ?_   -- 190
    refine ow_val (val_fieldAddr (m := 0) (e := 33) rfl Tryd.underlying27 rfl rfl Tryd.sizeOf24 rfl) rfl ?_   -- 191
    refine ow_val (val_load_at 3 rfl rfl Tryd.isAgg24 (ask_33 hll)) rfl ?_   -- 192
    refine ow_val (val_fieldAddr (m := 0) (e := 34) rfl Tryd.underlying27 rfl rfl Tryd.sizeOf24 rfl) rfl ?_   -- 193
    refine ow_val (val_load_at 3 rfl rfl Tryd.isAgg24 (ask_34 hll)) rfl ?_   -- 194
    refine ow_val (val_move rfl) rfl ?_   -- 195
    refine ow_call_pure (callsTo Tryd.func12 rfl (by kernel_rfl) rfl) rfl (fun w hm => mroot_any v0 leaf hll i n w (hK.mem0 hm) (some ⟨bf, 0, none⟩) proof.length c33 P2 hP2l hP2e (Rd.preD (Rd.pre (Rd.blk (hm.at (i := 2) rfl)))) (by omega) (by omega) (mul32 (by omega))) ?_   -- 196
    refine ow_val (val_move rfl) rfl ?_   -- 186
    refine ow_val (val_extract rfl rfl) rfl ?_   -- 197
    refine ow_val (val_extract rfl rfl) rfl ?_   -- 198
    refine ow_new (acts_alloc zD) rfl (fun b21 hb21 => ?_)   -- 21
    refine ow_do_eq (does_store_all 0 rfl rfl rfl (one_u8s _) Tryd.sizeOf23 (by show (List.map vU8 ((rootO v0 leaf i n P2).1)).length = _; rw [List.length_map]; exact (rootO_len hll)) (by show (List.map vU8 zeros32).length = _; rw [List.length_map]; exact zeros32_len)) ?_
    refine ow_val (val_assign rfl) rfl ?_   -- 22
    refine ow_nil (into ?_)
    refine sw_seq ?_
    refine sw_region ?_
    refine ow_val (val_fieldAddr (m := 0) (e := 0) rfl Tryd.underlying27 rfl rfl Tryd.sizeOf3 rfl) rfl ?_   -- 200
    refine ow_val (val_load_at 4 rfl rfl Tryd.isAgg3 rfl) rfl ?_   -- 201
    refine ow_val (val_fieldAddr (m := 31) (e := 1) rfl Tryd.underlying27 rfl rfl Tryd.sizeOf23 rfl) rfl ?_   -- 202
    refine ow_val (val_load_part 4 rfl rfl Tryd.isAgg23 Tryd.sizeOf23 (by show (List.map vU8 leaf).length = _; rw [List.length_map]; exact hll) (ask_leaf hll)) rfl ?_   -- 203
    refine ow_val (val_fieldAddr (m := 0) (e := 33) rfl Tryd.underlying27 rfl rfl Tryd.sizeOf24 rfl) rfl ?_   -- 204
    refine ow_val (val_load_at 4 rfl rfl Tryd.isAgg24 (ask_33 hll)) rfl ?_   -- 205
    refine ow_val (val_fieldAddr (m := 0) (e := 34) rfl Tryd.underlying27 rfl rfl Tryd.sizeOf24 rfl) rfl ?_   -- 206
    refine ow_val (val_load_at 4 rfl rfl Tryd.isAgg24 (ask_34 hll)) rfl ?_   -- 207
    refine ow_val (val_move rfl) rfl ?_   -- 208
    refine ow_call_pure (callsTo Tryd.func14 rfl (by kernel_rfl) rfl) rfl (fun w hm => rroot_any v0 leaf hll i n w (hK.mem0 hm) a185 proof.length c185 P2 hP2l hP2e (hr185.rdAt hm (i := 1) rfl) hr185.le (by omega) (mul32 (by omega))) ?_   -- 209
    refine ow_val (val_move rfl) rfl ?_   -- 199
    refine ow_val (val_extract rfl rfl) rfl ?_   -- 210
    refine ow_val (val_extract rfl rfl) rfl ?_   -- 211
    refine ow_new (acts_alloc zD) rfl (fun b23 hb23 => ?_)   -- 23
    refine ow_do_eq (does_store_all 0 rfl rfl rfl (one_u8s _) Tryd.sizeOf23 (by show (List.map vU8 ((rootO v0 leaf i n P2).1)).length = _; rw [List.length_map]; exact (rootO_len hll)) (by show (List.map vU8 zeros32).length = _; rw [List.length_map]; exact zeros32_len)) ?_
    refine ow_val (val_assign rfl) rfl ?_   -- 24
    refine ow_nil (into ?_)
    refine sw_seq ?_
    refine sw_region ?_
    refine ow_val (val_load_all 1 rfl rfl Tryd.isAgg23 Tryd.sizeOf23 (by show (List.map vU8 ((rootO v0 leaf i n P2).1)).length = _; rw [List.length_map]; exact (rootO_len hll))) rfl ?_   -- 212
    refine ow_val (val_load_all 0 rfl rfl Tryd.isAgg23 Tryd.sizeOf23 (by show (List.map vU8 ((rootO v0 leaf i n P2).1)).length = _; rw [List.length_map]; exact (rootO_len hll))) rfl ?_   -- 213
    refine ow_val ((val_eql_u8s rfl rfl Tryd.eqGuardType23 Tryd.underlying23 Tryd.underlying5 Tryd.sizeOf5 Tryd.isAgg5 (rootO_len hll) (rootO_len hll)).to (congrArg Value.bool (show _ = true by simp [txt]))) rfl ?_   -- 214
    refine ow_val (val_move rfl) rfl ?_   -- 215
    refine ow_guard_yes rfl rfl rfl ?_
    refine ow_val (val_move rfl) rfl ?_   -- 216
    refine ow_guard_yes rfl rfl rfl ?_
    refine ow_val (val_move rfl) rfl ?_   -- 217
    refine ow_guard_yes rfl rfl rfl ?_
    refine ow_val ((val_eql_int rfl rfl).to (v' := .bool true) (congrArg Value.bool (decide_eq_true rfl))) rfl ?_   -- 218
    refine ow_val (val_pick_true rfl rfl) rfl ?_   -- 219
    refine ow_val (val_move rfl) rfl ?_   -- 220
    refine ow_guard_yes rfl rfl rfl ?_
    refine ow_val (val_move rfl) rfl ?_   -- 221
    refine ow_guard_yes rfl rfl rfl ?_
    refine ow_val (val_move rfl) rfl ?_   -- 222
    refine ow_guard_yes rfl rfl rfl ?_
    refine ow_call_pure (v := .bool true) (callsTo Tryd.func25 rfl (by kernel_rfl) rfl) rfl (fun w hm => (by have h := same_any w (some ⟨bf, 0, none⟩) proof.length c33 P2 hP2l hP2e (Rd.preD (Rd.pre (Rd.blk (hm.at (i := 4) rfl)))) (by omega) (by omega) a185 proof.length c185 P2 hP2l hP2e (hr185.rdAt hm (i := 2) rfl) hr185.le (by omega); rw [decide_eq_true rfl] at h; exact h)) ?_   -- 223
    refine ow_val (val_pick_true rfl rfl) rfl ?_   -- 224
    refine ow_val (val_move rfl) rfl ?_   -- 225
    refine ow_guard_yes rfl rfl rfl ?_
    refine ow_val (val_move rfl) rfl ?_   -- 226
    by_cases hz : (rootO v0 leaf i n P2).2 = 0
    · -- yes
      refine ow_guard_yes rfl rfl rfl ?_
      refine ow_val ((val_eql_int rfl rfl).to (congrArg Value.bool (decide_eq_true (by omega)))) rfl ?_   -- 227
      refine ow_guard_yes rfl rfl rfl ?_
      refine ow_val (val_move rfl) rfl ?_   -- 228
      first | refine ow_guard_no rfl rfl rfl rfl rfl ?_ | refine ow_guard_none rfl rfl rfl rfl rfl ?_
      first | refine ow_guard_no rfl rfl rfl rfl rfl ?_ | refine ow_guard_none rfl rfl rfl rfl rfl ?_
      first | refine ow_guard_no rfl rfl rfl rfl rfl ?_ | refine ow_guard_none rfl rfl rfl rfl rfl ?_
      refine ow_guard_yes rfl rfl rfl ?_
      refine ow_val (val_pick_true rfl rfl) rfl ?_   -- 232
      refine ow_val (val_pick_true rfl rfl) rfl ?_   -- 233
      refine ow_val (val_assign rfl) rfl ?_   -- 4
      refine ow_nil (into ?_)
      exact sw_ret (fun w hm => ret_one _ rfl rfl ⟨rfl, hm.forgetAll⟩)
    · -- no
      refine ow_guard_yes rfl rfl rfl ?_
      refine ow_val ((val_eql_int rfl rfl).to (congrArg Value.bool (decide_eq_false (by omega)))) rfl ?_   -- 227
      refine ow_guard_yes rfl rfl rfl ?_
      refine ow_val (val_move rfl) rfl ?_   -- 228
      refine ow_guard_yes rfl rfl rfl ?_
      refine ow_val (val_load_all 1 rfl rfl Tryd.isAgg23 Tryd.sizeOf23 (by show (List.map vU8 ((rootO v0 leaf i n P2).1)).length = _; rw [List.length_map]; exact (rootO_len hll))) rfl ?_   -- 229
      refine ow_guard_yes rfl rfl rfl ?_
      refine ow_val (val_build' (cs := zeros32.map vU8) rfl (by kernel_rfl)) rfl ?_   -- 230
      refine ow_guard_yes rfl rfl rfl ?_
      refine ow_val ((val_eql_u8s rfl rfl Tryd.eqGuardType23 Tryd.underlying23 Tryd.underlying5 Tryd.sizeOf5 Tryd.isAgg5 (rootO_len hll) zeros32_len).to (congrArg Value.bool (decide_eq_true ((rootO_zero hz))))) rfl ?_   -- 231
      refine ow_guard_yes rfl rfl rfl ?_
      refine ow_val (val_pick_false rfl rfl) rfl ?_   -- 232
      refine ow_val (val_pick_true rfl rfl) rfl ?_   -- 233
      refine ow_val (val_assign rfl) rfl ?_   -- 4
      refine ow_nil (into ?_)
      exact sw_ret (fun w hm => ret_one _ rfl rfl ⟨rfl, hm.forgetAll⟩)
end Go.Proofs.YtbhbhdojmacpmaaDoor
