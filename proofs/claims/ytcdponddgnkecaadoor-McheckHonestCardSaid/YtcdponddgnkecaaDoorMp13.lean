import Derived.Test.YtcdponddgnkecaaDoorMp6
import Derived.Test.YtcdponddgnkecaaDoorMck4
import Derived.Test.YtcdponddgnkecaaDoorPMh
import Derived.Test.YtcdponddgnkecaaDoorProg
set_option linter.unusedVariables false
set_option linter.unusedSimpArgs false
namespace Go.Proofs.YtcdponddgnkecaaDoor
open Go.Sx Go.Ps
theorem seg_takeW {l : List (List UInt8)} {m n : Nat} (h : m ≤ n) : (seg l 0 n).take m = seg l 0 m := by
  rw [seg, seg, List.drop_zero, List.take_take, Nat.sub_zero, Nat.sub_zero, Nat.min_eq_left h]
theorem rngU (k : Nat) {l : List (List UInt8)} {n : UInt64} (h : n.toNat ≤ l.length) : rngO k l 0 n = (lg k (seg l 0 n.toNat), 0) := by
  rw [rngO, if_neg]; · rfl
  rw [UInt64.lt_iff_toNat_lt, show (0 : UInt64).toNat = 0 from rfl]; omega
/-- What is kept of a list: at most 300 digests of the width. -/
def kst (v0 : Int) (out : List (List UInt8)) (d : List UInt8) : List (List UInt8) := if out.length < 300 ∧ fm v0 d = true then out ++ [d] else out
def kl (v0 : Int) (l : List (List UInt8)) (j : Nat) : List (List UInt8) := (l.take j).foldl (kst v0) []
theorem kl_succ {v0 : Int} {l : List (List UInt8)} {j : Nat} (h : j < l.length) : kl v0 l (j + 1) = kst v0 (kl v0 l j) (l.getD j default) := by
  rw [kl, ← take_succ_getD h, List.foldl_append]; rfl
theorem kst_ok {v0 : Int} {out : List (List UInt8)} {d : List UInt8} (ho : (∀ x ∈ out, x.length = 32 ∧ fm v0 x = true) ∧ out.length ≤ 300) (hd : d.length = 32) : (∀ x ∈ kst v0 out d, x.length = 32 ∧ fm v0 x = true) ∧ (kst v0 out d).length ≤ 300 := by
  unfold kst; split
  · rename_i h
    refine ⟨fun x hx => ?_, by rw [List.length_append]; simp; omega⟩
    rcases List.mem_append.1 hx with hx | hx
    · exact ho.1 x hx
    · rw [List.mem_singleton.1 hx]; exact ⟨hd, h.2⟩
  · exact ho
theorem kl_ok {v0 : Int} {l : List (List UInt8)} (hl : ∀ d ∈ l, d.length = 32) : ∀ j, j ≤ l.length → (∀ x ∈ kl v0 l j, x.length = 32 ∧ fm v0 x = true) ∧ (kl v0 l j).length ≤ 300
  | 0, _ => ⟨fun x hx => (by rw [kl, List.take_zero] at hx; cases hx), by rw [kl, List.take_zero]; exact Nat.zero_le _⟩
  | j + 1, h => by rw [kl_succ (by omega)]; exact kst_ok (kl_ok hl j (by omega)) (hl _ (getD_mem (by omega)))

theorem tree12_no (v0 : Int) (hwd : wd v0 = false) (w : World) (a : Option Addr) (c : Nat) (l : List (List UInt8)) (hdl : ∀ d ∈ l, d.length = 32) (hr : Rd w a (l.flatMap fun d => d.map vU8)) (hc : l.length ≤ c) (hb : l.length * 32 ≤ 140737488351232) : Calls Tryd.prog 31 #[vInt v0, .slice a l.length c] w fun e w' => ∃ v, e = .returned v ∧ v = .tuple #[.pointer none, .slice none 0 0, .bool false] ∧ Mem w [] [] w' := by
  obtain ⟨tiD, hDi, hDz, hDsz, hDby⟩ := info_parts iDg
  refine calls_of_sw (vs := [vInt v0, .slice a l.length c]) Tryd.func31 rfl Tryd.ntmps31 rfl (SW.begin ?_)
  refine sw_seq ?_
  refine sw_region ?_
  refine ow_val (val_assign rfl) rfl ?_
  refine ow_val (val_assign rfl) rfl ?_
  refine ow_val (val_assign rfl) rfl ?_
  refine ow_nil (into ?_)
  refine sw_seq ?_
  refine sw_region ?_
  refine ow_val (val_assign rfl) rfl ?_
  refine ow_nil (into ?_)
  refine sw_seq ?_
  refine sw_seq ?_
  refine sw_region ?_
  refine ow_val (val_move rfl) rfl ?_
  refine ow_val (val_len rfl Tryd.underlying22) rfl ?_
  refine ow_val (val_move rfl) rfl ?_
  refine ow_nil (into ?_)
  refine sw_block ?_
  refine sw_loop (σ := Nat × Option Addr × Nat × List (List UInt8) × Ent) (fun t => t.1 ≤ l.length ∧ kl v0 l t.1 = t.2.2.2.1 ∧ RowE (.slice t.2.1 t.2.2.2.1.length t.2.2.1) 41 32 t.2.2.2.1.length (t.2.2.2.1.flatMap fun d => d.map vU8) t.2.2.2.2) (fun t => [(15, vInt (t.1 : Int)), (14, vInt (l.length : Int)), (13, .slice a l.length c), (7, .slice t.2.1 t.2.2.2.1.length t.2.2.1), (0, vInt v0)]) (fun t => Mem w [] [t.2.2.2.2]) (fun t => l.length - t.1) (0, none, 0, [], none) ⟨Nat.zero_le _, by rw [kl, List.take_zero]; rfl, RowE.nil _ _⟩ ⟨rfl, rfl, rfl, rfl, rfl, trivial⟩ (fun w hm => hm.place) ?_
  rintro ⟨j, a7, c7, X, e7⟩ ⟨hj, hX, hrow⟩
  simp only at hj hX hrow ⊢
  have hXo := kl_ok (v0 := v0) hdl j hj
  rw [hX] at hXo
  have hXd := fun d hd => (hXo.1 d hd).1
  have hXf := fun d hd => (hXo.1 d hd).2
  have hXn := hXo.2
  refine sw_seq ?_
  refine sw_region ?_
  refine ow_val (val_lss_int rfl rfl) rfl ?_
  refine ow_nil (into ?_)
  refine sw_seq ?_
  refine sw_if rfl (fun h0 => ?_) (fun h0 => ?_)
  · -- then
    obtain ⟨ba, oa, rfl⟩ := hr.addr (by rw [flatMap_size' rfl hdl]; omega)
    obtain ⟨d, hd⟩ : ∃ z, l.getD j default = z := ⟨_, rfl⟩
    have hd0 : d.length = 32 := by rw [← hd]; exact hdl _ (getD_mem (by omega))
    have hks : kl v0 l (j + 1) = kst v0 X d := by rw [kl_succ (by omega), hX, hd]
    refine sw_skip (into ?_)
    refine sw_seq ?_
    refine sw_block ?_
    refine sw_seq ?_
    refine sw_region ?_
    refine ow_val (val_indexAddr_slice (j) (oa + j * 32) rfl rfl Tryd.underlying22 Tryd.sizeOf41 (by omega) (by omega) (by omega)) rfl ?_
    refine ow_val ((val_load_elem (cells := fun d => d.map vU8) (l := l) (o := oa) (i := j) rfl Tryd.isAgg41 Tryd.sizeOf41 (fun x hx => by rw [List.length_map]; exact hdl x hx) (by omega) (by omega) (fun w' hm => hr.mem hm)).to (v' := .agg (d.map vU8).toArray) (by rw [hd])) rfl ?_
    refine ow_new (acts_alloc zD) rfl (fun b9 hb9 => ?_)
    refine ow_do_eq (does_store_all 0 rfl rfl rfl (one_u8s _) Tryd.sizeOf41 (by show (List.map vU8 d).length = _; rw [List.length_map]; exact hd0) (by show (List.map vU8 zeros32).length = _; rw [List.length_map]; exact zeros32_len)) ?_
    refine ow_nil (into ?_)
    refine sw_seq ?_
    rcases (show (X.length < 300 ∧ fm v0 d = true) ∨ (X.length < 300 ∧ fm v0 d = false) ∨ ¬ X.length < 300 by cases fm v0 d <;> simp <;> omega) with ⟨h300, hfd⟩ | ⟨h300, hfd⟩ | h300
    · -- case
      refine sw_region ?_
      refine ow_val (val_move rfl) rfl ?_
      refine ow_val (val_len rfl Tryd.underlying22) rfl ?_
      refine ow_val ((val_lss_int rfl rfl).to (congrArg Value.bool (decide_eq_true ((by omega))))) rfl ?_
      refine ow_val (val_move rfl) rfl ?_
      refine ow_guard_yes rfl rfl rfl ?_
      refine ow_val (val_move rfl) rfl ?_
      refine ow_guard_yes rfl rfl rfl ?_
      refine ow_val (val_load_all 0 rfl rfl Tryd.isAgg41 Tryd.sizeOf41 (by show (List.map vU8 d).length = _; rw [List.length_map]; exact hd0)) rfl ?_
      refine ow_guard_yes rfl rfl rfl ?_
      refine ow_call_pure (v := .bool true) (callsTo Tryd.func61 rfl (by kernel_rfl) rfl) rfl (fun w hm => form_is hfd hd0 w) ?_
      refine ow_val (val_pick_true rfl rfl) rfl ?_
      refine ow_nil (into ?_)
      refine sw_true rfl rfl ?_
      refine sw_region ?_
      refine ow_val (val_move rfl) rfl ?_
      refine ow_val (val_load_all 0 rfl rfl Tryd.isAgg41 Tryd.sizeOf41 (by show (List.map vU8 d).length = _; rw [List.length_map]; exact hd0)) rfl ?_
      refine ow_make (acts_buildSlice (cs := [d.map vU8].flatten) Tryd.underlying22 Tryd.sizeOf41 zD rfl rfl (fill_aggs [d.map vU8] (by decide) rfl (by simp only [List.forall_mem_cons, List.length_map]; exact ⟨hd0, fun _ h => by cases h⟩))) rfl (fun b29 hb29 => ?_)
      refine ow_append' (k := (X ++ [d]).length) (xs := (X ++ [d]).flatMap fun d => d.map vU8) (acts_row (acts_append (size := 32) (bytes := 32) 2 rfl rfl rfl hrow rfl Tryd.underlying22 hDi hDz hDsz hDby rfl (by decide) (fun w hm => (Rd.blk (hm.at (i := 0) rfl))) (by simp only [List.flatten_cons, List.flatten_nil, List.append_nil, List.length_append, List.length_map, hd0]) (fun u hu => by simp only [List.flatten_cons, List.flatten_nil, List.append_nil, List.mem_append] at hu; rcases hu with hu <;> exact one_u8s _ u hu) (by omega) (by omega)) (by rw [List.length_append]; rfl) (by simp only [List.flatMap_append, List.flatMap_cons, List.flatMap_nil, List.flatten_cons, List.flatten_nil, List.nil_append, List.append_nil])) rfl (fun a30 c30 e30 hr30' => ?_)
      refine ow_val (val_assign rfl) rfl ?_
      refine ow_nil (into ?_)
      refine sw_region ?_
      refine ow_val (val_add_int ((j + 1 : Nat) : Int) rfl rfl (by omega) (by omega)) rfl ?_
      refine ow_val (val_move rfl) rfl ?_
      exact ow_nil (fun w hm => ⟨(j + 1, a30, c30, (X ++ [d]), e30), ⟨by dsimp only; omega, by dsimp only; rw [hks, kst, if_pos ⟨h300, hfd⟩], hr30'⟩, by dsimp only; omega, ⟨rfl, rfl, rfl, rfl, rfl, trivial⟩, hm.only (.cons _ (.cons _ (.cons_cons _ (List.nil_sublist _))))⟩)
    · -- case
      refine sw_region ?_
      refine ow_val (val_move rfl) rfl ?_
      refine ow_val (val_len rfl Tryd.underlying22) rfl ?_
      refine ow_val ((val_lss_int rfl rfl).to (congrArg Value.bool (decide_eq_true ((by omega))))) rfl ?_
      refine ow_val (val_move rfl) rfl ?_
      refine ow_guard_yes rfl rfl rfl ?_
      refine ow_val (val_move rfl) rfl ?_
      refine ow_guard_yes rfl rfl rfl ?_
      refine ow_val (val_load_all 0 rfl rfl Tryd.isAgg41 Tryd.sizeOf41 (by show (List.map vU8 d).length = _; rw [List.length_map]; exact hd0)) rfl ?_
      refine ow_guard_yes rfl rfl rfl ?_
      refine ow_call_pure (v := .bool false) (callsTo Tryd.func61 rfl (by kernel_rfl) rfl) rfl (fun w hm => form_is hfd hd0 w) ?_
      refine ow_val (val_pick_true rfl rfl) rfl ?_
      refine ow_nil (into ?_)
      refine sw_false rfl rfl ?_
      refine sw_skip (into ?_)
      refine sw_region ?_
      refine ow_val (val_add_int ((j + 1 : Nat) : Int) rfl rfl (by omega) (by omega)) rfl ?_
      refine ow_val (val_move rfl) rfl ?_
      exact ow_nil (fun w hm => ⟨(j + 1, a7, c7, X, e7), ⟨by dsimp only; omega, by dsimp only; rw [hks, kst, if_neg (fun h => by rw [hfd] at h; cases h.2)], hrow⟩, by dsimp only; omega, ⟨rfl, rfl, rfl, rfl, rfl, trivial⟩, hm.only (.cons _ (.cons_cons _ (List.nil_sublist _)))⟩)
    · -- case
      refine sw_region ?_
      refine ow_val (val_move rfl) rfl ?_
      refine ow_val (val_len rfl Tryd.underlying22) rfl ?_
      refine ow_val ((val_lss_int rfl rfl).to (congrArg Value.bool (decide_eq_false ((by omega))))) rfl ?_
      refine ow_val (val_move rfl) rfl ?_
      first | refine ow_guard_no rfl rfl rfl rfl rfl ?_ | refine ow_guard_none rfl rfl rfl rfl rfl ?_
      first | refine ow_guard_no rfl rfl rfl rfl rfl ?_ | refine ow_guard_none rfl rfl rfl rfl rfl ?_
      first | refine ow_guard_no rfl rfl rfl rfl rfl ?_ | refine ow_guard_none rfl rfl rfl rfl rfl ?_
      refine ow_val (val_pick_false rfl rfl) rfl ?_
      refine ow_nil (into ?_)
      refine sw_false rfl rfl ?_
      refine sw_skip (into ?_)
      refine sw_region ?_
      refine ow_val (val_add_int ((j + 1 : Nat) : Int) rfl rfl (by omega) (by omega)) rfl ?_
      refine ow_val (val_move rfl) rfl ?_
      exact ow_nil (fun w hm => ⟨(j + 1, a7, c7, X, e7), ⟨by dsimp only; omega, by dsimp only; rw [hks, kst, if_neg (fun h => h300 h.1)], hrow⟩, by dsimp only; omega, ⟨rfl, rfl, rfl, rfl, rfl, trivial⟩, hm.only (.cons _ (.cons_cons _ (List.nil_sublist _)))⟩)
  · -- else
    obtain rfl : l.length = j := by omega
    refine sw_exit (into ?_)
    refine sw_seq ?_
    refine sw_region ?_
    refine ow_val (val_move rfl) rfl ?_
    refine ow_call_pure (v := .tuple #[.pointer none, vInt ((1 : Nat) : Int)]) (callsTo Tryd.func36 rfl (by kernel_rfl) rfl) rfl (fun w hm => new_no v0 hwd w) ?_
    refine ow_val (val_move rfl) rfl ?_
    refine ow_val (val_extract rfl rfl) rfl ?_
    refine ow_val (val_extract rfl rfl) rfl ?_
    refine ow_val (val_assign rfl) rfl ?_
    refine ow_val (val_assign rfl) rfl ?_
    refine ow_nil (into ?_)
    refine sw_seq ?_
    refine sw_seq ?_
    refine sw_region ?_
    refine ow_val (val_move rfl) rfl ?_
    refine ow_val ((val_neq_int rfl rfl).to (v' := .bool true) (congrArg Value.bool (decide_eq_true (by simp)))) rfl ?_
    refine ow_nil (into ?_)
    refine sw_true rfl rfl ?_
    refine sw_seq ?_
    refine sw_region ?_
    refine ow_val (val_assign rfl) rfl ?_
    refine ow_val (val_assign rfl) rfl ?_
    refine ow_val (val_assign rfl) rfl ?_
    refine ow_nil (into ?_)
    refine sw_ret (fun w hm => ?_)
    try dsimp only [thenP, blockP, Nat.beq, cond]
    exact ret_ttt rfl rfl rfl rfl ⟨rfl, hm.forgetAll⟩

theorem tree12_yes (k : Nat) (h1 : 1 ≤ k) (h2 : k ≤ 32) (w : World) (hK : KW w) (a : Option Addr) (c : Nat) (l : List (List UInt8)) (hdl : ∀ d ∈ l, d.length = 32) (hr : Rd w a (l.flatMap fun d => d.map vU8)) (hc : l.length ≤ c) (hb : l.length * 32 ≤ 140737488351232) : Calls Tryd.prog 31 #[vInt (k : Int), .slice a l.length c] w fun e w' => ∃ u, e = .returned u ∧ ∃ s : Nat × Option Addr × Nat × List Ent, u = .tuple #[vPtr s.1, .slice s.2.1 (kl (k : Int) l l.length).length s.2.2.1, .bool true] ∧ (TrOn 110 79 k s.2.2.2 s.1 (kl (k : Int) l l.length) ∧ RdOn s.2.2.2 s.2.1 ((kl (k : Int) l l.length).flatMap fun d => d.map vU8) ∧ (kl (k : Int) l l.length).length ≤ s.2.2.1 ∧ (0 < (kl (k : Int) l l.length).length → ∃ b o, s.2.1 = some ⟨b, o, none⟩)) ∧ Mem w [] s.2.2.2 w' := by
  obtain ⟨tiD, hDi, hDz, hDsz, hDby⟩ := info_parts iDg
  have hn0 : ∀ d ∈ ([] : List (List UInt8)), d.length = 32 := fun _ h => by cases h
  have hn1 : ∀ d ∈ ([] : List (List UInt8)), fm (k : Int) d = true := fun _ h => by cases h
  have hnn : ([] : List (List UInt8)).length = 0 := rfl
  refine calls_of_sw (vs := [vInt (k : Int), .slice a l.length c]) Tryd.func31 rfl Tryd.ntmps31 rfl (SW.begin ?_)
  refine sw_seq ?_
  refine sw_region ?_
  refine ow_val (val_assign rfl) rfl ?_
  refine ow_val (val_assign rfl) rfl ?_
  refine ow_val (val_assign rfl) rfl ?_
  refine ow_nil (into ?_)
  refine sw_seq ?_
  refine sw_region ?_
  refine ow_val (val_assign rfl) rfl ?_
  refine ow_nil (into ?_)
  refine sw_seq ?_
  refine sw_seq ?_
  refine sw_region ?_
  refine ow_val (val_move rfl) rfl ?_
  refine ow_val (val_len rfl Tryd.underlying22) rfl ?_
  refine ow_val (val_move rfl) rfl ?_
  refine ow_nil (into ?_)
  refine sw_block ?_
  refine sw_loop (σ := Nat × Option Addr × Nat × List (List UInt8) × Ent) (fun t => t.1 ≤ l.length ∧ kl (k : Int) l t.1 = t.2.2.2.1 ∧ RowE (.slice t.2.1 t.2.2.2.1.length t.2.2.1) 41 32 t.2.2.2.1.length (t.2.2.2.1.flatMap fun d => d.map vU8) t.2.2.2.2) (fun t => [(15, vInt (t.1 : Int)), (14, vInt (l.length : Int)), (13, .slice a l.length c), (7, .slice t.2.1 t.2.2.2.1.length t.2.2.1), (0, vInt (k : Int))]) (fun t => Mem w [] [t.2.2.2.2]) (fun t => l.length - t.1) (0, none, 0, [], none) ⟨Nat.zero_le _, by rw [kl, List.take_zero]; rfl, RowE.nil _ _⟩ ⟨rfl, rfl, rfl, rfl, rfl, trivial⟩ (fun w hm => hm.place) ?_
  rintro ⟨j, a7, c7, X, e7⟩ ⟨hj, hX, hrow⟩
  simp only at hj hX hrow ⊢
  have hXo := kl_ok (v0 := (k : Int)) hdl j hj
  rw [hX] at hXo
  have hXd := fun d hd => (hXo.1 d hd).1
  have hXf := fun d hd => (hXo.1 d hd).2
  have hXn := hXo.2
  refine sw_seq ?_
  refine sw_region ?_
  refine ow_val (val_lss_int rfl rfl) rfl ?_
  refine ow_nil (into ?_)
  refine sw_seq ?_
  refine sw_if rfl (fun h0 => ?_) (fun h0 => ?_)
  · -- then
    obtain ⟨ba, oa, rfl⟩ := hr.addr (by rw [flatMap_size' rfl hdl]; omega)
    obtain ⟨d, hd⟩ : ∃ z, l.getD j default = z := ⟨_, rfl⟩
    have hd0 : d.length = 32 := by rw [← hd]; exact hdl _ (getD_mem (by omega))
    have hks : kl (k : Int) l (j + 1) = kst (k : Int) X d := by rw [kl_succ (by omega), hX, hd]
    refine sw_skip (into ?_)
    refine sw_seq ?_
    refine sw_block ?_
    refine sw_seq ?_
    refine sw_region ?_
    refine ow_val (val_indexAddr_slice (j) (oa + j * 32) rfl rfl Tryd.underlying22 Tryd.sizeOf41 (by omega) (by omega) (by omega)) rfl ?_
    refine ow_val ((val_load_elem (cells := fun d => d.map vU8) (l := l) (o := oa) (i := j) rfl Tryd.isAgg41 Tryd.sizeOf41 (fun x hx => by rw [List.length_map]; exact hdl x hx) (by omega) (by omega) (fun w' hm => hr.mem hm)).to (v' := .agg (d.map vU8).toArray) (by rw [hd])) rfl ?_
    refine ow_new (acts_alloc zD) rfl (fun b9 hb9 => ?_)
    refine ow_do_eq (does_store_all 0 rfl rfl rfl (one_u8s _) Tryd.sizeOf41 (by show (List.map vU8 d).length = _; rw [List.length_map]; exact hd0) (by show (List.map vU8 zeros32).length = _; rw [List.length_map]; exact zeros32_len)) ?_
    refine ow_nil (into ?_)
    refine sw_seq ?_
    rcases (show (X.length < 300 ∧ fm (k : Int) d = true) ∨ (X.length < 300 ∧ fm (k : Int) d = false) ∨ ¬ X.length < 300 by cases fm (k : Int) d <;> simp <;> omega) with ⟨h300, hfd⟩ | ⟨h300, hfd⟩ | h300
    · -- case
      refine sw_region ?_
      refine ow_val (val_move rfl) rfl ?_
      refine ow_val (val_len rfl Tryd.underlying22) rfl ?_
      refine ow_val ((val_lss_int rfl rfl).to (congrArg Value.bool (decide_eq_true ((by omega))))) rfl ?_
      refine ow_val (val_move rfl) rfl ?_
      refine ow_guard_yes rfl rfl rfl ?_
      refine ow_val (val_move rfl) rfl ?_
      refine ow_guard_yes rfl rfl rfl ?_
      refine ow_val (val_load_all 0 rfl rfl Tryd.isAgg41 Tryd.sizeOf41 (by show (List.map vU8 d).length = _; rw [List.length_map]; exact hd0)) rfl ?_
      refine ow_guard_yes rfl rfl rfl ?_
      refine ow_call_pure (v := .bool true) (callsTo Tryd.func61 rfl (by kernel_rfl) rfl) rfl (fun w hm => form_is hfd hd0 w) ?_
      refine ow_val (val_pick_true rfl rfl) rfl ?_
      refine ow_nil (into ?_)
      refine sw_true rfl rfl ?_
      refine sw_region ?_
      refine ow_val (val_move rfl) rfl ?_
      refine ow_val (val_load_all 0 rfl rfl Tryd.isAgg41 Tryd.sizeOf41 (by show (List.map vU8 d).length = _; rw [List.length_map]; exact hd0)) rfl ?_
      refine ow_make (acts_buildSlice (cs := [d.map vU8].flatten) Tryd.underlying22 Tryd.sizeOf41 zD rfl rfl (fill_aggs [d.map vU8] (by decide) rfl (by simp only [List.forall_mem_cons, List.length_map]; exact ⟨hd0, fun _ h => by cases h⟩))) rfl (fun b29 hb29 => ?_)
      refine ow_append' (k := (X ++ [d]).length) (xs := (X ++ [d]).flatMap fun d => d.map vU8) (acts_row (acts_append (size := 32) (bytes := 32) 2 rfl rfl rfl hrow rfl Tryd.underlying22 hDi hDz hDsz hDby rfl (by decide) (fun w hm => (Rd.blk (hm.at (i := 0) rfl))) (by simp only [List.flatten_cons, List.flatten_nil, List.append_nil, List.length_append, List.length_map, hd0]) (fun u hu => by simp only [List.flatten_cons, List.flatten_nil, List.append_nil, List.mem_append] at hu; rcases hu with hu <;> exact one_u8s _ u hu) (by omega) (by omega)) (by rw [List.length_append]; rfl) (by simp only [List.flatMap_append, List.flatMap_cons, List.flatMap_nil, List.flatten_cons, List.flatten_nil, List.nil_append, List.append_nil])) rfl (fun a30 c30 e30 hr30' => ?_)
      refine ow_val (val_assign rfl) rfl ?_
      refine ow_nil (into ?_)
      refine sw_region ?_
      refine ow_val (val_add_int ((j + 1 : Nat) : Int) rfl rfl (by omega) (by omega)) rfl ?_
      refine ow_val (val_move rfl) rfl ?_
      exact ow_nil (fun w hm => ⟨(j + 1, a30, c30, (X ++ [d]), e30), ⟨by dsimp only; omega, by dsimp only; rw [hks, kst, if_pos ⟨h300, hfd⟩], hr30'⟩, by dsimp only; omega, ⟨rfl, rfl, rfl, rfl, rfl, trivial⟩, hm.only (.cons _ (.cons _ (.cons_cons _ (List.nil_sublist _))))⟩)
    · -- case
      refine sw_region ?_
      refine ow_val (val_move rfl) rfl ?_
      refine ow_val (val_len rfl Tryd.underlying22) rfl ?_
      refine ow_val ((val_lss_int rfl rfl).to (congrArg Value.bool (decide_eq_true ((by omega))))) rfl ?_
      refine ow_val (val_move rfl) rfl ?_
      refine ow_guard_yes rfl rfl rfl ?_
      refine ow_val (val_move rfl) rfl ?_
      refine ow_guard_yes rfl rfl rfl ?_
      refine ow_val (val_load_all 0 rfl rfl Tryd.isAgg41 Tryd.sizeOf41 (by show (List.map vU8 d).length = _; rw [List.length_map]; exact hd0)) rfl ?_
      refine ow_guard_yes rfl rfl rfl ?_
      refine ow_call_pure (v := .bool false) (callsTo Tryd.func61 rfl (by kernel_rfl) rfl) rfl (fun w hm => form_is hfd hd0 w) ?_
      refine ow_val (val_pick_true rfl rfl) rfl ?_
      refine ow_nil (into ?_)
      refine sw_false rfl rfl ?_
      refine sw_skip (into ?_)
      refine sw_region ?_
      refine ow_val (val_add_int ((j + 1 : Nat) : Int) rfl rfl (by omega) (by omega)) rfl ?_
      refine ow_val (val_move rfl) rfl ?_
      exact ow_nil (fun w hm => ⟨(j + 1, a7, c7, X, e7), ⟨by dsimp only; omega, by dsimp only; rw [hks, kst, if_neg (fun h => by rw [hfd] at h; cases h.2)], hrow⟩, by dsimp only; omega, ⟨rfl, rfl, rfl, rfl, rfl, trivial⟩, hm.only (.cons _ (.cons_cons _ (List.nil_sublist _)))⟩)
    · -- case
      refine sw_region ?_
      refine ow_val (val_move rfl) rfl ?_
      refine ow_val (val_len rfl Tryd.underlying22) rfl ?_
      refine ow_val ((val_lss_int rfl rfl).to (congrArg Value.bool (decide_eq_false ((by omega))))) rfl ?_
      refine ow_val (val_move rfl) rfl ?_
      first | refine ow_guard_no rfl rfl rfl rfl rfl ?_ | refine ow_guard_none rfl rfl rfl rfl rfl ?_
      first | refine ow_guard_no rfl rfl rfl rfl rfl ?_ | refine ow_guard_none rfl rfl rfl rfl rfl ?_
      first | refine ow_guard_no rfl rfl rfl rfl rfl ?_ | refine ow_guard_none rfl rfl rfl rfl rfl ?_
      refine ow_val (val_pick_false rfl rfl) rfl ?_
      refine ow_nil (into ?_)
      refine sw_false rfl rfl ?_
      refine sw_skip (into ?_)
      refine sw_region ?_
      refine ow_val (val_add_int ((j + 1 : Nat) : Int) rfl rfl (by omega) (by omega)) rfl ?_
      refine ow_val (val_move rfl) rfl ?_
      exact ow_nil (fun w hm => ⟨(j + 1, a7, c7, X, e7), ⟨by dsimp only; omega, by dsimp only; rw [hks, kst, if_neg (fun h => h300 h.1)], hrow⟩, by dsimp only; omega, ⟨rfl, rfl, rfl, rfl, rfl, trivial⟩, hm.only (.cons _ (.cons_cons _ (List.nil_sublist _)))⟩)
  · -- else
    obtain rfl : l.length = j := by omega
    refine sw_exit (into ?_)
    refine sw_seq ?_
    refine sw_region ?_
    refine ow_val (val_move rfl) rfl ?_
    refine ow_call_tail (σ := Nat × List Ent) (fun q9 => .tuple #[vPtr q9.1, vInt ((0 : Nat) : Int)]) (fun q9 => q9.2) (fun q9 => TrOn 110 79 k q9.2 q9.1 []) (callsTo Tryd.func36 rfl (by kernel_rfl) rfl) rfl (fun w hm => new_tr k h1 h2 w) ?_
    rintro ⟨b34, es34⟩ htr34
    simp only at htr34 ⊢
    refine ow_val (val_move rfl) rfl ?_
    refine ow_val (val_extract rfl rfl) rfl ?_
    refine ow_val (val_extract rfl rfl) rfl ?_
    refine ow_val (val_assign rfl) rfl ?_
    refine ow_val (val_assign rfl) rfl ?_
    refine ow_nil (into ?_)
    refine sw_seq ?_
    refine sw_seq ?_
    refine sw_region ?_
    refine ow_val (val_move rfl) rfl ?_
    refine ow_val ((val_neq_int rfl rfl).to (v' := .bool false) (congrArg Value.bool (decide_eq_false (fun h => h (by simp))))) rfl ?_
    refine ow_nil (into ?_)
    refine sw_false rfl rfl ?_
    refine sw_skip (into ?_)
    refine sw_seq ?_
    refine sw_region ?_
    refine ow_val (val_move rfl) rfl ?_
    refine ow_val (val_move rfl) rfl ?_
    refine ow_call_tail (σ := Nat × List Ent) (fun q9 => .tuple #[vPtr q9.1, vInt ((0 : Nat) : Int)]) (fun q9 => q9.2) (fun q9 => TrOn 110 79 k (es34 ++ q9.2) q9.1 X) (callsTo Tryd.func37 rfl (by kernel_rfl) rfl) rfl (fun w hm => (append_tr k h1 h2 w (hK.mem0 hm) es34 (hm.heldSub (.cons _ (List.Sublist.refl _))) b34 [] htr34 (by assumption) (by assumption) a7 X.length c7 X rfl hXd (hrow.rdAt hm (i := 0) rfl) hrow.le (by omega) hXf (by omega)).mono fun _ _ ⟨u, he, q9, hu, hi, hm'⟩ => ⟨u, he, q9, hu, hi.cast (List.nil_append _), hm'⟩) ?_
    rintro ⟨b42, es42⟩ htr42
    simp only at htr42 ⊢
    refine ow_val (val_move rfl) rfl ?_
    refine ow_val (val_extract rfl rfl) rfl ?_
    refine ow_val (val_extract rfl rfl) rfl ?_
    refine ow_val (val_assign rfl) rfl ?_
    refine ow_val (val_assign rfl) rfl ?_
    refine ow_nil (into ?_)
    refine sw_seq ?_
    refine sw_region ?_
    refine ow_val (val_move rfl) rfl ?_
    refine ow_val (val_move rfl) rfl ?_
    refine ow_val (val_move rfl) rfl ?_
    refine ow_val ((val_eql_int rfl rfl).to (v' := .bool true) (congrArg Value.bool (decide_eq_true (by simp)))) rfl ?_
    refine ow_val (val_move rfl) rfl ?_
    refine ow_guard_yes rfl rfl rfl ?_
    refine ow_val (val_move rfl) rfl ?_
    refine ow_guard_yes rfl rfl rfl ?_
    refine ow_val (val_neq_nilptr Tryd.underlying25 rfl rfl) rfl ?_
    refine ow_val (val_pick_true rfl rfl) rfl ?_
    refine ow_val (val_assign rfl) rfl ?_
    refine ow_val (val_assign rfl) rfl ?_
    refine ow_val (val_assign rfl) rfl ?_
    refine ow_nil (into ?_)
    refine sw_ret (fun w hm => ?_)
    try dsimp only [thenP, blockP, Nat.beq, cond]
    exact ret_ttt rfl rfl rfl rfl ⟨(b42, a7, c7, e7 :: (es34 ++ es42)), by rw [hX]; rfl, by rw [hX]; exact ⟨htr42.sub (.cons _ (List.Sublist.refl _)), fun w hh => hrow.held (hh.sub (.cons_cons _ (List.nil_sublist _))), hrow.le, fun h9 => rowAddr32 hrow h9⟩, hm⟩

theorem tree12_is (k : Nat) (h1 : 1 ≤ k) (h2 : k ≤ 32) (w : World) (hK : KW w) (a : Option Addr) (m c : Nat) (l : List (List UInt8)) (hlm : l.length = m) (hdl : ∀ d ∈ l, d.length = 32) (hr : Rd w a (l.flatMap fun d => d.map vU8)) (hc : m ≤ c) (hl : m < 9223372036854775808) (hb : m * 32 ≤ 140737488351232) {L : List (List UInt8)} (hL : kl (k : Int) l l.length = L) : Calls Tryd.prog 31 #[vInt (k : Int), .slice a m c] w fun e w' => ∃ u, e = .returned u ∧ ∃ s : Nat × Option Addr × Nat × List Ent, u = .tuple #[vPtr s.1, .slice s.2.1 L.length s.2.2.1, .bool true] ∧ (TrOn 110 79 k s.2.2.2 s.1 L ∧ RdOn s.2.2.2 s.2.1 (L.flatMap fun d => d.map vU8) ∧ L.length ≤ s.2.2.1 ∧ (0 < L.length → ∃ b o, s.2.1 = some ⟨b, o, none⟩)) ∧ Mem w [] s.2.2.2 w' := by
  subst hlm; subst hL
  exact tree12_yes k h1 h2 w hK a c l hdl hr hc hb

theorem hon_lo (v0 : Int) (hwd : wd v0 = false) (i n : UInt64) (w : World) (hK : KW w) (a : Option Addr) (c : Nat) (l : List (List UInt8)) (hdl : ∀ d ∈ l, d.length = 32) (hr : Rd w a (l.flatMap fun d => d.map vU8)) (hc : l.length ≤ c) (hb : l.length * 32 ≤ 140737488351232) (hv : v0 < 1) : Calls Tryd.prog 11 #[vInt v0, .slice a l.length c, vU64 i, vU64 n] w fun e w' => ∃ v, e = .returned v ∧ v = .bool true ∧ Mem w [] [] w' := by
  refine calls_of_sw (vs := [vInt v0, .slice a l.length c, vU64 i, vU64 n]) Tryd.func11 rfl Tryd.ntmps11 rfl (SW.begin ?_)
  refine sw_seq ?_
  refine sw_region ?_
  refine ow_val (val_assign rfl) rfl ?_
  refine ow_nil (into ?_)
  refine sw_seq ?_
  refine sw_seq ?_
  refine sw_region ?_
  refine ow_call_pure (v := .bool true) (callsTo Tryd.func30 rfl (by kernel_rfl) rfl) rfl (fun w hm => awake12 w (hK.mem0 hm)) ?_
  refine ow_val (val_not rfl) rfl ?_
  refine ow_nil (into ?_)
  refine sw_false rfl rfl ?_
  refine sw_skip (into ?_)
  refine sw_seq ?_
  refine sw_region ?_
  refine ow_val (val_move rfl) rfl ?_
  refine ow_val (val_move rfl) rfl ?_
  refine ow_call_pure (v := .tuple #[.pointer none, .slice none 0 0, .bool false]) (callsTo Tryd.func31 rfl (by kernel_rfl) rfl) rfl (fun w hm => tree12_no v0 hwd w a c l hdl (hr.mem hm) hc hb) ?_
  refine ow_val (val_move rfl) rfl ?_
  refine ow_val (val_extract rfl rfl) rfl ?_
  refine ow_val (val_extract rfl rfl) rfl ?_
  refine ow_val (val_extract rfl rfl) rfl ?_
  refine ow_val (val_assign rfl) rfl ?_
  refine ow_val (val_assign rfl) rfl ?_
  refine ow_val (val_assign rfl) rfl ?_
  refine ow_nil (into ?_)
  refine sw_seq ?_
  refine sw_seq ?_
  refine sw_region ?_
  refine ow_val (val_move rfl) rfl ?_
  refine ow_val (val_not rfl) rfl ?_
  refine ow_val (val_move rfl) rfl ?_
  first | refine ow_guard_no rfl rfl rfl rfl rfl ?_ | refine ow_guard_none rfl rfl rfl rfl rfl ?_
  first | refine ow_guard_no rfl rfl rfl rfl rfl ?_ | refine ow_guard_none rfl rfl rfl rfl rfl ?_
  first | refine ow_guard_no rfl rfl rfl rfl rfl ?_ | refine ow_guard_none rfl rfl rfl rfl rfl ?_
  refine ow_val (val_pick_true rfl rfl) rfl ?_
  refine ow_nil (into ?_)
  refine sw_true rfl rfl ?_
  refine sw_seq ?_
  refine sw_region ?_
  refine ow_val (val_move rfl) rfl ?_
  refine ow_val ((val_lss_int rfl rfl).to (congrArg Value.bool (decide_eq_true (hv)))) rfl ?_
  refine ow_val (val_move rfl) rfl ?_
  first | refine ow_guard_no rfl rfl rfl rfl rfl ?_ | refine ow_guard_none rfl rfl rfl rfl rfl ?_
  first | refine ow_guard_no rfl rfl rfl rfl rfl ?_ | refine ow_guard_none rfl rfl rfl rfl rfl ?_
  refine ow_val (val_pick_true rfl rfl) rfl ?_
  refine ow_val (val_move rfl) rfl ?_
  first | refine ow_guard_no rfl rfl rfl rfl rfl ?_ | refine ow_guard_none rfl rfl rfl rfl rfl ?_
  refine ow_val (val_pick_true rfl rfl) rfl ?_
  refine ow_val (val_assign rfl) rfl ?_
  refine ow_nil (into ?_)
  refine sw_ret (fun w hm => ?_)
  try dsimp only [thenP, blockP, Nat.beq, cond]
  exact ret_one _ rfl rfl ⟨rfl, hm.forgetAll⟩

theorem hon_hi (v0 : Int) (hwd : wd v0 = false) (i n : UInt64) (w : World) (hK : KW w) (a : Option Addr) (c : Nat) (l : List (List UInt8)) (hdl : ∀ d ∈ l, d.length = 32) (hr : Rd w a (l.flatMap fun d => d.map vU8)) (hc : l.length ≤ c) (hb : l.length * 32 ≤ 140737488351232) (hv : ¬ v0 < 1) (hv2 : 32 < v0) : Calls Tryd.prog 11 #[vInt v0, .slice a l.length c, vU64 i, vU64 n] w fun e w' => ∃ v, e = .returned v ∧ v = .bool true ∧ Mem w [] [] w' := by
  refine calls_of_sw (vs := [vInt v0, .slice a l.length c, vU64 i, vU64 n]) Tryd.func11 rfl Tryd.ntmps11 rfl (SW.begin ?_)
  refine sw_seq ?_
  refine sw_region ?_
  refine ow_val (val_assign rfl) rfl ?_
  refine ow_nil (into ?_)
  refine sw_seq ?_
  refine sw_seq ?_
  refine sw_region ?_
  refine ow_call_pure (v := .bool true) (callsTo Tryd.func30 rfl (by kernel_rfl) rfl) rfl (fun w hm => awake12 w (hK.mem0 hm)) ?_
  refine ow_val (val_not rfl) rfl ?_
  refine ow_nil (into ?_)
  refine sw_false rfl rfl ?_
  refine sw_skip (into ?_)
  refine sw_seq ?_
  refine sw_region ?_
  refine ow_val (val_move rfl) rfl ?_
  refine ow_val (val_move rfl) rfl ?_
  refine ow_call_pure (v := .tuple #[.pointer none, .slice none 0 0, .bool false]) (callsTo Tryd.func31 rfl (by kernel_rfl) rfl) rfl (fun w hm => tree12_no v0 hwd w a c l hdl (hr.mem hm) hc hb) ?_
  refine ow_val (val_move rfl) rfl ?_
  refine ow_val (val_extract rfl rfl) rfl ?_
  refine ow_val (val_extract rfl rfl) rfl ?_
  refine ow_val (val_extract rfl rfl) rfl ?_
  refine ow_val (val_assign rfl) rfl ?_
  refine ow_val (val_assign rfl) rfl ?_
  refine ow_val (val_assign rfl) rfl ?_
  refine ow_nil (into ?_)
  refine sw_seq ?_
  refine sw_seq ?_
  refine sw_region ?_
  refine ow_val (val_move rfl) rfl ?_
  refine ow_val (val_not rfl) rfl ?_
  refine ow_val (val_move rfl) rfl ?_
  first | refine ow_guard_no rfl rfl rfl rfl rfl ?_ | refine ow_guard_none rfl rfl rfl rfl rfl ?_
  first | refine ow_guard_no rfl rfl rfl rfl rfl ?_ | refine ow_guard_none rfl rfl rfl rfl rfl ?_
  first | refine ow_guard_no rfl rfl rfl rfl rfl ?_ | refine ow_guard_none rfl rfl rfl rfl rfl ?_
  refine ow_val (val_pick_true rfl rfl) rfl ?_
  refine ow_nil (into ?_)
  refine sw_true rfl rfl ?_
  refine sw_seq ?_
  refine sw_region ?_
  refine ow_val (val_move rfl) rfl ?_
  refine ow_val ((val_lss_int rfl rfl).to (congrArg Value.bool (decide_eq_false (hv)))) rfl ?_
  refine ow_val (val_move rfl) rfl ?_
  refine ow_guard_yes rfl rfl rfl ?_
  refine ow_val (val_move rfl) rfl ?_
  refine ow_guard_yes rfl rfl rfl ?_
  refine ow_val ((val_gtr_int rfl rfl).to (congrArg Value.bool (decide_eq_true (hv2)))) rfl ?_
  refine ow_val (val_pick_false rfl rfl) rfl ?_
  refine ow_val (val_move rfl) rfl ?_
  first | refine ow_guard_no rfl rfl rfl rfl rfl ?_ | refine ow_guard_none rfl rfl rfl rfl rfl ?_
  refine ow_val (val_pick_true rfl rfl) rfl ?_
  refine ow_val (val_assign rfl) rfl ?_
  refine ow_nil (into ?_)
  refine sw_ret (fun w hm => ?_)
  try dsimp only [thenP, blockP, Nat.beq, cond]
  exact ret_one _ rfl rfl ⟨rfl, hm.forgetAll⟩

theorem hon_nil (k : Nat) (h1 : 1 ≤ k) (h2 : k ≤ 32) (i n : UInt64) (w : World) (hK : KW w) (a : Option Addr) (c : Nat) (l : List (List UInt8)) (hdl : ∀ d ∈ l, d.length = 32) (hr : Rd w a (l.flatMap fun d => d.map vU8)) (hc : l.length ≤ c) (hb : l.length * 32 ≤ 140737488351232) (L : List (List UInt8)) (hL : kl (k : Int) l l.length = L) (h0 : L.length = 0) : Calls Tryd.prog 11 #[vInt (k : Int), .slice a l.length c, vU64 i, vU64 n] w fun e w' => ∃ v, e = .returned v ∧ v = .bool true ∧ Mem w [] [] w' := by
  have hko := kl_ok (v0 := (k : Int)) hdl l.length (Nat.le_refl _)
  rw [hL] at hko
  have hLd := fun d hd => (hko.1 d hd).1
  have hLf := fun d hd => (hko.1 d hd).2
  have hLn := hko.2
  refine calls_of_sw (vs := [vInt (k : Int), .slice a l.length c, vU64 i, vU64 n]) Tryd.func11 rfl Tryd.ntmps11 rfl (SW.begin ?_)
  refine sw_seq ?_
  refine sw_region ?_
  refine ow_val (val_assign rfl) rfl ?_
  refine ow_nil (into ?_)
  refine sw_seq ?_
  refine sw_seq ?_
  refine sw_region ?_
  refine ow_call_pure (v := .bool true) (callsTo Tryd.func30 rfl (by kernel_rfl) rfl) rfl (fun w hm => awake12 w (hK.mem0 hm)) ?_
  refine ow_val (val_not rfl) rfl ?_
  refine ow_nil (into ?_)
  refine sw_false rfl rfl ?_
  refine sw_skip (into ?_)
  refine sw_seq ?_
  refine sw_region ?_
  refine ow_val (val_move rfl) rfl ?_
  refine ow_val (val_move rfl) rfl ?_
  refine ow_call_tail (σ := Nat × Option Addr × Nat × List Ent) (fun q9 => .tuple #[vPtr q9.1, .slice q9.2.1 L.length q9.2.2.1, .bool true]) (fun q9 => q9.2.2.2) (fun q9 => TrOn 110 79 k q9.2.2.2 q9.1 L ∧ RdOn q9.2.2.2 q9.2.1 (List.flatMap (fun d : List UInt8 => List.map vU8 d) L) ∧ L.length ≤ q9.2.2.1 ∧ (0 < L.length → ∃ b o, q9.2.1 = some ⟨b, o, none⟩)) (callsTo Tryd.func31 rfl (by kernel_rfl) rfl) rfl (fun w hm => tree12_is k h1 h2 w (hK.mem0 hm) a l.length c l rfl hdl (hr.mem hm) (by omega) (by omega) (by omega) hL) ?_
  rintro ⟨b29, a29, c29, es29⟩ ⟨htr29, hrd29, hle29, hla29⟩
  simp only at htr29 hrd29 hle29 hla29 ⊢
  refine ow_val (val_move rfl) rfl ?_
  refine ow_val (val_extract rfl rfl) rfl ?_
  refine ow_val (val_extract rfl rfl) rfl ?_
  refine ow_val (val_extract rfl rfl) rfl ?_
  refine ow_val (val_assign rfl) rfl ?_
  refine ow_val (val_assign rfl) rfl ?_
  refine ow_val (val_assign rfl) rfl ?_
  refine ow_nil (into ?_)
  refine sw_seq ?_
  refine sw_seq ?_
  refine sw_region ?_
  refine ow_val (val_move rfl) rfl ?_
  refine ow_val (val_not rfl) rfl ?_
  refine ow_val (val_move rfl) rfl ?_
  refine ow_guard_yes rfl rfl rfl ?_
  refine ow_val (val_move rfl) rfl ?_
  refine ow_guard_yes rfl rfl rfl ?_
  refine ow_val (val_len rfl Tryd.underlying22) rfl ?_
  refine ow_guard_yes rfl rfl rfl ?_
  refine ow_val ((val_eql_int rfl rfl).to (congrArg Value.bool (decide_eq_true ((by omega))))) rfl ?_
  refine ow_val (val_pick_false rfl rfl) rfl ?_
  refine ow_nil (into ?_)
  refine sw_true rfl rfl ?_
  refine sw_seq ?_
  refine sw_region ?_
  refine ow_val (val_move rfl) rfl ?_
  refine ow_val ((val_lss_int rfl rfl).to (congrArg Value.bool (decide_eq_false ((by omega))))) rfl ?_
  refine ow_val (val_move rfl) rfl ?_
  refine ow_guard_yes rfl rfl rfl ?_
  refine ow_val (val_move rfl) rfl ?_
  refine ow_guard_yes rfl rfl rfl ?_
  refine ow_val ((val_gtr_int rfl rfl).to (congrArg Value.bool (decide_eq_false ((by omega))))) rfl ?_
  refine ow_val (val_pick_false rfl rfl) rfl ?_
  refine ow_val (val_move rfl) rfl ?_
  refine ow_guard_yes rfl rfl rfl ?_
  refine ow_val (val_move rfl) rfl ?_
  refine ow_val (val_pick_false rfl rfl) rfl ?_
  refine ow_val (val_assign rfl) rfl ?_
  refine ow_nil (into ?_)
  refine sw_ret (fun w hm => ?_)
  try dsimp only [thenP, blockP, Nat.beq, cond]
  exact ret_one _ rfl rfl ⟨rfl, hm.forgetAll⟩

theorem hon_go (k : Nat) (h1 : 1 ≤ k) (h2 : k ≤ 32) (i n : UInt64) (w : World) (hK : KW w) (a : Option Addr) (c : Nat) (l : List (List UInt8)) (hdl : ∀ d ∈ l, d.length = 32) (hr : Rd w a (l.flatMap fun d => d.map vU8)) (hc : l.length ≤ c) (hb : l.length * 32 ≤ 140737488351232) (L : List (List UInt8)) (hL : kl (k : Int) l l.length = L) (h0 : ¬ L.length = 0) : Calls Tryd.prog 11 #[vInt (k : Int), .slice a l.length c, vU64 i, vU64 n] w fun e w' => ∃ v, e = .returned v ∧ v = .bool true ∧ Mem w [] [] w' := by
  have hko := kl_ok (v0 := (k : Int)) hdl l.length (Nat.le_refl _)
  rw [hL] at hko
  have hLd := fun d hd => (hko.1 d hd).1
  have hLf := fun d hd => (hko.1 d hd).2
  have hLn := hko.2
  have eL : (UInt64.ofNat L.length).toNat = L.length := of_nat (by omega)
  have hne : UInt64.ofNat L.length ≠ 0 := fun h => by rw [h] at eL; exact h0 eL.symm
  obtain ⟨n9, hn9⟩ : ∃ z, UInt64.ofNat (Int.toNat 1) + n % UInt64.ofNat L.length = z := ⟨_, rfl⟩
  have en9 : n9.toNat = 1 + n.toNat % L.length := by
    have h9 := Nat.mod_lt n.toNat (show 0 < L.length by omega)
    rw [← hn9, UInt64.toNat_add, UInt64.toNat_mod, eL, show (UInt64.ofNat (Int.toNat 1)).toNat = 1 from rfl, Nat.mod_eq_of_lt (by omega)]
  have hn9L : n9.toNat ≤ L.length := by have h9 := Nat.mod_lt n.toNat (show 0 < L.length by omega); omega
  have hn9p : 1 ≤ n9.toNat := by omega
  have hne9 : n9 ≠ 0 := fun h => by rw [h] at hn9p; exact absurd hn9p (by decide)
  obtain ⟨i9, hi9⟩ : ∃ z, i % n9 = z := ⟨_, rfl⟩
  have hi9n : i9.toNat < n9.toNat := by rw [← hi9, UInt64.toNat_mod]; exact Nat.mod_lt _ (by omega)
  have hi9L : i9.toNat ≤ L.length := by omega
  obtain ⟨S, hS⟩ : ∃ S, seg L 0 n9.toNat = S := ⟨_, rfl⟩
  have hSn : S.length = n9.toNat := by rw [← hS]; exact seg_len (by omega)
  have hSd : ∀ d ∈ S, d.length = 32 := by rw [← hS]; exact seg_all hLd
  have hSf : ∀ d ∈ S, fm (k : Int) d = true := by rw [← hS]; exact seg_all hLf
  obtain ⟨SM, hSM⟩ : ∃ S, seg L 0 i9.toNat = S := ⟨_, rfl⟩
  have hMd : ∀ d ∈ SM, d.length = 32 := by rw [← hSM]; exact seg_all hLd
  have hMf : ∀ d ∈ SM, fm (k : Int) d = true := by rw [← hSM]; exact seg_all hLf
  have hSMt : S.take i9.toNat = SM := by rw [← hS, ← hSM]; exact seg_takeW (by omega)
  obtain ⟨x, hx⟩ : ∃ x, L.getD i9.toNat default = x := ⟨_, rfl⟩
  have hxd : x.length = 32 := by rw [← hx]; exact hLd _ (getD_mem (by omega))
  have hxf : fm (k : Int) x = true := by rw [← hx]; exact hLf _ (getD_mem (by omega))
  have hxS : S.getD i9.toNat default = x := by rw [← hx, ← hS, seg, List.drop_zero, Nat.sub_zero, getD_take' (by omega)]
  obtain ⟨z, hz⟩ : ∃ x, L.getD (n9.toNat - 1) default = x := ⟨_, rfl⟩
  have hzd : z.length = 32 := by rw [← hz]; exact hLd _ (getD_mem (by omega))
  have hzf : fm (k : Int) z = true := by rw [← hz]; exact hLf _ (getD_mem (by omega))
  obtain ⟨P, hP⟩ : ∃ P, incL k (seg L 0 n9.toNat) i9.toNat = P := ⟨_, rfl⟩
  have hP2 : incL k S i9.toNat = P := by rw [← hS]; exact hP
  have hPm := incL_mem h1 h2 _ (Nat.le_refl _) hSd hSf (i := i9.toNat) (l := S)
  rw [hP2] at hPm
  have hPd := fun d hd => (hPm d hd).1
  have hPf := fun d hd => (hPm d hd).2
  have hPn : P.length < 300 := by rw [← hP2]; have h7 := incL_len (k := k) _ (l := S) (i := i9.toNat) (Nat.le_refl _); omega
  have hI1 : i9.toNat < n9.toNat ∧ n9.toNat ≤ L.length := ⟨hi9n, hn9L⟩
  have hcnt : P.length = (splitsL i9 n9).length := by rw [← hP2]; exact inc_cnt k hSn hi9n
  have hup : (upR k x i9 n9 P.reverse).1 = lg k S := by rw [← hP2, ← hxS]; exact upR_root k _ (Nat.le_refl _) hSn hi9n
  have hrf : fm (k : Int) (lg k S) = true := lg_fm h1 h2 hSf
  have qI : inclO (k : Int) x i9 n9 P (lg k S) = 0 := by rw [inclO_flag h1 h2 hxf hPf hrf hi9n, if_pos hcnt, hup, if_neg (by simp)]
  obtain ⟨dz, hdz⟩ : ∃ d, (upR k z i9 n9 P.reverse).1 = d := ⟨_, rfl⟩
  have hdzd : dz.length = 32 := by rw [← hdz]; exact upR_len h2 hzd _ _ _
  have qR : rootO (k : Int) z i9 n9 P = (dz, 0) := by rw [rootO_flag h1 h2 hzf hPf hi9n, if_pos hcnt, hdz]
  have qE : dz = lg k S → inclO (k : Int) z i9 n9 P (lg k S) = 0 := fun h => by rw [inclO_flag h1 h2 hzf hPf hrf hi9n, if_pos hcnt, hdz, if_neg (by simp [h])]
  have qN : dz ≠ lg k S → inclO (k : Int) z i9 n9 P (lg k S) = 10 := fun h => by rw [inclO_flag h1 h2 hzf hPf hrf hi9n, if_pos hcnt, hdz, if_pos h]
  obtain ⟨Q, hQ⟩ : ∃ P, conO k L i9.toNat n9.toNat = P := ⟨_, rfl⟩
  have hQm := conO_mem h1 h2 hLd hLf (i := i9.toNat) (n := n9.toNat)
  rw [hQ] at hQm
  have hQd := fun d hd => (hQm d hd).1
  have hQf := fun d hd => (hQm d hd).2
  have hQn : Q.length < 302 := by rw [← hQ]; have h7 := conO_len (k := k) (l := L) (i := i9.toNat) hn9L; omega
  have hJ1 : i9.toNat ≤ n9.toNat ∧ n9.toNat ≤ L.length := ⟨by omega, hn9L⟩
  have hQ2 : Q = if i9.toNat = 0 then [] else conL k S i9.toNat true := by rw [← hQ, conO, hS]
  have qC : consO (k : Int) i9 n9 (lg k SM) (lg k S) Q = 0 := by rw [hQ2, ← hSMt]; exact cons_honest h1 h2 hSd hSf hSn hJ1.1
  have qS : consO (k : Int) n9 n9 (lg k S) (lg k S) [] = 0 := cons_self h1 h2 hrf
  refine calls_of_sw (vs := [vInt (k : Int), .slice a l.length c, vU64 i, vU64 n]) Tryd.func11 rfl Tryd.ntmps11 rfl (SW.begin ?_)
  refine sw_seq ?_
  refine sw_region ?_
  refine ow_val (val_assign rfl) rfl ?_
  refine ow_nil (into ?_)
  refine sw_seq ?_
  refine sw_seq ?_
  refine sw_region ?_
  refine ow_call_pure (v := .bool true) (callsTo Tryd.func30 rfl (by kernel_rfl) rfl) rfl (fun w hm => awake12 w (hK.mem0 hm)) ?_
  refine ow_val (val_not rfl) rfl ?_
  refine ow_nil (into ?_)
  refine sw_false rfl rfl ?_
  refine sw_skip (into ?_)
  refine sw_seq ?_
  refine sw_region ?_
  refine ow_val (val_move rfl) rfl ?_
  refine ow_val (val_move rfl) rfl ?_
  refine ow_call_tail (σ := Nat × Option Addr × Nat × List Ent) (fun q9 => .tuple #[vPtr q9.1, .slice q9.2.1 L.length q9.2.2.1, .bool true]) (fun q9 => q9.2.2.2) (fun q9 => TrOn 110 79 k q9.2.2.2 q9.1 L ∧ RdOn q9.2.2.2 q9.2.1 (List.flatMap (fun d : List UInt8 => List.map vU8 d) L) ∧ L.length ≤ q9.2.2.1 ∧ (0 < L.length → ∃ b o, q9.2.1 = some ⟨b, o, none⟩)) (callsTo Tryd.func31 rfl (by kernel_rfl) rfl) rfl (fun w hm => tree12_is k h1 h2 w (hK.mem0 hm) a l.length c l rfl hdl (hr.mem hm) (by omega) (by omega) (by omega) hL) ?_
  rintro ⟨b29, a29, c29, es29⟩ ⟨htr29, hrd29, hle29, hla29⟩
  simp only at htr29 hrd29 hle29 hla29 ⊢
  refine ow_val (val_move rfl) rfl ?_
  refine ow_val (val_extract rfl rfl) rfl ?_
  refine ow_val (val_extract rfl rfl) rfl ?_
  refine ow_val (val_extract rfl rfl) rfl ?_
  refine ow_val (val_assign rfl) rfl ?_
  refine ow_val (val_assign rfl) rfl ?_
  refine ow_val (val_assign rfl) rfl ?_
  refine ow_nil (into ?_)
  refine sw_seq ?_
  refine sw_seq ?_
  refine sw_region ?_
  refine ow_val (val_move rfl) rfl ?_
  refine ow_val (val_not rfl) rfl ?_
  refine ow_val (val_move rfl) rfl ?_
  refine ow_guard_yes rfl rfl rfl ?_
  refine ow_val (val_move rfl) rfl ?_
  refine ow_guard_yes rfl rfl rfl ?_
  refine ow_val (val_len rfl Tryd.underlying22) rfl ?_
  refine ow_guard_yes rfl rfl rfl ?_
  refine ow_val ((val_eql_int rfl rfl).to (congrArg Value.bool (decide_eq_false ((by omega))))) rfl ?_
  refine ow_val (val_pick_false rfl rfl) rfl ?_
  refine ow_nil (into ?_)
  refine sw_false rfl rfl ?_
  refine sw_skip (into ?_)
  refine sw_seq ?_
  refine sw_region ?_
  obtain ⟨bL, oL, rfl⟩ := hla29 (by omega)
  refine ow_val (val_move rfl) rfl ?_
  refine ow_val (val_move rfl) rfl ?_
  refine ow_val (val_len rfl Tryd.underlying22) rfl ?_
  refine ow_val (val_conv_n_u64 L.length Tryd.underlying3 Tryd.underlying23 rfl rfl) rfl ?_
  refine ow_val (val_rem_u64 rfl rfl hne) rfl ?_
  refine ow_val ((val_add_u64 rfl rfl).to (congrArg vU64 hn9)) rfl ?_
  refine ow_val (val_assign rfl) rfl ?_
  refine ow_nil (into ?_)
  refine sw_seq ?_
  refine sw_region ?_
  refine ow_val (val_move rfl) rfl ?_
  refine ow_val (val_move rfl) rfl ?_
  refine ow_val ((val_rem_u64 rfl rfl hne9).to (congrArg vU64 hi9)) rfl ?_
  refine ow_val (val_assign rfl) rfl ?_
  refine ow_nil (into ?_)
  refine sw_seq ?_
  refine sw_region ?_
  refine ow_val (val_move rfl) rfl ?_
  refine ow_val (val_move rfl) rfl ?_
  refine ow_val (val_move rfl) rfl ?_
  refine ow_call_row2 (E := 41) (size := 32) (k := P.length) (xs := List.flatMap (fun d : List UInt8 => List.map vU8 d) P) (x := vInt ((0 : Nat) : Int)) (callsTo Tryd.func16 rfl (by kernel_rfl) rfl) rfl (fun w hm => incl_okU k h1 h2 b29 L (by assumption) (by assumption) (by omega) i9 n9 w (hK.mem0 hm) (htr29.is (hm.heldSub (List.Sublist.refl _))) hI1 _ hP) (fun a62 c62 e62 hr62 => ?_)
  refine ow_val (val_move rfl) rfl ?_
  refine ow_val (val_extract rfl rfl) rfl ?_
  refine ow_val (val_extract rfl rfl) rfl ?_
  refine ow_val (val_assign rfl) rfl ?_
  refine ow_val (val_assign rfl) rfl ?_
  refine ow_nil (into ?_)
  refine sw_seq ?_
  refine sw_region ?_
  refine ow_val (val_move rfl) rfl ?_
  refine ow_val (val_move rfl) rfl ?_
  refine ow_call_pure (v := .tuple #[.agg ((lg k S).map vU8).toArray, vInt ((0 : Nat) : Int)]) (callsTo Tryd.func26 rfl (by kernel_rfl) rfl) rfl (fun w hm => (by have h := root_any k h1 h2 b29 L (by assumption) (by assumption) n9 w (hK.mem0 hm) (htr29.is (hm.heldSub (.cons _ (List.Sublist.refl _)))) (by omega); rw [rngU k hn9L, hS] at h; exact h)) ?_
  refine ow_val (val_move rfl) rfl ?_
  refine ow_val (val_extract rfl rfl) rfl ?_
  refine ow_val (val_extract rfl rfl) rfl ?_
  refine ow_new (acts_alloc zD) rfl (fun b14 hb14 => ?_)
  refine ow_do_eq (does_store_all 0 rfl rfl rfl (one_u8s _) Tryd.sizeOf41 (by show (List.map vU8 (lg k S)).length = _; rw [List.length_map]; exact (lg_len h2 _ rfl hSd)) (by show (List.map vU8 zeros32).length = _; rw [List.length_map]; exact zeros32_len)) ?_
  refine ow_val (val_assign rfl) rfl ?_
  refine ow_nil (into ?_)
  refine sw_seq ?_
  refine sw_seq ?_
  refine sw_region_lex _ [] [(0, 0), (1, 0), (2, 0), (3, 0), (4, 0), (5, 0), (6, 0), (7, 0), (8, 0), (9, 0), (10, 0), (12, 0), (13, 0), (14, 0), (11, 1), (15, 1), (16, 2), (17, 0), (18, 0)] (by kernel_rfl) (by kernel_rfl) (fun _ _ _ h => h) (fun _ h => h) (fun _ h => h.drawn _) ?_
  refine lw_pure rfl (val_move rfl) rfl ?_
  refine lw_pure rfl ((val_neq_int rfl rfl).to (v' := .bool false) (congrArg Value.bool (decide_eq_false (fun h => h (by simp))))) rfl ?_
  refine lw_pure rfl (val_move rfl) rfl ?_
  refine lwg_pure rfl (wg rfl rfl) (val_move rfl) rfl ?_
  refine lwg_pure rfl (wg rfl rfl) ((val_neq_int rfl rfl).to (v' := .bool false) (congrArg Value.bool (decide_eq_false (fun h => h (by simp))))) rfl ?_
  refine lw_pure rfl (val_pick_false rfl rfl) rfl ?_
  refine lw_pure rfl (val_move rfl) rfl ?_
  refine lwg_pure rfl (wg rfl rfl) (val_move rfl) rfl ?_
  refine lwg_pure rfl (wg rfl rfl) (val_move rfl) rfl ?_
  refine lwg_pure rfl (wg rfl rfl) (val_move rfl) rfl ?_
  refine lwg_pure rfl (wg rfl rfl) (val_indexAddr_slice i9.toNat (oL + i9.toNat * 32) rfl rfl Tryd.underlying22 Tryd.sizeOf41 rfl (by omega) (by omega)) rfl ?_
  refine lwg_pure rfl (wg rfl rfl) (val_move rfl) rfl ?_
  refine lwg_pure rfl (wg rfl rfl) (val_move rfl) rfl ?_
  refine lwg_pure rfl (wg rfl rfl) (val_move rfl) rfl ?_
  refine lwg_held rfl (wg rfl rfl) ((val_load_elem (cells := fun d => d.map vU8) (l := L) (o := oL) (i := i9.toNat) rfl Tryd.isAgg41 Tryd.sizeOf41 (fun x hx => by rw [List.length_map]; exact hLd x hx) (by omega) (by omega) (fun w' hm => hrd29 _ (hm.heldSub (.cons _ (.cons _ (List.Sublist.refl _)))))).to (v' := .agg (x.map vU8).toArray) (by rw [hx])) rfl ?_
  refine lwg_held rfl (wg rfl rfl) (val_load_all 0 rfl rfl Tryd.isAgg41 Tryd.sizeOf41 (by show (List.map vU8 (lg k S)).length = _; rw [List.length_map]; exact (lg_len h2 _ rfl hSd))) rfl ?_
  refine lwg_call_pure (v := vInt ((0 : Nat) : Int)) rfl (wg rfl rfl) (callsTo Tryd.func32 rfl (by kernel_rfl) rfl) rfl (fun w hm => (by have h := mincl_any (k : Int) x hxd i9 n9 (lg k S) (lg_len h2 _ rfl hSd) w (hK.mem0 hm) a62 P.length c62 P rfl hPd (hr62.rdAt hm (i := 1) rfl) hr62.le (by omega) (by omega); rw [qI] at h; exact h)) ?_
  refine lwg_pure rfl (wg rfl rfl) ((val_neq_int rfl rfl).to (v' := .bool false) (congrArg Value.bool (decide_eq_false (fun h => h (by simp))))) rfl ?_
  refine lw_pure rfl (val_pick_false rfl rfl) rfl ?_
  refine lw_nil (into ?_)
  refine sw_false rfl rfl ?_
  refine sw_skip (into ?_)
  refine sw_seq ?_
  refine sw_region ?_
  refine ow_val (val_move rfl) rfl ?_
  refine ow_val (val_move rfl) rfl ?_
  refine ow_val (val_move rfl) rfl ?_
  refine ow_call_row2 (E := 41) (size := 32) (k := Q.length) (xs := List.flatMap (fun d : List UInt8 => List.map vU8 d) Q) (x := vInt ((0 : Nat) : Int)) (callsTo Tryd.func19 rfl (by kernel_rfl) rfl) rfl (fun w hm => cons_okU k h1 h2 b29 L (by assumption) (by assumption) (by omega) i9 n9 w (hK.mem0 hm) (htr29.is (hm.heldSub (.cons _ (.cons _ (List.Sublist.refl _))))) hJ1 _ hQ) (fun a94 c94 e94 hr94 => ?_)
  refine ow_val (val_move rfl) rfl ?_
  refine ow_val (val_extract rfl rfl) rfl ?_
  refine ow_val (val_extract rfl rfl) rfl ?_
  refine ow_val (val_assign rfl) rfl ?_
  refine ow_val (val_assign rfl) rfl ?_
  refine ow_nil (into ?_)
  refine sw_seq ?_
  refine sw_region ?_
  refine ow_val (val_move rfl) rfl ?_
  refine ow_val (val_move rfl) rfl ?_
  refine ow_call_pure (v := .tuple #[.agg ((lg k SM).map vU8).toArray, vInt ((0 : Nat) : Int)]) (callsTo Tryd.func26 rfl (by kernel_rfl) rfl) rfl (fun w hm => (by have h := root_any k h1 h2 b29 L (by assumption) (by assumption) i9 w (hK.mem0 hm) (htr29.is (hm.heldSub (.cons _ (.cons _ (.cons _ (List.Sublist.refl _)))))) (by omega); rw [rngU k hi9L, hSM] at h; exact h)) ?_
  refine ow_val (val_move rfl) rfl ?_
  refine ow_val (val_extract rfl rfl) rfl ?_
  refine ow_val (val_extract rfl rfl) rfl ?_
  refine ow_new (acts_alloc zD) rfl (fun b18 hb18 => ?_)
  refine ow_do_eq (does_store_all 0 rfl rfl rfl (one_u8s _) Tryd.sizeOf41 (by show (List.map vU8 (lg k SM)).length = _; rw [List.length_map]; exact (lg_len h2 _ rfl hMd)) (by show (List.map vU8 zeros32).length = _; rw [List.length_map]; exact zeros32_len)) ?_
  refine ow_val (val_assign rfl) rfl ?_
  refine ow_nil (into ?_)
  refine sw_seq ?_
  refine sw_seq ?_
  refine sw_region ?_
  refine ow_val (val_move rfl) rfl ?_
  refine ow_val ((val_neq_int rfl rfl).to (v' := .bool false) (congrArg Value.bool (decide_eq_false (fun h => h (by simp))))) rfl ?_
  refine ow_val (val_move rfl) rfl ?_
  refine ow_guard_yes rfl rfl rfl ?_
  refine ow_val (val_move rfl) rfl ?_
  refine ow_guard_yes rfl rfl rfl ?_
  refine ow_val ((val_neq_int rfl rfl).to (v' := .bool false) (congrArg Value.bool (decide_eq_false (fun h => h (by simp))))) rfl ?_
  refine ow_val (val_pick_false rfl rfl) rfl ?_
  refine ow_val (val_move rfl) rfl ?_
  refine ow_guard_yes rfl rfl rfl ?_
  refine ow_val (val_move rfl) rfl ?_
  refine ow_guard_yes rfl rfl rfl ?_
  refine ow_val (val_move rfl) rfl ?_
  refine ow_guard_yes rfl rfl rfl ?_
  refine ow_val (val_move rfl) rfl ?_
  refine ow_guard_yes rfl rfl rfl ?_
  refine ow_val (val_load_all 0 rfl rfl Tryd.isAgg41 Tryd.sizeOf41 (by show (List.map vU8 (lg k SM)).length = _; rw [List.length_map]; exact (lg_len h2 _ rfl hMd))) rfl ?_
  refine ow_guard_yes rfl rfl rfl ?_
  refine ow_val (val_load_all 2 rfl rfl Tryd.isAgg41 Tryd.sizeOf41 (by show (List.map vU8 (lg k S)).length = _; rw [List.length_map]; exact (lg_len h2 _ rfl hSd))) rfl ?_
  refine ow_guard_yes rfl rfl rfl ?_
  refine ow_val (val_move rfl) rfl ?_
  refine ow_guard_yes rfl rfl rfl ?_
  refine ow_call_pure (v := vInt ((0 : Nat) : Int)) (callsTo Tryd.func33 rfl (by kernel_rfl) rfl) rfl (fun w hm => (by have h := mcons_any (k : Int) (lg k SM) (lg_len h2 _ rfl hMd) i9 n9 (lg k S) (lg_len h2 _ rfl hSd) w (hK.mem0 hm) a94 Q.length c94 Q rfl hQd (hr94.rdAt hm (i := 1) rfl) hr94.le (by omega) (by omega); rw [qC] at h; exact h)) ?_
  refine ow_guard_yes rfl rfl rfl ?_
  refine ow_val ((val_neq_int rfl rfl).to (v' := .bool false) (congrArg Value.bool (decide_eq_false (fun h => h (by simp))))) rfl ?_
  refine ow_val (val_pick_false rfl rfl) rfl ?_
  refine ow_val (val_move rfl) rfl ?_
  refine ow_guard_yes rfl rfl rfl ?_
  refine ow_val (val_move rfl) rfl ?_
  refine ow_guard_yes rfl rfl rfl ?_
  refine ow_val (val_move rfl) rfl ?_
  refine ow_guard_yes rfl rfl rfl ?_
  refine ow_val (val_move rfl) rfl ?_
  refine ow_guard_yes rfl rfl rfl ?_
  refine ow_val (val_load_all 2 rfl rfl Tryd.isAgg41 Tryd.sizeOf41 (by show (List.map vU8 (lg k S)).length = _; rw [List.length_map]; exact (lg_len h2 _ rfl hSd))) rfl ?_
  refine ow_guard_yes rfl rfl rfl ?_
  refine ow_val (val_load_all 2 rfl rfl Tryd.isAgg41 Tryd.sizeOf41 (by show (List.map vU8 (lg k S)).length = _; rw [List.length_map]; exact (lg_len h2 _ rfl hSd))) rfl ?_
  refine ow_guard_yes rfl rfl rfl ?_
  refine ow_call_pure (v := vInt ((0 : Nat) : Int)) (callsTo Tryd.func33 rfl (by kernel_rfl) rfl) rfl (fun w hm => (by have h := mcons_any (k : Int) (lg k S) (lg_len h2 _ rfl hSd) n9 n9 (lg k S) (lg_len h2 _ rfl hSd) w (hK.mem0 hm) none 0 0 [] rfl (fun _ h => by cases h) (Rd.nil _ _) (Nat.le_refl _) (by decide) (by omega); rw [qS] at h; exact h)) ?_
  refine ow_guard_yes rfl rfl rfl ?_
  refine ow_val ((val_neq_int rfl rfl).to (v' := .bool false) (congrArg Value.bool (decide_eq_false (fun h => h (by simp))))) rfl ?_
  refine ow_val (val_pick_false rfl rfl) rfl ?_
  refine ow_nil (into ?_)
  refine sw_false rfl rfl ?_
  refine sw_skip (into ?_)
  refine sw_seq ?_
  refine sw_region ?_
  refine ow_val (val_move rfl) rfl ?_
  refine ow_val (val_move rfl) rfl ?_
  refine ow_val (val_conv_u64_i64 Tryd.underlying23 Tryd.underlying3 rfl (by omega)) rfl ?_
  refine ow_val (val_sub_int ((n9.toNat - 1 : Nat) : Int) rfl rfl (by omega) (by omega)) rfl ?_
  refine ow_val (val_indexAddr_slice (n9.toNat - 1) (oL + (n9.toNat - 1) * 32) rfl rfl Tryd.underlying22 Tryd.sizeOf41 (by omega) (by omega) (by omega)) rfl ?_
  refine ow_val ((val_load_elem (cells := fun d => d.map vU8) (l := L) (o := oL) (i := n9.toNat - 1) rfl Tryd.isAgg41 Tryd.sizeOf41 (fun x hx => by rw [List.length_map]; exact hLd x hx) (by omega) (by omega) (fun w' hm => hrd29 _ (hm.heldSub (.cons _ (.cons _ (.cons _ (.cons _ (List.Sublist.refl _)))))))).to (v' := .agg (z.map vU8).toArray) (by rw [hz])) rfl ?_
  refine ow_new (acts_alloc zD) rfl (fun b20 hb20 => ?_)
  refine ow_do_eq (does_store_all 0 rfl rfl rfl (one_u8s _) Tryd.sizeOf41 (by show (List.map vU8 z).length = _; rw [List.length_map]; exact hzd) (by show (List.map vU8 zeros32).length = _; rw [List.length_map]; exact zeros32_len)) ?_
  refine ow_nil (into ?_)
  refine sw_seq ?_
  refine sw_region ?_
  refine ow_val (val_move rfl) rfl ?_
  refine ow_val (val_load_all 0 rfl rfl Tryd.isAgg41 Tryd.sizeOf41 (by show (List.map vU8 z).length = _; rw [List.length_map]; exact hzd)) rfl ?_
  refine ow_val (val_move rfl) rfl ?_
  refine ow_val (val_move rfl) rfl ?_
  refine ow_val (val_move rfl) rfl ?_
  refine ow_call_pure (v := .tuple #[.agg ((dz).map vU8).toArray, vInt ((0 : Nat) : Int)]) (callsTo Tryd.func34 rfl (by kernel_rfl) rfl) rfl (fun w hm => (by have h := mroot_any (k : Int) z hzd i9 n9 w (hK.mem0 hm) a62 P.length c62 P rfl hPd (hr62.rdAt hm (i := 4) rfl) hr62.le (by omega) (by omega); rw [qR] at h; exact h)) ?_
  refine ow_val (val_move rfl) rfl ?_
  refine ow_val (val_extract rfl rfl) rfl ?_
  refine ow_val (val_extract rfl rfl) rfl ?_
  refine ow_new (acts_alloc zD) rfl (fun b21 hb21 => ?_)
  refine ow_do_eq (does_store_all 0 rfl rfl rfl (one_u8s _) Tryd.sizeOf41 (by show (List.map vU8 dz).length = _; rw [List.length_map]; exact hdzd) (by show (List.map vU8 zeros32).length = _; rw [List.length_map]; exact zeros32_len)) ?_
  refine ow_val (val_assign rfl) rfl ?_
  refine ow_nil (into ?_)
  refine sw_seq ?_
  rcases Decidable.em (dz = lg k S) with hzz | hzz
  · -- case
    have qZ := qE hzz
    refine sw_region ?_
    refine ow_val (val_move rfl) rfl ?_
    refine ow_val (val_load_all 1 rfl rfl Tryd.isAgg41 Tryd.sizeOf41 (by show (List.map vU8 z).length = _; rw [List.length_map]; exact hzd)) rfl ?_
    refine ow_val (val_move rfl) rfl ?_
    refine ow_val (val_move rfl) rfl ?_
    refine ow_val (val_move rfl) rfl ?_
    refine ow_val (val_load_all 4 rfl rfl Tryd.isAgg41 Tryd.sizeOf41 (by show (List.map vU8 (lg k S)).length = _; rw [List.length_map]; exact (lg_len h2 _ rfl hSd))) rfl ?_
    refine ow_call_pure (v := vInt ((0 : Nat) : Int)) (callsTo Tryd.func32 rfl (by kernel_rfl) rfl) rfl (fun w hm => (by have h := mincl_any (k : Int) z hzd i9 n9 (lg k S) (lg_len h2 _ rfl hSd) w (hK.mem0 hm) a62 P.length c62 P rfl hPd (hr62.rdAt hm (i := 5) rfl) hr62.le (by omega) (by omega); rw [qZ] at h; exact h)) ?_
    refine ow_val (val_assign rfl) rfl ?_
    refine ow_nil (into ?_)
    refine sw_seq ?_
    refine sw_region ?_
    refine ow_val (val_move rfl) rfl ?_
    refine ow_val ((val_eql_int rfl rfl).to (v' := .bool true) (congrArg Value.bool (decide_eq_true (by simp)))) rfl ?_
    refine ow_val (val_move rfl) rfl ?_
    refine ow_guard_yes rfl rfl rfl ?_
    refine ow_val (val_move rfl) rfl ?_
    refine ow_guard_yes rfl rfl rfl ?_
    refine ow_val ((val_eql_int rfl rfl).to (v' := .bool true) (congrArg Value.bool (decide_eq_true (by simp)))) rfl ?_
    refine ow_guard_yes rfl rfl rfl ?_
    refine ow_val (val_load_all 0 rfl rfl Tryd.isAgg41 Tryd.sizeOf41 (by show (List.map vU8 dz).length = _; rw [List.length_map]; exact hdzd)) rfl ?_
    refine ow_guard_yes rfl rfl rfl ?_
    refine ow_val (val_load_all 4 rfl rfl Tryd.isAgg41 Tryd.sizeOf41 (by show (List.map vU8 (lg k S)).length = _; rw [List.length_map]; exact (lg_len h2 _ rfl hSd))) rfl ?_
    refine ow_guard_yes rfl rfl rfl ?_
    refine ow_val ((val_eql_u8s rfl rfl Tryd.eqGuardType41 Tryd.underlying41 Tryd.underlying5 Tryd.sizeOf5 Tryd.isAgg5 hdzd (lg_len h2 _ rfl hSd)).to (congrArg Value.bool (decide_eq_true (hzz)))) rfl ?_
    refine ow_guard_yes rfl rfl rfl ?_
    refine ow_val (val_eql_bool Tryd.underlying4 rfl rfl) rfl ?_
    refine ow_val (val_pick_true rfl rfl) rfl ?_
    refine ow_val (val_move rfl) rfl ?_
    refine ow_guard_yes rfl rfl rfl ?_
    refine ow_val (val_move rfl) rfl ?_
    refine ow_guard_yes rfl rfl rfl ?_
    refine ow_val ((val_eql_int rfl rfl).to (v' := .bool true) (congrArg Value.bool (decide_eq_true (by simp)))) rfl ?_
    refine ow_guard_yes rfl rfl rfl ?_
    refine ow_val (val_move rfl) rfl ?_
    first | refine ow_guard_no rfl rfl rfl rfl rfl ?_ | refine ow_guard_none rfl rfl rfl rfl rfl ?_
    first | refine ow_guard_no rfl rfl rfl rfl rfl ?_ | refine ow_guard_none rfl rfl rfl rfl rfl ?_
    refine ow_guard_yes rfl rfl rfl ?_
    refine ow_val (val_pick_true rfl rfl) rfl ?_
    refine ow_val (val_pick_true rfl rfl) rfl ?_
    refine ow_val (val_assign rfl) rfl ?_
    refine ow_nil (into ?_)
    exact sw_ret (fun w hm => ret_one _ rfl rfl ⟨rfl, hm.forgetAll⟩)
  · -- case
    have qZ := qN hzz
    refine sw_region ?_
    refine ow_val (val_move rfl) rfl ?_
    refine ow_val (val_load_all 1 rfl rfl Tryd.isAgg41 Tryd.sizeOf41 (by show (List.map vU8 z).length = _; rw [List.length_map]; exact hzd)) rfl ?_
    refine ow_val (val_move rfl) rfl ?_
    refine ow_val (val_move rfl) rfl ?_
    refine ow_val (val_move rfl) rfl ?_
    refine ow_val (val_load_all 4 rfl rfl Tryd.isAgg41 Tryd.sizeOf41 (by show (List.map vU8 (lg k S)).length = _; rw [List.length_map]; exact (lg_len h2 _ rfl hSd))) rfl ?_
    refine ow_call_pure (v := vInt ((10 : Nat) : Int)) (callsTo Tryd.func32 rfl (by kernel_rfl) rfl) rfl (fun w hm => (by have h := mincl_any (k : Int) z hzd i9 n9 (lg k S) (lg_len h2 _ rfl hSd) w (hK.mem0 hm) a62 P.length c62 P rfl hPd (hr62.rdAt hm (i := 5) rfl) hr62.le (by omega) (by omega); rw [qZ] at h; exact h)) ?_
    refine ow_val (val_assign rfl) rfl ?_
    refine ow_nil (into ?_)
    refine sw_seq ?_
    refine sw_region ?_
    refine ow_val (val_move rfl) rfl ?_
    refine ow_val ((val_eql_int rfl rfl).to (v' := .bool true) (congrArg Value.bool (decide_eq_true (by simp)))) rfl ?_
    refine ow_val (val_move rfl) rfl ?_
    refine ow_guard_yes rfl rfl rfl ?_
    refine ow_val (val_move rfl) rfl ?_
    refine ow_guard_yes rfl rfl rfl ?_
    refine ow_val ((val_eql_int rfl rfl).to (v' := .bool false) (congrArg Value.bool (decide_eq_false (by simp)))) rfl ?_
    refine ow_guard_yes rfl rfl rfl ?_
    refine ow_val (val_load_all 0 rfl rfl Tryd.isAgg41 Tryd.sizeOf41 (by show (List.map vU8 dz).length = _; rw [List.length_map]; exact hdzd)) rfl ?_
    refine ow_guard_yes rfl rfl rfl ?_
    refine ow_val (val_load_all 4 rfl rfl Tryd.isAgg41 Tryd.sizeOf41 (by show (List.map vU8 (lg k S)).length = _; rw [List.length_map]; exact (lg_len h2 _ rfl hSd))) rfl ?_
    refine ow_guard_yes rfl rfl rfl ?_
    refine ow_val ((val_eql_u8s rfl rfl Tryd.eqGuardType41 Tryd.underlying41 Tryd.underlying5 Tryd.sizeOf5 Tryd.isAgg5 hdzd (lg_len h2 _ rfl hSd)).to (congrArg Value.bool (decide_eq_false (hzz)))) rfl ?_
    refine ow_guard_yes rfl rfl rfl ?_
    refine ow_val (val_eql_bool Tryd.underlying4 rfl rfl) rfl ?_
    refine ow_val (val_pick_true rfl rfl) rfl ?_
    refine ow_val (val_move rfl) rfl ?_
    refine ow_guard_yes rfl rfl rfl ?_
    refine ow_val (val_move rfl) rfl ?_
    refine ow_guard_yes rfl rfl rfl ?_
    refine ow_val ((val_eql_int rfl rfl).to (v' := .bool false) (congrArg Value.bool (decide_eq_false (by simp)))) rfl ?_
    refine ow_guard_yes rfl rfl rfl ?_
    refine ow_val (val_move rfl) rfl ?_
    refine ow_guard_yes rfl rfl rfl ?_
    refine ow_val (val_move rfl) rfl ?_
    refine ow_guard_yes rfl rfl rfl ?_
    refine ow_val ((val_eql_int rfl rfl).to (v' := .bool true) (congrArg Value.bool (decide_eq_true (by simp)))) rfl ?_
    refine ow_guard_yes rfl rfl rfl ?_
    refine ow_val (val_pick_false rfl rfl) rfl ?_
    refine ow_val (val_pick_true rfl rfl) rfl ?_
    refine ow_val (val_assign rfl) rfl ?_
    refine ow_nil (into ?_)
    exact sw_ret (fun w hm => ret_one _ rfl rfl ⟨rfl, hm.forgetAll⟩)

theorem mcheckHonest_any (v0 : Int) (i n : UInt64) (w : World) (hK : KW w) (a : Option Addr) (c : Nat) (l : List (List UInt8)) (hdl : ∀ d ∈ l, d.length = 32) (hr : Rd w a (l.flatMap fun d => d.map vU8)) (hc : l.length ≤ c) (hb : l.length * 32 ≤ 140737488351232) : Calls Tryd.prog 11 #[vInt v0, .slice a l.length c, vU64 i, vU64 n] w fun e w' => ∃ v, e = .returned v ∧ v = .bool true ∧ Mem w [] [] w' := by
  cases hwd : wd v0 with
  | false =>
    have h9 := mt wd_iff.2 (by rw [hwd]; simp)
    by_cases hv : v0 < 1
    · exact hon_lo v0 hwd i n w hK a c l hdl hr hc hb hv
    · exact hon_hi v0 hwd i n w hK a c l hdl hr hc hb hv (by omega)
  | true =>
    have h9 := wd_iff.1 hwd
    obtain ⟨k, rfl⟩ : ∃ k : Nat, v0 = (k : Int) := ⟨v0.toNat, by omega⟩
    by_cases h0 : (kl (k : Int) l l.length).length = 0
    · exact hon_nil k (by omega) (by omega) i n w hK a c l hdl hr hc hb _ rfl h0
    · exact hon_go k (by omega) (by omega) i n w hK a c l hdl hr hc hb _ rfl h0
end Go.Proofs.YtcdponddgnkecaaDoor
