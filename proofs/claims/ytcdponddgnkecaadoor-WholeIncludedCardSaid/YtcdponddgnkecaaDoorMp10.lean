import Derived.Test.YtcdponddgnkecaaDoorMp6
import Derived.Test.YtcdponddgnkecaaDoorPMr
import Derived.Test.YtcdponddgnkecaaDoorProg
set_option linter.unusedVariables false
set_option linter.unusedSimpArgs false
namespace Go.Proofs.YtcdponddgnkecaaDoor
open Go.Sx Go.Ps
theorem tw_any (w8 : UInt8) (w : World) : Calls Tryd.prog 35 #[vU8 w8] w fun e w' => ∃ v, e = .returned v ∧ v = vInt ((1 + w8.toNat % 32 : Nat) : Int) ∧ Mem w [] [] w' := by
  refine calls_of_sw (vs := [vU8 w8]) Tryd.func35 rfl Tryd.ntmps35 rfl (SW.begin ?_)
  refine sw_seq ?_
  refine sw_region ?_
  refine ow_val (val_assign rfl) rfl ?_
  refine ow_nil (into ?_)
  refine sw_seq ?_
  refine sw_region ?_
  refine ow_val (val_move rfl) rfl ?_
  refine ow_val (val_conv_u8_i64 Tryd.underlying5 Tryd.underlying3 rfl) rfl ?_
  refine ow_val (val_rem_nn ((w8.toNat % 32 : Nat) : Int) rfl rfl (by omega) (by omega) (by omega)) rfl ?_
  refine ow_val (val_add_int ((1 + w8.toNat % 32 : Nat) : Int) rfl rfl (by omega) (by omega)) rfl ?_
  refine ow_val (val_assign rfl) rfl ?_
  refine ow_nil (into ?_)
  exact sw_ret (fun w hm => ret_one _ rfl rfl ⟨rfl, hm⟩)

theorem tcut_any (k : Nat) (h2 : k ≤ 32) (d : List UInt8) (hd : d.length = 32) (w : World) : Calls Tryd.prog 67 #[vInt (k : Int), .agg ((d).map vU8).toArray] w fun e w' => ∃ v, e = .returned v ∧ v = .agg ((cutw k d).map vU8).toArray ∧ Mem w [] [] w' := by
  refine calls_of_sw (vs := [vInt (k : Int), .agg ((d).map vU8).toArray]) Tryd.func67 rfl Tryd.ntmps67 rfl (SW.begin ?_)
  refine sw_seq ?_
  refine sw_region ?_
  refine ow_new (acts_box rfl) rfl (fun b3 hb3 => ?_)
  refine ow_new (acts_alloc zD) rfl (fun b4 hb4 => ?_)
  refine ow_nil (into ?_)
  refine sw_seq ?_
  refine sw_seq ?_
  refine sw_region ?_
  refine ow_val (val_move rfl) rfl ?_
  refine ow_val (val_assign rfl) rfl ?_
  refine ow_nil (into ?_)
  refine sw_block ?_
  refine sw_loop (σ := Nat) (fun j => k + j ≤ 32) (fun j => [(5, vInt ((k + j : Nat) : Int)), (4, .pointer (some ⟨b4, 0, none⟩)), (3, .pointer (some ⟨b3, 0, none⟩))]) (fun j => Mem w [] [some (b4, blk (zeros32.map vU8) 41), some (b3, blk ((cutFrom d k j).map vU8) 41)]) (fun j => 32 - j) 0 (by omega) ⟨rfl, rfl, rfl, trivial⟩ (fun w hm => hm) ?_
  intro j hj
  refine sw_seq ?_
  refine sw_seq ?_
  refine sw_region ?_
  refine ow_val (val_move rfl) rfl ?_
  refine ow_val (val_lss_int rfl rfl) rfl ?_
  refine ow_nil (into ?_)
  refine sw_if rfl (fun h0 => ?_) (fun h0 => ?_)
  · -- then
    refine sw_skip (into ?_)
    refine sw_seq ?_
    refine sw_block ?_
    refine sw_region ?_
    refine ow_val (val_move rfl) rfl ?_
    refine ow_val (val_indexAddr (k + j) (k + j) rfl rfl Tryd.underlying41 Tryd.sizeOf5 (by omega) (by omega) (by omega)) rfl ?_
    refine ow_do (does_store_map (V := vU8) 1 rfl rfl rfl rfl Tryd.sizeOf5 (by rw [cutFrom_len, hd]; omega)) (fun _ _ => ?_)
    refine ow_nil (into ?_)
    refine sw_region ?_
    refine ow_val (val_move rfl) rfl ?_
    refine ow_val (val_add_int ((k + j + 1 : Nat) : Int) rfl rfl (by omega) (by omega)) rfl ?_
    refine ow_val (val_assign rfl) rfl ?_
    exact ow_nil (fun w hm => ⟨j + 1, by omega, by omega, ⟨rfl, rfl, rfl, trivial⟩, hm⟩)
  · -- else
    obtain rfl : j = 32 - k := by omega
    rw [cutFrom_all _ k hd h2]
    refine sw_exit (into ?_)
    refine sw_seq ?_
    refine sw_region ?_
    refine ow_val (val_load_all 1 rfl rfl Tryd.isAgg41 Tryd.sizeOf41 (by show (List.map vU8 (cutw k d)).length = _; rw [List.length_map]; exact (cutw_len hd h2))) rfl ?_
    refine ow_do_eq (does_store_all 0 rfl rfl rfl (one_u8s _) Tryd.sizeOf41 (by show (List.map vU8 (cutw k d)).length = _; rw [List.length_map]; exact (cutw_len hd h2)) (by show (List.map vU8 zeros32).length = _; rw [List.length_map]; exact zeros32_len)) ?_
    refine ow_nil (into ?_)
    exact sw_ret (fun w hm => ret_cell 0 rfl rfl hm rfl Tryd.isAgg41 Tryd.sizeOf41 (by rw [List.length_map]; exact cutw_len hd h2) ⟨rfl, hm.forgetAll⟩)

theorem tw_is {w8 : UInt8} {k : Nat} (hk : 1 + w8.toNat % 32 = k) (w : World) : Calls Tryd.prog 35 #[vU8 w8] w fun e w' => ∃ v, e = .returned v ∧ v = vInt (k : Int) ∧ Mem w [] [] w' := by subst hk; exact tw_any w8 w

/-- The leaf i: the listed one, cut, or that of its number. -/
def lv (k : Nat) (q : List (List UInt8)) (i : Nat) : List UInt8 := if i < q.length then cutw k (q.getD i default) else dig k (leafI [UInt8.ofNat i, UInt8.ofNat (i / 2 ^ 8)])
def lvs (k : Nat) (q : List (List UInt8)) (n : Nat) : List (List UInt8) := (List.range n).map (lv k q)
theorem lvs_succ (k : Nat) (q : List (List UInt8)) (n : Nat) : lvs k q (n + 1) = lvs k q n ++ [lv k q n] := by rw [lvs, List.range_succ, List.map_append]; rfl
theorem lvs_len (k : Nat) (q : List (List UInt8)) (n : Nat) : (lvs k q n).length = n := by simp [lvs]
theorem lv_ok {k : Nat} (h1 : 1 ≤ k) (h2 : k ≤ 32) {q : List (List UInt8)} (hq : ∀ d ∈ q, d.length = 32) (i : Nat) : (lv k q i).length = 32 ∧ fm (k : Int) (lv k q i) = true := by
  unfold lv; split
  · rename_i h
    have h9 := hq _ (getD_mem h)
    exact ⟨cutw_len h9 h2, fm_cutw h1 h2 h9⟩
  · exact ⟨dig_len _ h2, fm_dig h1 h2 _⟩
theorem lvs_ok {k : Nat} (h1 : 1 ≤ k) (h2 : k ≤ 32) {q : List (List UInt8)} (hq : ∀ d ∈ q, d.length = 32) (n : Nat) : (∀ d ∈ lvs k q n, d.length = 32) ∧ ∀ d ∈ lvs k q n, fm (k : Int) d = true :=
  ⟨fun d hd => by obtain ⟨i, _, rfl⟩ := List.mem_map.1 hd; exact (lv_ok h1 h2 hq i).1, fun d hd => by obtain ⟨i, _, rfl⟩ := List.mem_map.1 hd; exact (lv_ok h1 h2 hq i).2⟩

theorem leaves_0 (k : Nat) (h1 : 1 ≤ k) (h2 : k ≤ 32) (n : Nat) (hn : n ≤ 1048576) (w : World) (hK : KW w) (a : Option Addr) (c : Nat) (q : List (List UInt8)) (hdq : ∀ d ∈ q, d.length = 32) (hr : Rd w a (q.flatMap fun d => d.map vU8)) (hc : q.length ≤ c) (hl : q.length < 9223372036854775808) : Calls Tryd.prog 38 #[vInt (k : Int), .slice a q.length c, vInt (n : Int)] w fun e w' => ∃ v, e = .returned v ∧ ∃ e', RowE v 41 32 n ((lvs k q n).flatMap fun d => d.map vU8) e' ∧ Mem w [] [e'] w' := by
  obtain ⟨tiD, hDi, hDz, hDsz, hDby⟩ := info_parts iDg
  refine calls_of_sw (vs := [vInt (k : Int), .slice a q.length c, vInt (n : Int)]) Tryd.func38 rfl Tryd.ntmps38 rfl (SW.begin ?_)
  refine sw_seq ?_
  refine sw_region ?_
  refine ow_val (val_assign rfl) rfl ?_
  refine ow_nil (into ?_)
  refine sw_seq ?_
  refine sw_region ?_
  refine ow_val (val_assign rfl) rfl ?_
  refine ow_nil (into ?_)
  refine sw_seq ?_
  refine sw_seq ?_
  refine sw_region ?_
  refine ow_val (val_assign rfl) rfl ?_
  refine ow_nil (into ?_)
  refine sw_block ?_
  refine sw_loop (σ := Nat × Option Addr × Nat × Ent) (fun t => t.1 ≤ n ∧ RowE (.slice t.2.1 t.1 t.2.2.1) 41 32 t.1 ((lvs k q t.1).flatMap fun d => d.map vU8) t.2.2.2) (fun t => [(8, vInt (t.1 : Int)), (7, .slice t.2.1 t.1 t.2.2.1), (0, vInt (k : Int)), (1, .slice a q.length c), (2, vInt (n : Int))]) (fun t => Mem w [] [t.2.2.2]) (fun t => n - t.1) (0, none, 0, none) ⟨Nat.zero_le _, RowE.nil _ _⟩ ⟨rfl, rfl, rfl, rfl, rfl, trivial⟩ (fun w hm => hm.place) ?_
  rintro ⟨i, a1, c1, e1⟩ ⟨hi, hrow⟩
  simp only at hi hrow ⊢
  refine sw_seq ?_
  refine sw_seq ?_
  refine sw_region ?_
  refine ow_val (val_move rfl) rfl ?_
  refine ow_val (val_move rfl) rfl ?_
  refine ow_val (val_lss_int rfl rfl) rfl ?_
  refine ow_nil (into ?_)
  refine sw_if rfl (fun h0 => ?_) (fun h0 => ?_)
  · -- then
    refine sw_skip (into ?_)
    refine sw_seq ?_
    refine sw_block ?_
    refine sw_seq ?_
    refine sw_seq ?_
    refine sw_region ?_
    refine ow_val (val_move rfl) rfl ?_
    refine ow_val (val_move rfl) rfl ?_
    refine ow_val (val_len rfl Tryd.underlying22) rfl ?_
    by_cases hlt : i < q.length
    · -- yes
      obtain ⟨ba, oa, rfl⟩ := hr.addr (by rw [flatMap_size' rfl hdq]; omega)
      refine ow_val ((val_lss_int rfl rfl).to (congrArg Value.bool (decide_eq_true (by omega)))) rfl ?_
      refine ow_nil (into ?_)
      refine sw_true rfl rfl ?_
      refine sw_seq ?_
      refine sw_region ?_
      refine ow_val (val_move rfl) rfl ?_
      refine ow_val (val_move rfl) rfl ?_
      refine ow_val (val_move rfl) rfl ?_
      refine ow_val (val_move rfl) rfl ?_
      refine ow_val (val_indexAddr_slice (i) (oa + i * 32) rfl rfl Tryd.underlying22 Tryd.sizeOf41 (by omega) (by omega) (by omega)) rfl ?_
      refine ow_val (val_load_elem (cells := fun d => d.map vU8) (l := q) (o := oa) (i := i) rfl Tryd.isAgg41 Tryd.sizeOf41 (fun x hx => by rw [List.length_map]; exact hdq x hx) (by omega) (by omega) (fun w' hm => hr.mem hm)) rfl ?_
      refine ow_call_pure (callsTo Tryd.func67 rfl (by kernel_rfl) rfl) rfl (fun w hm => tcut_any k h2 (q.getD i default) (hdq _ (getD_mem (by omega))) w) ?_
      refine ow_make (acts_buildSlice (cs := [((cutw k (q.getD i default))).map vU8].flatten) Tryd.underlying22 Tryd.sizeOf41 zD rfl rfl (fill_aggs [((cutw k (q.getD i default))).map vU8] (by decide) rfl (by simp only [List.forall_mem_cons, List.length_map]; exact ⟨(cutw_len (hdq _ (getD_mem (by omega))) h2), fun _ h => by cases h⟩))) rfl (fun b27 hb27 => ?_)
      refine ow_append' (k := i + 1) (xs := ((lvs k q i) ++ [(cutw k (q.getD i default))]).flatMap fun d => d.map vU8) (acts_row (acts_append (size := 32) (bytes := 32) 1 rfl rfl rfl hrow rfl Tryd.underlying22 hDi hDz hDsz hDby rfl (by decide) (fun w hm => (Rd.blk (hm.at (i := 0) rfl))) (by simp only [List.flatten_cons, List.flatten_nil, List.append_nil, List.length_append, List.length_map, (cutw_len (hdq _ (getD_mem (by omega))) h2)]) (fun u hu => by simp only [List.flatten_cons, List.flatten_nil, List.append_nil, List.mem_append] at hu; rcases hu with hu <;> exact one_u8s _ u hu) (by omega) (by omega)) rfl (by simp only [List.flatMap_append, List.flatMap_cons, List.flatMap_nil, List.flatten_cons, List.flatten_nil, List.nil_append, List.append_nil])) rfl (fun a28 c28 e28 hr28' => ?_)
      have hx28 : ((lvs k q i) ++ [(cutw k (q.getD i default))]).length = i + 1 := by rw [List.length_append, (lvs_len _ _ _)] <;> rfl
      refine ow_val (val_assign rfl) rfl ?_
      refine ow_nil (into ?_)
      refine sw_exit (into ?_)
      refine sw_region ?_
      refine ow_val (val_move rfl) rfl ?_
      refine ow_val (val_add_int ((i + 1 : Nat) : Int) rfl rfl (by omega) (by omega)) rfl ?_
      refine ow_val (val_assign rfl) rfl ?_
      exact ow_nil (fun w hm => ⟨(i + 1, a28, c28, e28), ⟨by dsimp only; omega, hr28'.cong rfl rfl (by rw [lvs_succ, lv, if_pos hlt])⟩, by dsimp only; omega, ⟨rfl, rfl, rfl, rfl, rfl, trivial⟩, hm.only (.cons _ (.cons_cons _ (List.nil_sublist _)))⟩)
    · -- no
      refine ow_val ((val_lss_int rfl rfl).to (congrArg Value.bool (decide_eq_false (by omega)))) rfl ?_
      refine ow_nil (into ?_)
      refine sw_false rfl rfl ?_
      refine sw_skip (into ?_)
      refine sw_seq ?_
      refine sw_region ?_
      refine ow_val (val_move rfl) rfl ?_
      refine ow_val (val_move rfl) rfl ?_
      refine ow_val (val_conv_n_u8 i Tryd.underlying3 Tryd.underlying5 rfl rfl) rfl ?_
      refine ow_val (val_move rfl) rfl ?_
      refine ow_val (val_shr_nat 8 rfl rfl rfl (by decide)) rfl ?_
      refine ow_val (val_conv_n_u8 (i / 2 ^ 8) Tryd.underlying3 Tryd.underlying5 rfl rfl) rfl ?_
      refine ow_make (acts_buildSlice (cs := ([(UInt8.ofNat i), (UInt8.ofNat (i / 2 ^ 8))] : List UInt8).map vU8) Tryd.underlying81 Tryd.sizeOf5 Tryd.zeroValue5 rfl rfl (by kernel_rfl)) rfl (fun b36 hb36 => ?_)
      refine ow_call_pure (v := .tuple #[.agg ((dig k (leafI [UInt8.ofNat i, UInt8.ofNat (i / 2 ^ 8)])).map vU8).toArray, vInt ((0 : Nat) : Int)]) (callsTo Tryd.func68 rfl (by kernel_rfl) rfl) rfl (fun w hm => (by have h := leaf_any (k : Int) w (hK.mem0 hm) (some ⟨b36, 0, none⟩) 2 2 [UInt8.ofNat i, UInt8.ofNat (i / 2 ^ 8)] rfl (Rd.blk (hm.at (i := 0) rfl)) (by decide) (by decide); rw [digO_yes h1 h2] at h; exact h)) ?_
      refine ow_val (val_move rfl) rfl ?_
      refine ow_val (val_extract rfl rfl) rfl ?_
      refine ow_val (val_extract rfl rfl) rfl ?_
      refine ow_new (acts_alloc zD) rfl (fun b9 hb9 => ?_)
      refine ow_do_eq (does_store_all 0 rfl rfl rfl (one_u8s _) Tryd.sizeOf41 (by show (List.map vU8 (dig k (leafI [UInt8.ofNat i, UInt8.ofNat (i / 2 ^ 8)]))).length = _; rw [List.length_map]; exact (dig_len _ h2)) (by show (List.map vU8 zeros32).length = _; rw [List.length_map]; exact zeros32_len)) ?_
      refine ow_val (val_assign rfl) rfl ?_
      refine ow_nil (into ?_)
      refine sw_region ?_
      refine ow_val (val_move rfl) rfl ?_
      refine ow_val (val_load_all 0 rfl rfl Tryd.isAgg41 Tryd.sizeOf41 (by show (List.map vU8 (dig k (leafI [UInt8.ofNat i, UInt8.ofNat (i / 2 ^ 8)]))).length = _; rw [List.length_map]; exact (dig_len _ h2))) rfl ?_
      refine ow_make (acts_buildSlice (cs := [((dig k (leafI [UInt8.ofNat i, UInt8.ofNat (i / 2 ^ 8)]))).map vU8].flatten) Tryd.underlying22 Tryd.sizeOf41 zD rfl rfl (fill_aggs [((dig k (leafI [UInt8.ofNat i, UInt8.ofNat (i / 2 ^ 8)]))).map vU8] (by decide) rfl (by simp only [List.forall_mem_cons, List.length_map]; exact ⟨(dig_len _ h2), fun _ h => by cases h⟩))) rfl (fun b42 hb42 => ?_)
      refine ow_append' (k := i + 1) (xs := ((lvs k q i) ++ ([(dig k (leafI [UInt8.ofNat i, UInt8.ofNat (i / 2 ^ 8)]))])).flatMap fun d => d.map vU8) (acts_row (acts_append (size := 32) (bytes := 32) 3 rfl rfl rfl hrow rfl Tryd.underlying22 hDi hDz hDsz hDby rfl (by decide) (fun w hm => (Rd.blk (hm.at (i := 0) rfl))) (by simp only [List.flatten_cons, List.flatten_nil, List.append_nil, List.length_append, List.length_map, (dig_len _ h2)]) (fun u hu => by simp only [List.flatten_cons, List.flatten_nil, List.append_nil, List.mem_append] at hu; rcases hu with hu <;> exact one_u8s _ u hu) (by omega) (by omega)) rfl (by simp only [List.flatMap_append, List.flatMap_cons, List.flatMap_nil, List.flatten_cons, List.flatten_nil, List.nil_append, List.append_nil])) rfl (fun a43 c43 e43 hr43' => ?_)
      have hx43 : ((lvs k q i) ++ ([(dig k (leafI [UInt8.ofNat i, UInt8.ofNat (i / 2 ^ 8)]))])).length = i + 1 := by rw [List.length_append, (lvs_len _ _ _)] <;> rfl
      refine ow_val (val_assign rfl) rfl ?_
      refine ow_nil (into ?_)
      refine sw_region ?_
      refine ow_val (val_move rfl) rfl ?_
      refine ow_val (val_add_int ((i + 1 : Nat) : Int) rfl rfl (by omega) (by omega)) rfl ?_
      refine ow_val (val_assign rfl) rfl ?_
      exact ow_nil (fun w hm => ⟨(i + 1, a43, c43, e43), ⟨by dsimp only; omega, hr43'.cong rfl rfl (by rw [lvs_succ, lv, if_neg hlt])⟩, by dsimp only; omega, ⟨rfl, rfl, rfl, rfl, rfl, trivial⟩, hm.only (.cons _ (.cons _ (.cons _ (.cons_cons _ (List.nil_sublist _)))))⟩)
  · -- else
    obtain rfl : i = n := by omega
    refine sw_exit (into ?_)
    refine sw_seq ?_
    refine sw_region ?_
    refine ow_val (val_move rfl) rfl ?_
    refine ow_val (val_assign rfl) rfl ?_
    refine ow_nil (into ?_)
    refine sw_ret (fun w hm => ?_)
    try dsimp only [thenP, blockP, Nat.beq, cond]
    exact ret_one _ rfl rfl ⟨_, hrow, hm⟩

theorem leaves_is (k : Nat) (h1 : 1 ≤ k) (h2 : k ≤ 32) (n : Nat) (hn : n ≤ 1048576) (w : World) (hK : KW w) (a : Option Addr) (c : Nat) (q : List (List UInt8)) (hdq : ∀ d ∈ q, d.length = 32) (hr : Rd w a (q.flatMap fun d => d.map vU8)) (hc : q.length ≤ c) (hl : q.length < 9223372036854775808) {L : List (List UInt8)} (hL : lvs k q n = L) : Calls Tryd.prog 38 #[vInt (k : Int), .slice a q.length c, vInt (n : Int)] w fun e w' => ∃ v, e = .returned v ∧ ∃ e', RowE v 41 32 n (L.flatMap fun d => d.map vU8) e' ∧ Mem w [] [e'] w' := by
  subst hL; exact leaves_0 k h1 h2 n hn w hK a c q hdq hr hc hl

theorem leaves_nil (k : Nat) (h1 : 1 ≤ k) (h2 : k ≤ 32) (n : Nat) (hn : n ≤ 1048576) (w : World) (hK : KW w) {L : List (List UInt8)} (hL : lvs k [] n = L) : Calls Tryd.prog 38 #[vInt (k : Int), .slice none 0 0, vInt (n : Int)] w fun e w' => ∃ v, e = .returned v ∧ ∃ e', RowE v 41 32 n (L.flatMap fun d => d.map vU8) e' ∧ Mem w [] [e'] w' :=
  leaves_is k h1 h2 n hn w hK none 0 [] (fun _ h => by cases h) (Rd.nil _ _) (Nat.le_refl _) (by decide) hL
end Go.Proofs.YtcdponddgnkecaaDoor
