import Derived.Test.YtiagaoeaploijaaDoorSha9
import Derived.Test.YtiagaoeaploijaaDoorProg
namespace Go.Proofs.YtiagaoeaploijaaDoor
open Go.Sx Go.Ps

theorem same_true (a : Option Addr) (m c : Nat) (p : List UInt8) (hpm : p.length = m) (a2 : Option Addr) (m2 c2 : Nat) (hqm : p.length = m2) (hl : m < 9223372036854775808) (hl2 : m2 < 9223372036854775808) (w : World) (hr : Rd w a (p.map vU8)) (hr2 : Rd w a2 (p.map vU8)) : Calls Tryd.prog 19 #[.slice a m c, .slice a2 m2 c2] w fun e w' => ∃ v, e = .returned v ∧ v = .bool true ∧ Mem w [] [] w' :=
  (same_any a m c p hpm a2 m2 c2 p hqm hl hl2 w hr hr2).mono fun e w' ⟨v, he, hv, hm⟩ => ⟨v, he, by rw [hv]; simp, hm⟩
theorem mst_lo (p : List UInt8) (i : Nat) (h : i < p.length) : (mst p 96).getD i default = p.getD i default := by
  simp only [mst, List.getD_eq_getElem?_getD]
  rw [List.getElem?_append_left h]
theorem mst_hi (p : List UInt8) (i : Nat) (h : p.length ≤ i) (h2 : i < p.length + 96) : (mst p 96).getD i default = mk i := by
  simp only [mst, List.getD_eq_getElem?_getD]
  rw [List.getElem?_append_right h, List.getElem?_append_left (by rw [mks_len]; omega)]
  have h3 : i - p.length < 96 := by omega
  simp [mks, h3]; congr 1; omega
theorem mst_rd {w : World} {b : Nat} {p : List UInt8} {T : TypeId} (h : w.heap[b]? = some (blk ((mst p 96).map vU8) T)) : Rd w (some ⟨b, 0, none⟩) (p.map vU8) := by
  have h1 := (Rd.blk h).take1 p.length
  have h2 : (mst p 96).take p.length = p := by unfold mst; exact List.take_left
  rwa [h2] at h1

set_option maxRecDepth 10000 in
theorem untouched_any (a : Option Addr) (m c : Nat) (p : List UInt8) (hpm : p.length = m) (a2 : Option Addr) (c2 : Nat) (hl : m ≤ 140737488351232) (w : World) (hr : Rd w a (p.map vU8)) (hr2 : Rd w a2 ((mst p 96).map vU8)) : Calls Tryd.prog 30 #[.slice a m c, .slice a2 (m + 96) c2] w fun e w' => ∃ v, e = .returned v ∧ v = .bool true ∧ Mem w [] [] w' := by
  refine calls_of_sw (vs := [.slice a m c, .slice a2 (m + 96) c2]) Tryd.func30 rfl Tryd.ntmps30 rfl (SW.begin ?_)
  refine sw_seq ?_
  refine sw_region ?_
  refine ow_val (val_assign rfl) rfl ?_   -- 4
  refine ow_nil (into ?_)
  refine sw_seq ?_
  refine sw_seq ?_
  refine sw_region ?_
  refine ow_val (val_assign rfl) rfl ?_   -- 5
  refine ow_nil (into ?_)
  refine sw_block ?_
  obtain ⟨b2, o2, rfl⟩ := hr2.addr (by rw [List.length_map, mst_len p 96 (by decide)]; omega)
  have hml := mst_len p 96 (by decide)
  refine sw_loop (σ := Nat) (fun i => i ≤ m + 96) (fun i => [(5, vInt (i : Int)), (0, .slice a m c), (1, .slice (some ⟨b2, o2, none⟩) (m + 96) c2)]) (fun i => Mem w [] []) (fun i => m + 96 - i) 0 (by omega) ⟨rfl, rfl, rfl, trivial⟩ (fun w hm => hm) (fun i hi => ?_)
  refine sw_seq ?_
  refine sw_seq ?_
  refine sw_region ?_
  refine ow_val (val_move rfl) rfl ?_   -- 6
  refine ow_val (val_move rfl) rfl ?_   -- 7
  refine ow_val (val_len rfl Tryd.underlying22) rfl ?_   -- 8
  refine ow_val (val_lss_int rfl rfl) rfl ?_   -- 9
  refine ow_nil (into ?_)
  refine sw_if rfl (fun h0 => ?_) (fun h0 => ?_)
  · -- then
    refine sw_skip (into ?_)
    refine sw_seq ?_
    refine sw_block ?_
    refine sw_seq ?_
    by_cases him : i < m
    · -- yes
      obtain ⟨b, o, rfl⟩ := hr.addr (by simp; omega)
      refine sw_region_lex _ [] [(0, 0), (1, 0), (2, 0), (3, 0), (4, 0), (5, 0), (6, 0), (7, 0), (9, 0), (10, 0), (11, 0), (8, 1), (12, 1), (13, 0), (14, 0), (15, 0), (16, 0), (17, 0), (18, 0), (19, 0), (20, 0), (21, 0), (22, 0), (23, 0), (24, 0), (25, 0), (26, 0), (27, 0), (28, 0), (29, 0), (30, 0), (31, 0)] (by kernel_rfl) (by kernel_rfl) (fun _ _ _ h => h) (fun _ h => h) (fun _ h => h.drawn _) ?_
      refine lw_pure rfl (val_move rfl) rfl ?_   -- 12
      refine lw_pure rfl (val_move rfl) rfl ?_   -- 13
      refine lw_pure rfl (val_len rfl Tryd.underlying22) rfl ?_   -- 14
      refine lw_pure rfl ((val_lss_int rfl rfl).to (congrArg Value.bool (decide_eq_true (by omega)))) rfl ?_   -- 15
      refine lw_pure rfl (val_move rfl) rfl ?_   -- 16
      refine lwg_pure rfl (wg rfl rfl) (val_move rfl) rfl ?_   -- 17
      refine lwg_pure rfl (wg rfl rfl) (val_move rfl) rfl ?_   -- 18
      refine lwg_pure rfl (wg rfl rfl) (val_indexAddr_slice (i) (o2 + i) rfl rfl Tryd.underlying22 Tryd.sizeOf5 (by omega) (by omega) (by omega)) rfl ?_   -- 19
      refine lwg_pure rfl (wg rfl rfl) (val_move rfl) rfl ?_   -- 21
      refine lwg_pure rfl (wg rfl rfl) (val_move rfl) rfl ?_   -- 22
      refine lwg_pure rfl (wg rfl rfl) (val_indexAddr_slice (i) (o + i) rfl rfl Tryd.underlying22 Tryd.sizeOf5 (by omega) (by omega) (by omega)) rfl ?_   -- 23
      refine lwg_held rfl (wg rfl rfl) (val_load rfl Tryd.isAgg5 (fun w' hm => Rd.get (p := (mst p 96)) (k := i) (hr2.mem hm) (by omega) (by omega))) rfl ?_   -- 20
      refine lwg_held rfl (wg rfl rfl) (val_load rfl Tryd.isAgg5 (fun w' hm => Rd.get (p := p) (k := i) (hr.mem hm) (by omega) (by omega))) rfl ?_   -- 24
      refine lwg_pure rfl (wg rfl rfl) ((val_neq_u8 rfl rfl).to (v' := .bool false) (congrArg Value.bool (decide_eq_false (fun h => h (mst_lo p i (by omega)))))) rfl ?_   -- 25
      refine lw_pure rfl (val_pick_true rfl rfl) rfl ?_   -- 26
      refine lw_pure rfl (val_move rfl) rfl ?_   -- 27
      refine lwg_pure rfl (wg rfl rfl) (val_move rfl) rfl ?_   -- 28
      refine lwg_pure rfl (wg rfl rfl) (val_move rfl) rfl ?_   -- 29
      refine lwg_pure rfl (wg rfl rfl) (val_len rfl Tryd.underlying22) rfl ?_   -- 30
      refine lwg_pure rfl (wg rfl rfl) ((val_geq_int rfl rfl).to (congrArg Value.bool (decide_eq_false (by omega)))) rfl ?_   -- 31
      refine lwg_pure rfl (wg rfl rfl) (val_move rfl) rfl ?_   -- 32
      first | refine lwg_no rfl (ng1 rfl rfl) rfl ?_ | refine lwg_no rfl (ng2 rfl rfl) rfl ?_   -- 33
      first | refine lwg_no rfl (ng1 rfl rfl) rfl ?_ | refine lwg_no rfl (ng2 rfl rfl) rfl ?_   -- 34
      first | refine lwg_no rfl (ng1 rfl rfl) rfl ?_ | refine lwg_no rfl (ng2 rfl rfl) rfl ?_   -- 35
      first | refine lwg_no rfl (ng1 rfl rfl) rfl ?_ | refine lwg_no rfl (ng2 rfl rfl) rfl ?_   -- 36
      first | refine lwg_no rfl (ng1 rfl rfl) rfl ?_ | refine lwg_no rfl (ng2 rfl rfl) rfl ?_   -- 37
      first | refine lwg_no rfl (ng1 rfl rfl) rfl ?_ | refine lwg_no rfl (ng2 rfl rfl) rfl ?_   -- 38
      first | refine lwg_no rfl (ng1 rfl rfl) rfl ?_ | refine lwg_no rfl (ng2 rfl rfl) rfl ?_   -- 39
      first | refine lwg_no rfl (ng1 rfl rfl) rfl ?_ | refine lwg_no rfl (ng2 rfl rfl) rfl ?_   -- 40
      first | refine lwg_no rfl (ng1 rfl rfl) rfl ?_ | refine lwg_no rfl (ng2 rfl rfl) rfl ?_   -- 41
      refine lwg_pure rfl (wg rfl rfl) (val_pick_false rfl rfl) rfl ?_   -- 42
      refine lw_pure rfl (val_pick_false rfl rfl) rfl ?_   -- 43
      refine lw_nil (into ?_)
      refine sw_false rfl rfl ?_
      refine sw_skip (into ?_)
      refine sw_region ?_
      refine ow_val (val_move rfl) rfl ?_   -- 10
      refine ow_val (val_add_int ((i + 1 : Nat) : Int) rfl rfl (by omega) (by omega)) rfl ?_   -- 11
      refine ow_val (val_assign rfl) rfl ?_   -- 5
      exact ow_nil (fun w hm => ⟨i + 1, by omega, by omega, ⟨rfl, rfl, rfl, trivial⟩, hm⟩)
    · -- no
      refine sw_region_lex _ [] [(0, 0), (1, 0), (2, 0), (3, 0), (4, 0), (5, 0), (6, 0), (7, 0), (8, 0), (9, 0), (10, 0), (11, 0), (12, 0), (13, 0), (14, 0), (15, 0), (16, 0), (17, 0), (18, 0), (19, 0), (20, 0), (21, 0), (22, 0), (23, 0), (25, 0), (26, 0), (27, 0), (28, 0), (24, 1), (29, 0), (30, 0), (31, 0)] (by kernel_rfl) (by kernel_rfl) (fun _ _ _ h => h) (fun _ h => h) (fun _ h => h.drawn _) ?_
      refine lw_pure rfl (val_move rfl) rfl ?_   -- 12
      refine lw_pure rfl (val_move rfl) rfl ?_   -- 13
      refine lw_pure rfl (val_len rfl Tryd.underlying22) rfl ?_   -- 14
      refine lw_pure rfl ((val_lss_int rfl rfl).to (congrArg Value.bool (decide_eq_false (by omega)))) rfl ?_   -- 15
      refine lw_pure rfl (val_move rfl) rfl ?_   -- 16
      first | refine lwg_no rfl (ng1 rfl rfl) rfl ?_ | refine lwg_no rfl (ng2 rfl rfl) rfl ?_   -- 17
      first | refine lwg_no rfl (ng1 rfl rfl) rfl ?_ | refine lwg_no rfl (ng2 rfl rfl) rfl ?_   -- 18
      first | refine lwg_no rfl (ng1 rfl rfl) rfl ?_ | refine lwg_no rfl (ng2 rfl rfl) rfl ?_   -- 19
      first | refine lwg_no rfl (ng1 rfl rfl) rfl ?_ | refine lwg_no rfl (ng2 rfl rfl) rfl ?_   -- 20
      first | refine lwg_no rfl (ng1 rfl rfl) rfl ?_ | refine lwg_no rfl (ng2 rfl rfl) rfl ?_   -- 21
      first | refine lwg_no rfl (ng1 rfl rfl) rfl ?_ | refine lwg_no rfl (ng2 rfl rfl) rfl ?_   -- 22
      first | refine lwg_no rfl (ng1 rfl rfl) rfl ?_ | refine lwg_no rfl (ng2 rfl rfl) rfl ?_   -- 23
      first | refine lwg_no rfl (ng1 rfl rfl) rfl ?_ | refine lwg_no rfl (ng2 rfl rfl) rfl ?_   -- 24
      first | refine lwg_no rfl (ng1 rfl rfl) rfl ?_ | refine lwg_no rfl (ng2 rfl rfl) rfl ?_   -- 25
      refine lw_pure rfl (val_pick_false rfl rfl) rfl ?_   -- 26
      refine lw_pure rfl (val_move rfl) rfl ?_   -- 27
      refine lwg_pure rfl (wg rfl rfl) (val_move rfl) rfl ?_   -- 28
      refine lwg_pure rfl (wg rfl rfl) (val_move rfl) rfl ?_   -- 29
      refine lwg_pure rfl (wg rfl rfl) (val_len rfl Tryd.underlying22) rfl ?_   -- 30
      refine lwg_pure rfl (wg rfl rfl) ((val_geq_int rfl rfl).to (congrArg Value.bool (decide_eq_true (by omega)))) rfl ?_   -- 31
      refine lwg_pure rfl (wg rfl rfl) (val_move rfl) rfl ?_   -- 32
      refine lwg_pure rfl (wg rfl rfl) (val_move rfl) rfl ?_   -- 33
      refine lwg_pure rfl (wg rfl rfl) (val_move rfl) rfl ?_   -- 34
      refine lwg_pure rfl (wg rfl rfl) (val_indexAddr_slice (i) (o2 + i) rfl rfl Tryd.underlying22 Tryd.sizeOf5 (by omega) (by omega) (by omega)) rfl ?_   -- 35
      refine lwg_pure rfl (wg rfl rfl) (val_move rfl) rfl ?_   -- 37
      refine lwg_pure rfl (wg rfl rfl) (val_mul_int ((3 * i : Nat) : Int) rfl rfl (by omega) (by omega)) rfl ?_   -- 38
      refine lwg_pure rfl (wg rfl rfl) (val_add_int ((165 + 3 * i : Nat) : Int) rfl rfl (by omega) (by omega)) rfl ?_   -- 39
      refine lwg_pure rfl (wg rfl rfl) (val_conv_n_u8 (165 + 3 * i) Tryd.underlying3 Tryd.underlying5 rfl (by omega)) rfl ?_   -- 40
      refine lwg_held rfl (wg rfl rfl) (val_load rfl Tryd.isAgg5 (fun w' hm => Rd.get (p := (mst p 96)) (k := i) (hr2.mem hm) (by omega) (by omega))) rfl ?_   -- 36
      refine lwg_pure rfl (wg rfl rfl) ((val_neq_u8 rfl rfl).to (v' := .bool false) (congrArg Value.bool (decide_eq_false (fun h => h (mst_hi p i (by omega) (by omega)))))) rfl ?_   -- 41
      refine lwg_pure rfl (wg rfl rfl) (val_pick_true rfl rfl) rfl ?_   -- 42
      refine lw_pure rfl (val_pick_false rfl rfl) rfl ?_   -- 43
      refine lw_nil (into ?_)
      refine sw_false rfl rfl ?_
      refine sw_skip (into ?_)
      refine sw_region ?_
      refine ow_val (val_move rfl) rfl ?_   -- 10
      refine ow_val (val_add_int ((i + 1 : Nat) : Int) rfl rfl (by omega) (by omega)) rfl ?_   -- 11
      refine ow_val (val_assign rfl) rfl ?_   -- 5
      exact ow_nil (fun w hm => ⟨i + 1, by omega, by omega, ⟨rfl, rfl, rfl, trivial⟩, hm⟩)
  · -- else
    refine sw_exit (into ?_)
    refine sw_seq ?_
    refine sw_region ?_
    refine ow_val (val_assign rfl) rfl ?_   -- 4
    refine ow_nil (into ?_)
    exact sw_ret (fun w hm => ret_one _ rfl rfl ⟨rfl, hm⟩)

set_option maxHeartbeats 1000000 in
set_option maxRecDepth 10000 in
theorem shaMemory_any (a : Option Addr) (m c : Nat) (p : List UInt8) (hpm : p.length = m) (hc : m ≤ c) (hl : m ≤ 1048576) (n : UInt64) (w : World) (hK : KW w) (hr : Rd w a (p.map vU8)) : Calls Tryd.prog 9 #[.slice a m c, vU64 n] w fun e w' => ∃ v, e = .returned v ∧ v = .bool true ∧ Mem w [] [] w' := by
  obtain ⟨ti, hi, hz, hsz, hby⟩ := info_parts iu8
  obtain ⟨P1, hPd1⟩ : ∃ P, P = padding n := ⟨_, rfl⟩
  obtain ⟨L1, hP1⟩ : ∃ L, P1.length = L := ⟨_, rfl⟩
  have hL1 : L1 ≤ 72 := by have := padZeros_lt n; rw [← hP1, hPd1, padding_len]; omega
  have hpd1 : ∀ w, Calls Tryd.prog 20 #[vU64 n] w fun e w' => ∃ v, e = .returned v ∧ ∃ b, v = .slice (some ⟨b, 0, none⟩) L1 L1 ∧ Mem w [] [some (b, blk (P1.map vU8) 5)] w' := fun w => by rw [← hP1, hPd1]; exact padding_any _ w
  have hdp1 : ∀ w, Calls Tryd.prog 21 #[vU64 n] w fun e w' => ∃ v, e = .returned v ∧ ∃ e', RowE v 5 1 L1 (P1.map vU8) e' ∧ Mem w [] [e'] w' := fun w => by rw [← hP1, hPd1]; exact docPadding_any _ w
  obtain ⟨P2, hPd2⟩ : ∃ P, P = padding (n + 1) := ⟨_, rfl⟩
  obtain ⟨L2, hP2⟩ : ∃ L, P2.length = L := ⟨_, rfl⟩
  have hL2 : L2 ≤ 72 := by have := padZeros_lt (n + 1); rw [← hP2, hPd2, padding_len]; omega
  have hpd2 : ∀ w, Calls Tryd.prog 20 #[vU64 (n + 1)] w fun e w' => ∃ v, e = .returned v ∧ ∃ b, v = .slice (some ⟨b, 0, none⟩) L2 L2 ∧ Mem w [] [some (b, blk (P2.map vU8) 5)] w' := fun w => by rw [← hP2, hPd2]; exact padding_any _ w
  have hdp2 : ∀ w, Calls Tryd.prog 21 #[vU64 (n + 1)] w fun e w' => ∃ v, e = .returned v ∧ ∃ e', RowE v 5 1 L2 (P2.map vU8) e' ∧ Mem w [] [e'] w' := fun w => by rw [← hP2, hPd2]; exact docPadding_any _ w
  clear hPd1 hPd2
  refine calls_of_sw (vs := [.slice a m c, vU64 n]) Tryd.func9 rfl Tryd.ntmps9 rfl (SW.begin ?_)
  refine sw_seq ?_
  refine sw_region ?_
  refine ow_val (val_assign rfl) rfl ?_   -- 4
  refine ow_nil (into ?_)
  refine sw_seq ?_
  refine sw_seq ?_
  refine sw_region ?_
  refine ow_call_pure (callsTo Tryd.func13 rfl (by kernel_rfl) rfl) rfl (fun w hm => awake_any w (hK.mem0 hm)) ?_   -- 22
  refine ow_val (val_not rfl) rfl ?_   -- 23
  refine ow_nil (into ?_)
  refine sw_false rfl rfl ?_
  refine sw_skip (into ?_)
  refine sw_seq ?_
  refine sw_region ?_
  refine ow_val (val_move rfl) rfl ?_   -- 25
  refine ow_call_blk (fun b => .tuple #[.slice (some ⟨b, 0, none⟩) m (m + 96), .slice (some ⟨b, 0, none⟩) (m + 96) (m + 96)]) (callsTo Tryd.func29 rfl (by kernel_rfl) rfl) rfl (fun w hm => marked_any _ _ _ p hpm (by omega) w (hr.mem hm)) (fun b26 hb26 => ?_)   -- 26
  refine ow_val (val_move rfl) rfl ?_   -- 24
  refine ow_val (val_extract rfl rfl) rfl ?_   -- 27
  refine ow_val (val_extract rfl rfl) rfl ?_   -- 28
  refine ow_val (val_assign rfl) rfl ?_   -- 5
  refine ow_val (val_assign rfl) rfl ?_   -- 6
  refine ow_nil (into ?_)
  refine sw_seq ?_
  refine sw_region ?_
  refine ow_val (val_move rfl) rfl ?_   -- 29
  refine ow_call_pure (callsTo Tryd.func16 rfl (by kernel_rfl) rfl) rfl (fun w hm => refSum_any _ _ _ p hpm (by omega) (by omega) w (hr.mem hm)) ?_   -- 30
  refine ow_new (acts_alloc z24) rfl (fun b7 hb7 => ?_)   -- 7
  refine ow_do_eq (does_store_all 0 rfl rfl rfl (one_u8s _) Tryd.sizeOf24 (by rw [List.length_map]; exact hash_len _) rfl) ?_
  refine ow_nil (into ?_)
  refine sw_seq ?_
  refine sw_region ?_
  refine ow_call_blk (fun b => .pointer (some ⟨b, 0, none⟩)) (callsTo Tryd.func26 rfl (by kernel_rfl) rfl) rfl (fun w hm => newS_any w) (fun b31 hb31 => ?_)   -- 31
  refine ow_val (val_assign rfl) rfl ?_   -- 8
  refine ow_nil (into ?_)
  refine sw_seq ?_
  refine sw_region ?_
  refine ow_val (val_move rfl) rfl ?_   -- 32
  refine ow_val (val_move rfl) rfl ?_   -- 33
  refine ow_call_turn 0 rfl (callsTo Tryd.func27 rfl (by kernel_rfl) rfl) rfl (fun w hm => writeS_any b31 none _ _ _ p hpm w (hm.at (i := 0) rfl) (hK.mem0 hm) (by have := hK.pos; simp only [List.mem_singleton]; omega) (mst_rd (hm.at (i := 2) rfl)) (fun _ b' o' e => by simp only [Option.some.injEq, Addr.mk.injEq, and_true] at e; rw [← e.1]; simpa using hm.ne (i := 2) (j := 0) rfl rfl (by omega)) (by omega) (by omega)) ?_   -- 34
  refine ow_nil (into ?_)
  refine sw_seq ?_
  refine sw_region ?_
  refine ow_val (val_move rfl) rfl ?_   -- 35
  refine ow_call_pure (callsTo Tryd.func14 rfl (by kernel_rfl) rfl) rfl (fun w hm => sum256h_any _ _ _ p hpm w (hK.mem0 hm) (mst_rd (hm.at (i := 2) rfl)) (by omega) (by omega)) ?_   -- 36
  refine ow_val (val_move rfl) rfl ?_   -- 37
  refine ow_call_pure (callsTo Tryd.func14 rfl (by kernel_rfl) rfl) rfl (fun w hm => sum256h_any _ _ _ p hpm w (hK.mem0 hm) (mst_rd (hm.at (i := 2) rfl)) (by omega) (by omega)) ?_   -- 38
  refine ow_new (acts_alloc z24) rfl (fun b9 hb9 => ?_)   -- 9
  refine ow_new (acts_alloc z24) rfl (fun b10 hb10 => ?_)   -- 10
  refine ow_do_eq (does_store_all 1 rfl rfl rfl (one_u8s _) Tryd.sizeOf24 (by rw [List.length_map]; exact hash_len _) rfl) ?_
  refine ow_do_eq (does_store_all 0 rfl rfl rfl (one_u8s _) Tryd.sizeOf24 (by rw [List.length_map]; exact hash_len _) rfl) ?_
  refine ow_nil (into ?_)
  refine sw_seq ?_
  refine sw_seq ?_
  refine sw_region ?_
  refine ow_val (val_load_all 1 rfl rfl Tryd.isAgg24 Tryd.sizeOf24 (by rw [List.length_map]; exact hash_len _)) rfl ?_   -- 39
  refine ow_val (val_load_all 3 rfl rfl Tryd.isAgg24 Tryd.sizeOf24 (by rw [List.length_map]; exact hash_len _)) rfl ?_   -- 40
  refine ow_val ((val_neq_u8s rfl rfl Tryd.eqGuardType24 Tryd.underlying24 Tryd.underlying5 Tryd.sizeOf5 Tryd.isAgg5 (hash_len _) (hash_len _)).to (congrArg Value.bool (show _ = false by simp [txt]))) rfl ?_   -- 41
  refine ow_val (val_move rfl) rfl ?_   -- 42
  refine ow_guard_yes rfl rfl rfl ?_
  refine ow_val (val_load_all 0 rfl rfl Tryd.isAgg24 Tryd.sizeOf24 (by rw [List.length_map]; exact hash_len _)) rfl ?_   -- 43
  refine ow_guard_yes rfl rfl rfl ?_
  refine ow_val (val_load_all 3 rfl rfl Tryd.isAgg24 Tryd.sizeOf24 (by rw [List.length_map]; exact hash_len _)) rfl ?_   -- 44
  refine ow_guard_yes rfl rfl rfl ?_
  refine ow_val ((val_neq_u8s rfl rfl Tryd.eqGuardType24 Tryd.underlying24 Tryd.underlying5 Tryd.sizeOf5 Tryd.isAgg5 (hash_len _) (hash_len _)).to (congrArg Value.bool (show _ = false by simp [txt]))) rfl ?_   -- 45
  refine ow_val (val_pick_false rfl rfl) rfl ?_   -- 46
  refine ow_val (val_move rfl) rfl ?_   -- 47
  refine ow_guard_yes rfl rfl rfl ?_
  refine ow_val (val_move rfl) rfl ?_   -- 48
  refine ow_guard_yes rfl rfl rfl ?_
  refine ow_val (val_move rfl) rfl ?_   -- 49
  refine ow_guard_yes rfl rfl rfl ?_
  refine ow_call_pure (callsTo Tryd.func30 rfl (by kernel_rfl) rfl) rfl (fun w hm => untouched_any _ _ _ p hpm _ _ (by omega) w (hr.mem hm) (Rd.blk (hm.at (i := 4) rfl))) ?_   -- 50
  refine ow_guard_yes rfl rfl rfl ?_
  refine ow_val (val_not rfl) rfl ?_   -- 51
  refine ow_val (val_pick_false rfl rfl) rfl ?_   -- 52
  refine ow_nil (into ?_)
  refine sw_false rfl rfl ?_
  refine sw_skip (into ?_)
  refine sw_seq ?_
  refine sw_seq ?_
  refine sw_region ?_
  refine ow_val (val_assign rfl) rfl ?_   -- 11
  refine ow_nil (into ?_)
  refine sw_block ?_
  refine sw_loop_ent (σ := Nat × List UInt8) 4 (fun x => some (b26, blk (x.2.map vU8) 5)) (fun x => x.1 ≤ m ∧ x.2.length = m + 96) (fun x => [(11, vInt (x.1 : Int)), (5, .slice (some ⟨b26, 0, none⟩) m (m + 96)), (6, .slice (some ⟨b26, 0, none⟩) (m + 96) (m + 96)), (7, .pointer (some ⟨b7, 0, none⟩)), (8, .pointer (some ⟨b31, 0, none⟩)), (0, .slice a m c), (1, vU64 n)]) (fun x => m - x.1) (0, mst p 96) ⟨Nat.zero_le _, by rw [mst_len p 96 (by decide), hpm]⟩ ⟨rfl, rfl, rfl, rfl, rfl, rfl, rfl, trivial⟩ rfl ?_
  rintro ⟨j, Z⟩ ⟨hj, hZ⟩
  simp only at hj hZ ⊢
  refine sw_seq ?_
  refine sw_seq ?_
  refine sw_region ?_
  refine ow_val (val_move rfl) rfl ?_   -- 53
  refine ow_val (val_move rfl) rfl ?_   -- 54
  refine ow_val (val_len rfl Tryd.underlying22) rfl ?_   -- 55
  refine ow_val (val_lss_int rfl rfl) rfl ?_   -- 56
  refine ow_nil (into ?_)
  refine sw_if rfl (fun h0 => ?_) (fun h0 => ?_)
  · -- then
    refine sw_skip (into ?_)
    refine sw_seq ?_
    refine sw_block ?_
    refine sw_region ?_
    refine ow_val (val_move rfl) rfl ?_   -- 59
    refine ow_val (val_move rfl) rfl ?_   -- 60
    refine ow_val (val_indexAddr_slice (j) (j) rfl rfl Tryd.underlying22 Tryd.sizeOf5 (by omega) (by omega) (by omega)) rfl ?_   -- 61
    refine ow_val (val_load_at 4 rfl rfl Tryd.isAgg5 (get_map _ _ _ (by omega))) rfl ?_   -- 62
    refine ow_val (val_xor_u8 rfl rfl) rfl ?_   -- 63
    refine ow_val (val_indexAddr_slice (j) (j) rfl rfl Tryd.underlying22 Tryd.sizeOf5 (by omega) (by omega) (by omega)) rfl ?_   -- 64
    refine ow_do (does_store_map (V := vU8) 4 rfl rfl rfl rfl Tryd.sizeOf5 (by omega)) (fun _ _ => ?_)
    refine ow_nil (into ?_)
    refine sw_region ?_
    refine ow_val (val_move rfl) rfl ?_   -- 57
    refine ow_val (val_add_int ((j + 1 : Nat) : Int) rfl rfl (by omega) (by omega)) rfl ?_   -- 58
    refine ow_val (val_assign rfl) rfl ?_   -- 11
    exact ow_nil (fun w hm => ⟨(j + 1, Z.set j (Z.getD j default ^^^ 85)), ⟨(by dsimp only; omega), by simpa using hZ⟩, (by dsimp only; omega), ⟨rfl, rfl, rfl, rfl, rfl, rfl, rfl, trivial⟩, (by rw [upd_upd] at hm; exact hm)⟩)
  · -- else
    obtain ⟨X, hX⟩ : ∃ X, Z.take m = X := ⟨_, rfl⟩
    have hXl : X.length = m := by rw [← hX, List.length_take]; omega
    refine sw_exit (into ?_)
    refine sw_seq ?_
    refine sw_region ?_
    refine ow_val (val_move rfl) rfl ?_   -- 65
    refine ow_call_blk (fun b => .slice (some ⟨b, 0, none⟩) m m) (callsTo Tryd.func15 rfl (by kernel_rfl) rfl) rfl (fun w hm => twin_any _ _ _ X hXl (by omega) w (hX ▸ (Rd.blk (hm.at (i := 4) rfl)).take1 m)) (fun b66 hb66 => ?_)   -- 66
    refine ow_val (val_assign rfl) rfl ?_   -- 12
    refine ow_nil (into ?_)
    refine sw_seq ?_
    refine sw_seq ?_
    refine sw_region_lex _ [] [(0, 0), (2, 0), (1, 2), (3, 2), (4, 0), (5, 0), (6, 0), (8, 1), (7, 2), (9, 0), (10, 0)] (by kernel_rfl) (by kernel_rfl) (fun _ _ _ h => h) (fun _ h => h) (fun _ h => h.drawn _) ?_
    refine lw_pure rfl (val_move rfl) rfl ?_   -- 67
    refine lw_pure rfl (val_move rfl) rfl ?_   -- 69
    refine lw_call_pure rfl (callsTo Tryd.func14 rfl (by kernel_rfl) rfl) rfl (fun w hm => sum256h_any _ _ _ X hXl w (hK.mem0 hm) (hX ▸ (Rd.blk (hm.at (i := 5) rfl)).take1 m) (by omega) (by omega)) ?_   -- 68
    refine lw_call_pure rfl (callsTo Tryd.func16 rfl (by kernel_rfl) rfl) rfl (fun w hm => refSum_any _ _ _ X hXl (by omega) (by omega) w (Rd.blk (hm.at (i := 0) rfl))) ?_   -- 70
    refine lw_pure rfl ((val_neq_u8s rfl rfl Tryd.eqGuardType24 Tryd.underlying24 Tryd.underlying5 Tryd.sizeOf5 Tryd.isAgg5 (hash_len _) (hash_len _)).to (congrArg Value.bool (show _ = false by simp [txt]))) rfl ?_   -- 71
    refine lw_pure rfl (val_move rfl) rfl ?_   -- 72
    refine lwg_pure rfl (wg rfl rfl) (val_move rfl) rfl ?_   -- 73
    refine lwg_held rfl (wg rfl rfl) (val_load_all 4 rfl rfl Tryd.isAgg24 Tryd.sizeOf24 (by rw [List.length_map]; exact hash_len _)) rfl ?_   -- 75
    refine lwg_call_pure rfl (wg rfl rfl) (callsTo Tryd.func28 rfl (by kernel_rfl) rfl) rfl (fun w hm => sumS_any b31 (some p) w (hm.at (i := 3) rfl) (hK.mem0 hm)) ?_   -- 74
    refine lwg_pure rfl (wg rfl rfl) ((val_neq_u8s rfl rfl Tryd.eqGuardType24 Tryd.underlying24 Tryd.underlying5 Tryd.sizeOf5 Tryd.isAgg5 (hash_len _) (hash_len _)).to (congrArg Value.bool (show _ = false by simp [txt]))) rfl ?_   -- 76
    refine lw_pure rfl (val_pick_false rfl rfl) rfl ?_   -- 77
    refine lw_nil (into ?_)
    refine sw_false rfl rfl ?_
    refine sw_skip (into ?_)
    refine sw_seq ?_
    refine sw_region ?_
    refine ow_val (val_move rfl) rfl ?_   -- 78
    refine ow_val (val_move rfl) rfl ?_   -- 79
    refine ow_call_turn 3 rfl (callsTo Tryd.func27 rfl (by kernel_rfl) rfl) rfl (fun w hm => writeS_any b31 (some p) _ _ _ X hXl w (hm.at (i := 3) rfl) (hK.mem0 hm) (by have := hK.pos; simp only [List.mem_singleton]; omega) (hX ▸ (Rd.blk (hm.at (i := 5) rfl)).take1 m) (fun _ b' o' e => by simp only [Option.some.injEq, Addr.mk.injEq, and_true] at e; rw [← e.1]; simpa using hm.ne (i := 5) (j := 3) rfl rfl (by omega)) (by omega) (by omega)) ?_   -- 80
    refine ow_nil (into ?_)
    refine sw_seq ?_
    refine sw_seq ?_
    refine sw_region ?_
    refine ow_val (val_assign rfl) rfl ?_   -- 13
    refine ow_nil (into ?_)
    refine sw_block ?_
    clear h0
    refine sw_loop_ent (σ := Nat × List UInt8) 5 (fun x => some (b26, blk (x.2.map vU8) 5)) (fun x => x.1 ≤ m + 96 ∧ x.2.length = m + 96) (fun x => [(13, vInt (x.1 : Int)), (6, .slice (some ⟨b26, 0, none⟩) (m + 96) (m + 96)), (8, .pointer (some ⟨b31, 0, none⟩)), (12, .slice (some ⟨b66, 0, none⟩) m m), (0, .slice a m c), (1, vU64 n)]) (fun x => m + 96 - x.1) (0, Z) ⟨Nat.zero_le _, hZ⟩ ⟨rfl, rfl, rfl, rfl, rfl, rfl, trivial⟩ rfl ?_
    rintro ⟨j2, Z2⟩ ⟨hj2, hZ2⟩
    simp only at hj2 hZ2 ⊢
    refine sw_seq ?_
    refine sw_seq ?_
    refine sw_region ?_
    refine ow_val (val_move rfl) rfl ?_   -- 81
    refine ow_val (val_move rfl) rfl ?_   -- 82
    refine ow_val (val_len rfl Tryd.underlying22) rfl ?_   -- 83
    refine ow_val (val_lss_int rfl rfl) rfl ?_   -- 84
    refine ow_nil (into ?_)
    refine sw_if rfl (fun h1 => ?_) (fun h1 => ?_)
    · -- then
      refine sw_skip (into ?_)
      refine sw_seq ?_
      refine sw_block ?_
      refine sw_region ?_
      refine ow_val (val_move rfl) rfl ?_   -- 87
      refine ow_val (val_move rfl) rfl ?_   -- 88
      refine ow_val (val_indexAddr_slice (j2) (j2) rfl rfl Tryd.underlying22 Tryd.sizeOf5 (by omega) (by omega) (by omega)) rfl ?_   -- 89
      refine ow_do (does_store_map (V := vU8) 5 rfl rfl rfl rfl Tryd.sizeOf5 (by omega)) (fun _ _ => ?_)
      refine ow_nil (into ?_)
      refine sw_region ?_
      refine ow_val (val_move rfl) rfl ?_   -- 85
      refine ow_val (val_add_int ((j2 + 1 : Nat) : Int) rfl rfl (by omega) (by omega)) rfl ?_   -- 86
      refine ow_val (val_assign rfl) rfl ?_   -- 13
      exact ow_nil (fun w hm => ⟨(j2 + 1, Z2.set j2 51), ⟨(by dsimp only; omega), by simpa using hZ2⟩, (by dsimp only; omega), ⟨rfl, rfl, rfl, rfl, rfl, rfl, trivial⟩, (by rw [upd_upd] at hm; exact hm)⟩)
    · -- else
      refine sw_exit (into ?_)
      refine sw_seq ?_
      refine sw_seq ?_
      refine sw_region ?_
      refine ow_val (val_move rfl) rfl ?_   -- 90
      refine ow_call_pure (callsTo Tryd.func28 rfl (by kernel_rfl) rfl) rfl (fun w hm => sumS_any b31 (some (p ++ X)) w (hm.at (i := 3) rfl) (hK.mem0 hm)) ?_   -- 91
      refine ow_val (val_move rfl) rfl ?_   -- 92
      refine ow_call_blk (fun b => .slice (some ⟨b, 0, none⟩) m m) (callsTo Tryd.func15 rfl (by kernel_rfl) rfl) rfl (fun w hm => twin_any _ _ _ p hpm (by omega) w (hr.mem hm)) (fun b93 hb93 => ?_)   -- 93
      refine ow_val (val_move rfl) rfl ?_   -- 94
      refine ow_append' (k := m + m) (acts_append (size := 1) (bytes := 1) 0 rfl rfl rfl (RowE.full (by rw [List.length_map, Nat.mul_one]; exact hpm) (by omega)) rfl Tryd.underlying22 hi hz hsz hby rfl (by decide) (fun w hm => (Rd.blk (hm.at (i := 1) rfl))) (by rw [List.length_map, Nat.mul_one]; exact hXl) (one_u8s _) (by omega) (by omega)) rfl (fun a95 c95 e95 hr95 => ?_)   -- 95
      have hr95' : RowE (.slice a95 (m + m) c95) 5 1 (m + m) (((p ++ X) : List UInt8).map vU8) e95 := hr95.cong rfl rfl (by rw [List.map_append (l₁ := p)])
      have hc95 := hr95'.le
      refine ow_call_pure (callsTo Tryd.func16 rfl (by kernel_rfl) rfl) rfl (fun w hm => refSum_any _ _ _ (p ++ X) (by simp only [List.length_append]; omega) (by omega) (by omega) w (hr95'.rdAt hm (i := 0) rfl)) ?_   -- 96
      refine ow_val ((val_neq_u8s rfl rfl Tryd.eqGuardType24 Tryd.underlying24 Tryd.underlying5 Tryd.sizeOf5 Tryd.isAgg5 (hash_len _) (hash_len _)).to (congrArg Value.bool (show _ = false by simp [txt]))) rfl ?_   -- 97
      refine ow_nil (into ?_)
      refine sw_false rfl rfl ?_
      refine sw_skip (into ?_)
      refine sw_seq ?_
      refine sw_region ?_
      refine ow_val (val_move rfl) rfl ?_   -- 98
      refine ow_call_blk (fun b => .slice (some ⟨b, 0, none⟩) L1 L1) (callsTo Tryd.func20 rfl (by kernel_rfl) rfl) rfl (fun w hm => hpd1 w) (fun b99 hb99 => ?_)   -- 99
      refine ow_val (val_move rfl) rfl ?_   -- 100
      refine ow_call_blk (fun b => .slice (some ⟨b, 0, none⟩) L1 L1) (callsTo Tryd.func20 rfl (by kernel_rfl) rfl) rfl (fun w hm => hpd1 w) (fun b101 hb101 => ?_)   -- 101
      refine ow_val (val_assign rfl) rfl ?_   -- 14
      refine ow_val (val_assign rfl) rfl ?_   -- 15
      refine ow_nil (into ?_)
      refine sw_seq ?_
      refine sw_region ?_
      refine ow_val (val_move rfl) rfl ?_   -- 102
      refine ow_val (val_add_u64 rfl rfl) rfl ?_   -- 103
      refine ow_call_blk (fun b => .slice (some ⟨b, 0, none⟩) L2 L2) (callsTo Tryd.func20 rfl (by kernel_rfl) rfl) rfl (fun w hm => hpd2 w) (fun b104 hb104 => ?_)   -- 104
      refine ow_val (val_assign rfl) rfl ?_   -- 16
      refine ow_nil (into ?_)
      refine sw_seq ?_
      refine sw_region ?_
      refine ow_val (val_move rfl) rfl ?_   -- 105
      refine ow_call_row (E := 5) (size := 1) (k := L1) (xs := P1.map vU8) (callsTo Tryd.func21 rfl (by kernel_rfl) rfl) rfl (fun w hm => hdp1 w) (fun a106 c106 e106 hr106 => ?_)   -- 106
      refine ow_val (val_move rfl) rfl ?_   -- 107
      refine ow_val (val_add_u64 rfl rfl) rfl ?_   -- 108
      refine ow_call_row (E := 5) (size := 1) (k := L2) (xs := P2.map vU8) (callsTo Tryd.func21 rfl (by kernel_rfl) rfl) rfl (fun w hm => hdp2 w) (fun a109 c109 e109 hr109 => ?_)   -- 109
      refine ow_val (val_assign rfl) rfl ?_   -- 17
      refine ow_val (val_assign rfl) rfl ?_   -- 18
      refine ow_nil (into ?_)
      refine sw_seq ?_
      refine sw_seq ?_
      refine sw_region ?_
      refine ow_val (val_move rfl) rfl ?_   -- 110
      refine ow_val (val_move rfl) rfl ?_   -- 111
      refine ow_call_pure (callsTo Tryd.func19 rfl (by kernel_rfl) rfl) rfl (fun w hm => same_true _ _ _ P1 hP1 _ _ _ hP1 (by omega) (by omega) w (Rd.blk (hm.at (i := 4) rfl)) (hr106.rdAt hm (i := 1) rfl)) ?_   -- 112
      refine ow_val (val_not rfl) rfl ?_   -- 113
      refine ow_val (val_move rfl) rfl ?_   -- 114
      refine ow_guard_yes rfl rfl rfl ?_
      refine ow_val (val_move rfl) rfl ?_   -- 115
      refine ow_guard_yes rfl rfl rfl ?_
      refine ow_val (val_move rfl) rfl ?_   -- 116
      refine ow_guard_yes rfl rfl rfl ?_
      refine ow_call_pure (callsTo Tryd.func19 rfl (by kernel_rfl) rfl) rfl (fun w hm => same_true _ _ _ P1 hP1 _ _ _ hP1 (by omega) (by omega) w (Rd.blk (hm.at (i := 3) rfl)) (hr106.rdAt hm (i := 1) rfl)) ?_   -- 117
      refine ow_guard_yes rfl rfl rfl ?_
      refine ow_val (val_not rfl) rfl ?_   -- 118
      refine ow_val (val_pick_false rfl rfl) rfl ?_   -- 119
      refine ow_val (val_move rfl) rfl ?_   -- 120
      refine ow_guard_yes rfl rfl rfl ?_
      refine ow_val (val_move rfl) rfl ?_   -- 121
      refine ow_guard_yes rfl rfl rfl ?_
      refine ow_val (val_move rfl) rfl ?_   -- 122
      refine ow_guard_yes rfl rfl rfl ?_
      refine ow_call_pure (callsTo Tryd.func19 rfl (by kernel_rfl) rfl) rfl (fun w hm => same_true _ _ _ P2 hP2 _ _ _ hP2 (by omega) (by omega) w (Rd.blk (hm.at (i := 2) rfl)) (hr109.rdAt hm (i := 0) rfl)) ?_   -- 123
      refine ow_guard_yes rfl rfl rfl ?_
      refine ow_val (val_not rfl) rfl ?_   -- 124
      refine ow_val (val_pick_false rfl rfl) rfl ?_   -- 125
      refine ow_nil (into ?_)
      refine sw_false rfl rfl ?_
      refine sw_skip (into ?_)
      refine sw_seq ?_
      refine sw_seq ?_
      refine sw_region ?_
      refine ow_val (val_assign rfl) rfl ?_   -- 19
      refine ow_nil (into ?_)
      refine sw_block ?_
      clear h1
      refine sw_loop_ent (σ := Nat × List UInt8) 4 (fun x => some (b99, blk (x.2.map vU8) 5)) (fun x => x.1 ≤ L1 ∧ x.2.length = L1) (fun x => [(19, vInt (x.1 : Int)), (14, .slice (some ⟨b99, 0, none⟩) L1 L1), (15, .slice (some ⟨b101, 0, none⟩) L1 L1), (16, .slice (some ⟨b104, 0, none⟩) L2 L2), (17, .slice a106 L1 c106), (18, .slice a109 L2 c109), (1, vU64 n)]) (fun x => L1 - x.1) (0, P1) ⟨Nat.zero_le _, hP1⟩ ⟨rfl, rfl, rfl, rfl, rfl, rfl, rfl, trivial⟩ rfl ?_
      rintro ⟨j3, Z3⟩ ⟨hj3, hZ3⟩
      simp only at hj3 hZ3 ⊢
      refine sw_seq ?_
      refine sw_seq ?_
      refine sw_region ?_
      refine ow_val (val_move rfl) rfl ?_   -- 126
      refine ow_val (val_move rfl) rfl ?_   -- 127
      refine ow_val (val_len rfl Tryd.underlying22) rfl ?_   -- 128
      refine ow_val (val_lss_int rfl rfl) rfl ?_   -- 129
      refine ow_nil (into ?_)
      refine sw_if rfl (fun h2 => ?_) (fun h2 => ?_)
      · -- then
        refine sw_skip (into ?_)
        refine sw_seq ?_
        refine sw_block ?_
        refine sw_region ?_
        refine ow_val (val_move rfl) rfl ?_   -- 132
        refine ow_val (val_move rfl) rfl ?_   -- 133
        refine ow_val (val_indexAddr_slice (j3) (j3) rfl rfl Tryd.underlying22 Tryd.sizeOf5 (by omega) (by omega) (by omega)) rfl ?_   -- 134
        refine ow_do (does_store_map (V := vU8) 4 rfl rfl rfl rfl Tryd.sizeOf5 (by omega)) (fun _ _ => ?_)
        refine ow_nil (into ?_)
        refine sw_region ?_
        refine ow_val (val_move rfl) rfl ?_   -- 130
        refine ow_val (val_add_int ((j3 + 1 : Nat) : Int) rfl rfl (by omega) (by omega)) rfl ?_   -- 131
        refine ow_val (val_assign rfl) rfl ?_   -- 19
        exact ow_nil (fun w hm => ⟨(j3 + 1, Z3.set j3 1), ⟨(by dsimp only; omega), by simpa using hZ3⟩, (by dsimp only; omega), ⟨rfl, rfl, rfl, rfl, rfl, rfl, rfl, trivial⟩, (by rw [upd_upd] at hm; exact hm)⟩)
      · -- else
        refine sw_exit (into ?_)
        refine sw_seq ?_
        refine sw_region ?_
        refine ow_val (val_move rfl) rfl ?_   -- 135
        refine ow_val (val_assign rfl) rfl ?_   -- 20
        refine ow_nil (into ?_)
        refine sw_seq ?_
        refine sw_seq ?_
        refine sw_region ?_
        refine ow_val (val_assign rfl) rfl ?_   -- 21
        refine ow_nil (into ?_)
        refine sw_block ?_
        clear h2
        refine sw_loop_ent (σ := Option Addr × Nat × Nat × Ent) 4 (fun x => x.2.2.2) (fun x => x.2.2.1 ≤ 80 ∧ ∃ xs : List UInt8, RowE (.slice x.1 (L1 + x.2.2.1) x.2.1) 5 1 (L1 + x.2.2.1) (xs.map vU8) x.2.2.2) (fun x => [(21, vInt (x.2.2.1 : Int)), (20, .slice x.1 (L1 + x.2.2.1) x.2.1), (15, .slice (some ⟨b101, 0, none⟩) L1 L1), (16, .slice (some ⟨b104, 0, none⟩) L2 L2), (17, .slice a106 L1 c106), (18, .slice a109 L2 c109), (1, vU64 n)]) (fun x => 80 - x.2.2.1) (some ⟨b99, 0, none⟩, L1, 0, some (b99, blk (Z3.map vU8) 5)) ⟨Nat.zero_le _, Z3, RowE.full (by rw [List.length_map, hZ3, Nat.mul_one]; rfl) (by dsimp only; omega)⟩ ⟨rfl, rfl, rfl, rfl, rfl, rfl, rfl, trivial⟩ rfl ?_
        rintro ⟨a4, c4, k4, e4⟩ ⟨hk4, xs4, hr4⟩
        simp only at hk4 hr4 ⊢
        refine sw_seq ?_
        refine sw_seq ?_
        refine sw_region ?_
        refine ow_val (val_move rfl) rfl ?_   -- 136
        refine ow_val (val_lss_int rfl rfl) rfl ?_   -- 137
        refine ow_nil (into ?_)
        refine sw_if rfl (fun h3 => ?_) (fun h3 => ?_)
        · -- then
          refine sw_skip (into ?_)
          refine sw_seq ?_
          refine sw_block ?_
          refine sw_region ?_
          refine ow_val (val_move rfl) rfl ?_   -- 140
          refine ow_make (acts_buildSlice (cs := ([2] : List UInt8).map vU8) Tryd.underlying22 Tryd.sizeOf5 Tryd.zeroValue5 rfl rfl (by kernel_rfl)) rfl (fun b141 hb141 => ?_)   -- 141
          refine ow_append' (k := L1 + k4 + 1) (acts_append (size := 1) (bytes := 1) 5 rfl rfl rfl hr4 rfl Tryd.underlying22 hi hz hsz hby rfl (by decide) (fun w hm => (Rd.blk (hm.at (i := 0) rfl))) (by rw [List.length_map, Nat.mul_one]; exact rfl) (one_u8s _) (by omega) (by omega)) rfl (fun a142 c142 e142 hr142 => ?_)   -- 142
          have hr142' : RowE (.slice a142 (L1 + k4 + 1) c142) 5 1 (L1 + k4 + 1) (((xs4 ++ ([2] : List UInt8)) : List UInt8).map vU8) e142 := hr142.cong rfl rfl (by rw [List.map_append (l₁ := xs4)])
          have hc142 := hr142'.le
          refine ow_val (val_assign rfl) rfl ?_   -- 20
          refine ow_nil (into ?_)
          refine sw_region ?_
          refine ow_val (val_move rfl) rfl ?_   -- 138
          refine ow_val (val_add_int ((k4 + 1 : Nat) : Int) rfl rfl (by omega) (by omega)) rfl ?_   -- 139
          refine ow_val (val_assign rfl) rfl ?_   -- 21
          exact ow_nil (fun w hm => ⟨(a142, c142, k4 + 1, e142), ⟨(by dsimp only; omega), _, hr142'⟩, (by dsimp only; omega), ⟨rfl, rfl, rfl, rfl, rfl, rfl, rfl, trivial⟩, (by have h1 := hm.forget; exact h1)⟩)
        · -- else
          refine sw_exit (into ?_)
          refine sw_seq ?_
          refine sw_region ?_
          refine ow_val (val_move rfl) rfl ?_   -- 143
          refine ow_val (val_move rfl) rfl ?_   -- 144
          refine ow_call_pure (callsTo Tryd.func19 rfl (by kernel_rfl) rfl) rfl (fun w hm => same_true _ _ _ P1 hP1 _ _ _ hP1 (by omega) (by omega) w (Rd.blk (hm.at (i := 3) rfl)) (hr106.rdAt hm (i := 1) rfl)) ?_   -- 145
          refine ow_val (val_move rfl) rfl ?_   -- 146
          refine ow_guard_yes rfl rfl rfl ?_
          refine ow_val (val_move rfl) rfl ?_   -- 147
          refine ow_guard_yes rfl rfl rfl ?_
          refine ow_val (val_move rfl) rfl ?_   -- 148
          refine ow_guard_yes rfl rfl rfl ?_
          refine ow_call_pure (callsTo Tryd.func19 rfl (by kernel_rfl) rfl) rfl (fun w hm => same_true _ _ _ P2 hP2 _ _ _ hP2 (by omega) (by omega) w (Rd.blk (hm.at (i := 2) rfl)) (hr109.rdAt hm (i := 0) rfl)) ?_   -- 149
          refine ow_val (val_pick_true rfl rfl) rfl ?_   -- 150
          refine ow_val (val_move rfl) rfl ?_   -- 151
          refine ow_guard_yes rfl rfl rfl ?_
          refine ow_val (val_move rfl) rfl ?_   -- 152
          refine ow_guard_yes rfl rfl rfl ?_
          refine ow_call_blk (fun b => .slice (some ⟨b, 0, none⟩) L1 L1) (callsTo Tryd.func20 rfl (by kernel_rfl) rfl) rfl (fun w hm => hpd1 w) (fun b153 hb153 => ?_)   -- 153
          refine ow_guard_yes rfl rfl rfl ?_
          refine ow_val (val_move rfl) rfl ?_   -- 154
          refine ow_guard_yes rfl rfl rfl ?_
          refine ow_call_pure (callsTo Tryd.func19 rfl (by kernel_rfl) rfl) rfl (fun w hm => same_true _ _ _ P1 hP1 _ _ _ hP1 (by omega) (by omega) w (Rd.blk (hm.at (i := 0) rfl)) (hr106.rdAt hm (i := 2) rfl)) ?_   -- 155
          refine ow_val (val_pick_true rfl rfl) rfl ?_   -- 156
          refine ow_val (val_assign rfl) rfl ?_   -- 4
          refine ow_nil (into ?_)
          exact sw_ret (fun w hm => ret_one _ rfl rfl ⟨rfl, hm.forgetAll⟩)
end Go.Proofs.YtiagaoeaploijaaDoor
