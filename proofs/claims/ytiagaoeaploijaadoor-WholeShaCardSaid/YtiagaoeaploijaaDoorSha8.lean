import Derived.Test.YtiagaoeaploijaaDoorSha7
import Derived.Test.YtiagaoeaploijaaDoorSxK
import Derived.Test.YtiagaoeaploijaaDoorProg
namespace Go.Proofs.YtiagaoeaploijaaDoor
open Go.Sx Go.Ps

theorem outR_get (h : List UInt32) (i : Nat) : ∀ n, n ≤ 32 → i < n → (outR h n).getD i default = (gw h (i / 4) >>> UInt32.ofNat (24 - 8 * (i % 4))).toUInt8
  | 0, _, hi => absurd hi (Nat.not_lt_zero _)
  | n + 1, hn, hi => by
    rcases Nat.lt_succ_iff_lt_or_eq.1 hi with h1 | rfl
    · rw [outR, List.getD_eq_getElem?_getD, List.getElem?_set_ne (by omega), ← List.getD_eq_getElem?_getD]
      exact outR_get h i n (by omega) h1
    · rw [outR, List.getD_eq_getElem?_getD, List.getElem?_set_self (by rw [outR_len]; omega)]; rfl
theorem shaOf_get (p all : List UInt8) (hall : all = p ++ padding (UInt64.ofNat p.length)) (j i : Nat) (hj : all.length = 64 * j) (hi : i < 32) : (shaOf p).getD i default = (gw (blocks H0 all j) (i / 4) >>> UInt32.ofNat (24 - 8 * (i % 4))).toUInt8 := by
  have h1 : shaOf p = outR (blocks H0 all j) 32 := by
    rw [outR_eq, shaOf, ← hall, hj, Nat.mul_div_cancel_left j (by decide)]
  rw [h1]; exact outR_get _ i 32 (Nat.le_refl _) hi

set_option maxRecDepth 10000 in
theorem shaChain_any (a : Option Addr) (m c : Nat) (p : List UInt8) (hpm : p.length = m) (hc : m ≤ c) (hl : m ≤ 140737488351232) (w : World) (hK : KW w) (hr : Rd w a (p.map vU8)) : Calls Tryd.prog 8 #[.slice a m c] w fun e w' => ∃ v, e = .returned v ∧ v = .bool true ∧ Mem w [] [] w' := by
  obtain ⟨ti, hi, hz, hsz, hby⟩ := info_parts iu8
  obtain ⟨L, hL⟩ : ∃ L, (padding (UInt64.ofNat m)).length = L := ⟨_, rfl⟩
  have hL0 := padding_len (UInt64.ofNat m)
  have hL1 := padZeros_lt (UInt64.ofNat m)
  rw [hL] at hL0
  have hpd : ∀ w, Calls Tryd.prog 20 #[vU64 (UInt64.ofNat m)] w fun e w' => ∃ v, e = .returned v ∧ ∃ b, v = .slice (some ⟨b, 0, none⟩) L L ∧ Mem w [] [some (b, blk ((padding (UInt64.ofNat m)).map vU8) 5)] w' := fun w => by rw [← hL]; exact padding_any _ w
  refine calls_of_sw (vs := [.slice a m c]) Tryd.func8 rfl Tryd.ntmps8 rfl (SW.begin ?_)
  refine sw_seq ?_
  refine sw_region ?_
  refine ow_val (val_assign rfl) rfl ?_   -- 2
  refine ow_nil (into ?_)
  refine sw_seq ?_
  refine sw_seq ?_
  refine sw_region ?_
  refine ow_call_pure (callsTo Tryd.func13 rfl (by kernel_rfl) rfl) rfl (fun w hm => awake_any w (hK.mem0 hm)) ?_   -- 9
  refine ow_val (val_not rfl) rfl ?_   -- 10
  refine ow_nil (into ?_)
  refine sw_false rfl rfl ?_
  refine sw_skip (into ?_)
  refine sw_seq ?_
  refine sw_region ?_
  refine ow_call_pure (callsTo Tryd.func22 rfl (by kernel_rfl) rfl) rfl (fun w hm => refFirst_any w) ?_   -- 11
  refine ow_new (acts_alloc z30) rfl (fun b3 hb3 => ?_)   -- 3
  refine ow_do_eq (does_store_all 0 rfl rfl rfl (one_u32s _) Tryd.sizeOf30 rfl (by first | rfl | simp)) ?_
  refine ow_nil (into ?_)
  refine sw_seq ?_
  refine sw_region ?_
  refine ow_val (val_move rfl) rfl ?_   -- 12
  refine ow_call_blk (fun b => .slice (some ⟨b, 0, none⟩) m m) (callsTo Tryd.func15 rfl (by kernel_rfl) rfl) rfl (fun w hm => twin_any _ _ _ p hpm (by omega) w (hr.mem hm)) (fun b13 hb13 => ?_)   -- 13
  refine ow_val (val_move rfl) rfl ?_   -- 14
  refine ow_val (val_len rfl Tryd.underlying22) rfl ?_   -- 15
  refine ow_val (val_conv_n_u64 m Tryd.underlying3 Tryd.underlying34 rfl rfl) rfl ?_   -- 16
  refine ow_call_blk (fun b => .slice (some ⟨b, 0, none⟩) L L) (callsTo Tryd.func20 rfl (by kernel_rfl) rfl) rfl (fun w hm => hpd w) (fun b17 hb17 => ?_)   -- 17
  refine ow_append' (k := m + L) (acts_append (size := 1) (bytes := 1) 1 rfl rfl rfl (RowE.full (by simp [hpm]) (by omega)) rfl Tryd.underlying22 hi hz hsz hby rfl (by decide) (fun w hm => Rd.blk (hm.at (i := 0) rfl)) (by simp [hL]) (one_u8s _) (by omega) (by omega)) rfl (fun a1 c1 e1 hrow1 => ?_)   -- 18
  obtain ⟨R, hR⟩ : ∃ R, m + L = R := ⟨_, rfl⟩
  rw [hR] at hrow1 ⊢
  obtain ⟨all, hall⟩ : ∃ all, all = p ++ padding (UInt64.ofNat p.length) := ⟨_, rfl⟩
  have hrow : RowE (.slice a1 R c1) 5 1 R (all.map vU8) e1 := hrow1.cong rfl rfl (by rw [hall, List.map_append, hpm])
  have hall2 : all.length = R := by rw [hall, List.length_append, hpm, hL, ← hR]
  have hRc : R ≤ c1 := hrow.le
  obtain ⟨j, hj⟩ : ∃ j, R = 64 * j := ⟨R / 64, by have hw := whole_len p; rw [← hall, hall2] at hw; omega⟩
  refine ow_val (val_assign rfl) rfl ?_   -- 4
  refine ow_nil (into ?_)
  refine sw_seq ?_
  refine sw_seq ?_
  refine sw_region ?_
  refine ow_val (val_move rfl) rfl ?_   -- 19
  refine ow_val (val_len rfl Tryd.underlying22) rfl ?_   -- 20
  refine ow_val (val_rem_nn ((0 : Nat) : Int) rfl rfl (by omega) (by omega) (by omega)) rfl ?_   -- 21
  refine ow_val (val_neq_int rfl rfl) rfl ?_   -- 22
  refine ow_nil (into ?_)
  refine sw_false rfl (by decide) ?_
  refine sw_skip (into ?_)
  refine sw_seq ?_
  refine sw_seq ?_
  refine sw_region ?_
  refine ow_val (val_assign rfl) rfl ?_   -- 5
  refine ow_nil (into ?_)
  refine sw_block ?_
  refine sw_loop (σ := Nat) (fun k => k ≤ j) (fun k => [(5, vInt ((64 * k : Nat) : Int)), (4, .slice a1 R c1), (3, .pointer (some ⟨b3, 0, none⟩)), (0, .slice a m c)]) (fun k => Mem w [] [some (b17, blk ((padding (UInt64.ofNat m)).map vU8) 5), e1, some (b3, blk ((blocks H0 all k).map vU32) 30)]) (fun k => j - k) 0 (by omega) ⟨rfl, rfl, rfl, rfl, trivial⟩ (fun w hm => hm) (fun k hk => ?_)
  refine sw_seq ?_
  refine sw_seq ?_
  refine sw_region ?_
  refine ow_val (val_move rfl) rfl ?_   -- 23
  refine ow_val (val_move rfl) rfl ?_   -- 24
  refine ow_val (val_len rfl Tryd.underlying22) rfl ?_   -- 25
  refine ow_val (val_lss_int rfl rfl) rfl ?_   -- 26
  refine ow_nil (into ?_)
  refine sw_if rfl (fun h0 => ?_) (fun h0 => ?_)
  · -- then
    refine sw_skip (into ?_)
    refine sw_seq ?_
    refine sw_block ?_
    refine sw_seq ?_
    refine sw_region ?_
    refine ow_new (acts_alloc z31) rfl (fun b6 hb6 => ?_)   -- 6
    refine ow_nil (into ?_)
    refine sw_seq ?_
    refine sw_region_lex _ [6] [(0, 0), (1, 0), (2, 0), (3, 0), (4, 0), (5, 0), (6, 2)] (by kernel_rfl) (by kernel_rfl) (fun _ _ _ h => h) (fun _ h => h) (fun _ h => h.drawn _) ?_
    refine lw_pure rfl (val_slice_array_full rfl Tryd.underlying31 Tryd.sizeOf5) rfl ?_   -- 29
    refine lw_pure rfl (val_move rfl) rfl ?_   -- 30
    refine lw_pure rfl (val_move rfl) rfl ?_   -- 31
    refine lw_pure rfl (val_move rfl) rfl ?_   -- 32
    refine lw_pure rfl (val_add_int ((64 * k + 64 : Nat) : Int) rfl rfl (by omega) (by omega)) rfl ?_   -- 33
    refine lw_pure rfl (val_slice_cut (64 * k) (64 * k + 64) rfl rfl rfl Tryd.underlying22 Tryd.sizeOf5 rfl rfl (by omega) (by omega)) rfl ?_   -- 34
    refine lw_act_eq rfl (acts_copy_to (size := 1) 64 (((all.drop (64 * k)).take 64).map vU8) 0 rfl rfl rfl Tryd.underlying22 Tryd.sizeOf5 (fun w' hm => ((hrow.rdAt hm (i := 2) rfl).cut (by omega)).take1 64) (by simp; omega) (one_u8s _) (by show 0 + 64 * 1 ≤ ((List.replicate 64 (0 : UInt8)).map vU8).length; simp) (show 64 = min (64 * k + 64 - 64 * k) 64 by omega) (by show [] ++ List.take 64 (((all.drop (64 * k)).take 64).map vU8) ++ List.drop 64 ((List.replicate 64 (0 : UInt8)).map vU8) = _; rw [List.take_of_length_le (l := ((all.drop (64 * k)).take 64).map vU8) (i := 64) (by simp; omega), List.drop_eq_nil_of_le (i := 64) (show ((List.replicate 64 (0 : UInt8)).map vU8).length ≤ 64 by simp)]; simp)) rfl (fun h => nomatch h) ?_
    refine lw_nil (into ?_)
    refine sw_region ?_
    refine ow_val (val_load_all 3 rfl rfl Tryd.isAgg30 Tryd.sizeOf30 (by rw [List.length_map, blocks_len]; rfl)) rfl ?_   -- 36
    refine ow_val (val_load_all 0 rfl rfl Tryd.isAgg31 Tryd.sizeOf31 (by simp; omega)) rfl ?_   -- 37
    refine ow_call_pure (callsTo Tryd.func17 rfl (by kernel_rfl) rfl) rfl (fun w hm => comp_any (blocks H0 all k) ((all.drop (64 * k)).take 64) (by rw [blocks_len]; rfl) (by simp; omega) w (hK.mem0 hm)) ?_   -- 38
    refine ow_do_eq (does_store_all 3 rfl rfl rfl (one_u32s _) Tryd.sizeOf30 (by rw [List.length_map, compress_len, blocks_len]; rfl) (by rw [List.length_map, blocks_len]; rfl)) ?_
    refine ow_nil (into ?_)
    refine sw_region ?_
    refine ow_val (val_move rfl) rfl ?_   -- 27
    refine ow_val (val_add_int ((64 * k + 64 : Nat) : Int) rfl rfl (by omega) (by omega)) rfl ?_   -- 28
    refine ow_val (val_assign rfl) rfl ?_   -- 5
    exact ow_nil (fun w hm => ⟨k + 1, by omega, by omega, ⟨rfl, rfl, rfl, rfl, trivial⟩, hm.forget⟩)
  · -- else
    obtain rfl : j = k := by omega
    refine sw_exit (into ?_)
    refine sw_seq ?_
    refine sw_region ?_
    refine ow_val (val_move rfl) rfl ?_   -- 39
    refine ow_call_blk (fun b => .slice (some ⟨b, 0, none⟩) m m) (callsTo Tryd.func15 rfl (by kernel_rfl) rfl) rfl (fun w hm => twin_any _ _ _ p hpm (by omega) w (hr.mem hm)) (fun b40 hb40 => ?_)   -- 40
    refine ow_call_pure (callsTo Tryd.func14 rfl (by kernel_rfl) rfl) rfl (fun w hm => sum256h_any _ _ _ p hpm w (hK.mem0 hm) (Rd.blk (hm.at (i := 0) rfl)) (by omega) (by omega)) ?_   -- 41
    refine ow_new (acts_alloc z24) rfl (fun b7 hb7 => ?_)   -- 7
    refine ow_do_eq (does_store_all 0 rfl rfl rfl (one_u8s _) Tryd.sizeOf24 (by rw [List.length_map]; exact hash_len _) (by first | rfl | simp)) ?_
    refine ow_nil (into ?_)
    refine sw_seq ?_
    refine sw_seq ?_
    refine sw_region ?_
    refine ow_val (val_assign rfl) rfl ?_   -- 8
    refine ow_nil (into ?_)
    refine sw_block ?_
    clear h0
    refine sw_loop (σ := Nat) (fun i => i ≤ 32) (fun i => [(8, vInt (i : Int)), (7, .pointer (some ⟨b7, 0, none⟩)), (3, .pointer (some ⟨b3, 0, none⟩))]) (fun i => Mem w [] [some (b7, blk ((shaOf p).map vU8) 24), some (b40, blk (p.map vU8) 5), some (b17, blk ((padding (UInt64.ofNat m)).map vU8) 5), e1, some (b3, blk ((blocks H0 all j).map vU32) 30)]) (fun i => 32 - i) 0 (by omega) ⟨rfl, rfl, rfl, trivial⟩ (fun w hm => hm) (fun i hi => ?_)
    refine sw_seq ?_
    refine sw_seq ?_
    refine sw_region ?_
    refine ow_val (val_move rfl) rfl ?_   -- 42
    refine ow_val (val_lss_int rfl rfl) rfl ?_   -- 43
    refine ow_nil (into ?_)
    refine sw_if rfl (fun h1 => ?_) (fun h1 => ?_)
    · -- then
      refine sw_skip (into ?_)
      refine sw_seq ?_
      refine sw_block ?_
      refine sw_seq ?_
      refine sw_region_lex _ [] [(0, 0), (1, 0), (3, 0), (4, 0), (5, 0), (7, 0), (8, 0), (9, 0), (10, 0), (2, 1), (6, 1), (11, 0), (12, 0), (13, 0)] (by kernel_rfl) (by kernel_rfl) (fun _ _ _ h => h) (fun _ h => h) (fun _ h => h.drawn _) ?_
      refine lw_pure rfl (val_move rfl) rfl ?_   -- 46
      refine lw_pure rfl (val_indexAddr (i) (i) rfl rfl Tryd.underlying24 Tryd.sizeOf5 (by omega) (by omega) (by omega)) rfl ?_   -- 47
      refine lw_pure rfl (val_move rfl) rfl ?_   -- 49
      refine lw_pure rfl (val_quo_int ((i / 4 : Nat) : Int) rfl rfl (by omega) (by omega) (by omega)) rfl ?_   -- 50
      refine lw_pure rfl (val_indexAddr (i / 4) (i / 4) rfl rfl Tryd.underlying30 Tryd.sizeOf29 (by omega) (by omega) (by omega)) rfl ?_   -- 51
      refine lw_pure rfl (val_move rfl) rfl ?_   -- 53
      refine lw_pure rfl (val_rem_nn ((i % 4 : Nat) : Int) rfl rfl (by omega) (by omega) (by omega)) rfl ?_   -- 54
      refine lw_pure rfl (val_mul_int ((8 * (i % 4) : Nat) : Int) rfl rfl (by omega) (by omega)) rfl ?_   -- 55
      refine lw_pure rfl (val_sub_int ((24 - (8 * (i % 4)) : Nat) : Int) rfl rfl (by omega) (by omega)) rfl ?_   -- 56
      refine lw_held rfl (val_load_at 0 rfl rfl Tryd.isAgg5 (get_map _ _ _ (by (rw [hash_len]; omega)))) rfl ?_   -- 48
      refine lw_held rfl (val_load_at 4 rfl rfl Tryd.isAgg29 (get_map _ _ _ (by (rw [blocks_len]; show _ < 8; omega)))) rfl ?_   -- 52
      refine lw_pure rfl (val_shr_u32 (24 - (8 * (i % 4))) rfl rfl (by first | rfl | omega) (by omega)) rfl ?_   -- 57
      refine lw_pure rfl (val_conv_u32_u8 Tryd.underlying29 Tryd.underlying5 rfl) rfl ?_   -- 58
      refine lw_pure rfl ((val_neq_u8 rfl rfl).to (v' := .bool false) (congrArg Value.bool (decide_eq_false (fun h => h (shaOf_get p all hall j i (by rw [hall2, hj]) (by omega)))))) rfl ?_   -- 59
      refine lw_nil (into ?_)
      refine sw_false rfl rfl ?_
      refine sw_skip (into ?_)
      refine sw_region ?_
      refine ow_val (val_move rfl) rfl ?_   -- 44
      refine ow_val (val_add_int ((i + 1 : Nat) : Int) rfl rfl (by omega) (by omega)) rfl ?_   -- 45
      refine ow_val (val_assign rfl) rfl ?_   -- 8
      exact ow_nil (fun w hm => ⟨i + 1, by omega, by omega, ⟨rfl, rfl, rfl, trivial⟩, hm⟩)
    · -- else
      refine sw_exit (into ?_)
      refine sw_seq ?_
      refine sw_region ?_
      refine ow_val (val_assign rfl) rfl ?_   -- 2
      refine ow_nil (into ?_)
      exact sw_ret (fun w hm => ret_one _ rfl rfl ⟨rfl, hm.forgetAll⟩)


def mk (j : Nat) : UInt8 := UInt8.ofNat (165 + 3 * j)
def mks (m t : Nat) : List UInt8 := (List.range t).map fun i => mk (m + i)
theorem mks_len (m t : Nat) : (mks m t).length = t := by simp [mks]
def mst (p : List UInt8) (t : Nat) : List UInt8 := p ++ (mks p.length t ++ List.replicate (96 - t) 0)
theorem mst_len (p : List UInt8) (t : Nat) (ht : t ≤ 96) : (mst p t).length = p.length + 96 := by simp [mst, mks_len]; omega
theorem mst_set (p : List UInt8) (t : Nat) (ht : t < 96) : (mst p t).set (p.length + t) (mk (p.length + t)) = mst p (t + 1) := by
  unfold mst
  rw [List.set_append_right _ _ (by omega), show p.length + t - p.length = t by omega, List.set_append_right _ _ (by rw [mks_len]; exact Nat.le_refl _), mks_len, Nat.sub_self,
    show 96 - t = (96 - (t + 1)) + 1 by omega, List.replicate_succ, List.set_cons_zero]
  have : mks p.length (t + 1) = mks p.length t ++ [mk (p.length + t)] := by simp [mks, List.range_succ]
  rw [this]; simp

theorem marked_any (a : Option Addr) (m c : Nat) (p : List UInt8) (hpm : p.length = m) (hl : m ≤ 140737488351232) (w : World) (hr : Rd w a (p.map vU8)) : Calls Tryd.prog 29 #[.slice a m c] w fun e w' => ∃ v, e = .returned v ∧ ∃ b, v = .tuple #[.slice (some ⟨b, 0, none⟩) m (m + 96), .slice (some ⟨b, 0, none⟩) (m + 96) (m + 96)] ∧ Mem w [] [some (b, blk ((mst p 96).map vU8) 5)] w' := by
  obtain ⟨ti, hi, hz, hsz, hby⟩ := info_parts iu8
  refine calls_of_sw (vs := [.slice a m c]) Tryd.func29 rfl Tryd.ntmps29 rfl (SW.begin ?_)
  refine sw_seq ?_
  refine sw_region ?_
  refine ow_val (val_assign rfl) rfl ?_   -- 2
  refine ow_val (val_assign rfl) rfl ?_   -- 3
  refine ow_nil (into ?_)
  refine sw_seq ?_
  refine sw_region ?_
  refine ow_val (val_move rfl) rfl ?_   -- 6
  refine ow_val (val_len rfl Tryd.underlying22) rfl ?_   -- 7
  refine ow_val (val_add_int ((m + 96 : Nat) : Int) rfl rfl (by omega) (by omega)) rfl ?_   -- 8
  refine ow_make (o := blk ((List.replicate (m + 96) (0 : UInt8)).map vU8) 5) (acts_make_to (vs := (List.replicate (m + 96) (0 : UInt8)).map vU8) (m + 96) (m + 96) rfl rfl rfl rfl Tryd.underlying22 hi hz (Nat.le_refl _) (by rw [hby]; omega) (by omega) (by rw [hsz, Nat.mul_one]; exact made_u8 _)) rfl (fun b9 hb9 => ?_)
  refine ow_val (val_assign rfl) rfl ?_   -- 4
  refine ow_nil (into ?_)
  refine sw_seq ?_
  refine sw_region ?_
  refine ow_val (val_move rfl) rfl ?_   -- 10
  refine ow_val (val_move rfl) rfl ?_   -- 11
  refine ow_act_eq (acts_copy_to (size := 1) m ((mst p 0).map vU8) 0 rfl rfl rfl Tryd.underlying22 Tryd.sizeOf5 (fun w' hm => hr.mem hm) (by simp [hpm]) (one_u8s _) (by simp) (by omega) (by rw [← hpm]; simp [mst, mks, List.take_of_length_le])) rfl ?_
  refine ow_nil (into ?_)
  refine sw_seq ?_
  refine sw_seq ?_
  refine sw_region ?_
  refine ow_val (val_move rfl) rfl ?_   -- 13
  refine ow_val (val_len rfl Tryd.underlying22) rfl ?_   -- 14
  refine ow_val (val_assign rfl) rfl ?_   -- 5
  refine ow_nil (into ?_)
  refine sw_block ?_
  refine sw_loop (σ := Nat) (fun t => t ≤ 96) (fun t => [(5, vInt ((m + t : Nat) : Int)), (4, .slice (some ⟨b9, 0, none⟩) (m + 96) (m + 96)), (0, .slice a m c)]) (fun t => Mem w [] [some (b9, blk ((mst p t).map vU8) 5)]) (fun t => 96 - t) 0 (by omega) ⟨rfl, rfl, rfl, trivial⟩ (fun w hm => hm) (fun t ht => ?_)
  refine sw_seq ?_
  refine sw_seq ?_
  refine sw_region ?_
  refine ow_val (val_move rfl) rfl ?_   -- 15
  refine ow_val (val_move rfl) rfl ?_   -- 16
  refine ow_val (val_len rfl Tryd.underlying22) rfl ?_   -- 17
  refine ow_val (val_lss_int rfl rfl) rfl ?_   -- 18
  refine ow_nil (into ?_)
  refine sw_if rfl (fun h0 => ?_) (fun h0 => ?_)
  · -- then
    refine sw_skip (into ?_)
    refine sw_seq ?_
    refine sw_block ?_
    refine sw_region ?_
    refine ow_val (val_move rfl) rfl ?_   -- 21
    refine ow_val (val_move rfl) rfl ?_   -- 22
    refine ow_val (val_move rfl) rfl ?_   -- 23
    refine ow_val (val_mul_int ((3 * (m + t) : Nat) : Int) rfl rfl (by omega) (by omega)) rfl ?_   -- 24
    refine ow_val (val_add_int ((165 + 3 * (m + t) : Nat) : Int) rfl rfl (by omega) (by omega)) rfl ?_   -- 25
    refine ow_val (val_conv_n_u8 (165 + 3 * (m + t)) Tryd.underlying3 Tryd.underlying5 rfl (by omega)) rfl ?_   -- 26
    refine ow_val (val_indexAddr_slice (m + t) (m + t) rfl rfl Tryd.underlying22 Tryd.sizeOf5 (by omega) (by omega) (by omega)) rfl ?_   -- 27
    refine ow_do (does_store_map (V := vU8) 0 rfl rfl rfl rfl Tryd.sizeOf5 (by (rw [mst_len p t ht]; omega))) (fun _ _ => ?_)
    refine ow_nil (into ?_)
    refine sw_region ?_
    refine ow_val (val_move rfl) rfl ?_   -- 19
    refine ow_val (val_add_int ((m + t + 1 : Nat) : Int) rfl rfl (by omega) (by omega)) rfl ?_   -- 20
    refine ow_val (val_assign rfl) rfl ?_   -- 5
    exact ow_nil (fun w hm => ⟨t + 1, by omega, by omega, ⟨rfl, rfl, rfl, trivial⟩, (by rw [← mst_set p t (by omega)]; subst hpm; exact hm)⟩)
  · -- else
    obtain rfl : t = 96 := by omega
    refine sw_exit (into ?_)
    refine sw_seq ?_
    refine sw_region ?_
    refine ow_val (val_move rfl) rfl ?_   -- 28
    refine ow_val (val_move rfl) rfl ?_   -- 29
    refine ow_val (val_len rfl Tryd.underlying22) rfl ?_   -- 30
    refine ow_val (val_slice_hi m rfl rfl Tryd.underlying22 Tryd.sizeOf5 rfl (by omega)) rfl ?_   -- 31
    refine ow_val (val_move rfl) rfl ?_   -- 32
    refine ow_val (val_assign rfl) rfl ?_   -- 2
    refine ow_val (val_assign rfl) rfl ?_   -- 3
    refine ow_nil (into ?_)
    exact sw_ret (fun w hm => ret_two _ _ rfl rfl rfl ⟨b9, rfl, hm⟩)
end Go.Proofs.YtiagaoeaploijaaDoor
