import Derived.Test.YtiagaoeaploijaaDoorSha3
import Derived.Test.YtiagaoeaploijaaDoorProg
set_option linter.unusedVariables false
set_option linter.unusedSimpArgs false
namespace Go.Proofs.YtiagaoeaploijaaDoor
open Go.Sx Go.Ps

theorem pad_more (n : UInt64) (k : Nat) (hk : k ≤ (padZeros n).toNat) : ((n % 64 + UInt64.ofNat (1 + k) + 8) % 64 ≠ 0) ↔ k ≠ (padZeros n).toNat := by
  have h := padZeros_toNat n
  have e : ((n % 64 + UInt64.ofNat (1 + k) + 8) % 64).toNat = (n.toNat % 64 + (1 + k) + 8) % 64 := by
    simp only [UInt64.toNat_mod, UInt64.toNat_add, UInt64.toNat_ofNat', show (64 : UInt64).toNat = 64 from rfl, show (8 : UInt64).toNat = 8 from rfl]; omega
  rw [ne_eq, ← UInt64.toNat_inj, e, show (0 : UInt64).toNat = 0 from rfl]; omega
theorem padHead_succ (k : Nat) : (padHead (k + 1)).map vU8 = (padHead k).map vU8 ++ [vU8 0] := by
  simp [padHead, List.replicate_succ']
theorem padTail_succ (n : UInt64) (j : Nat) : padTail n (j + 1) = padTail n j ++ [((8 * n) >>> UInt64.ofNat (8 * (7 - j))).toUInt8] := by
  simp [padTail, List.range_succ]

theorem docPadding_any (n : UInt64) (w : World) : Calls Tryd.prog 21 #[vU64 n] w fun e w' => ∃ v, e = .returned v ∧ ∃ e', RowE v 5 1 (padding n).length ((padding n).map vU8) e' ∧ Mem w [] [e'] w' := by
  obtain ⟨ti, hi, hz, hsz, hby⟩ := info_parts iu8
  obtain ⟨z, hz0⟩ : ∃ z, (padZeros n).toNat = z := ⟨_, rfl⟩
  have hz1 := padZeros_lt n
  refine calls_of_sw (vs := [vU64 n]) Tryd.func21 rfl Tryd.ntmps21 rfl (SW.begin ?_)
  refine sw_seq ?_
  refine sw_region ?_
  refine ow_val (val_assign rfl) rfl ?_   -- 2
  refine ow_nil (into ?_)
  refine sw_seq ?_
  refine sw_region ?_
  refine ow_make (acts_buildSlice (cs := ([128] : List UInt8).map vU8) Tryd.underlying22 Tryd.sizeOf5 Tryd.zeroValue5 rfl rfl (by kernel_rfl)) rfl (fun b5 hb5 => ?_)   -- 5
  refine ow_val (val_assign rfl) rfl ?_   -- 3
  refine ow_nil (into ?_)
  refine sw_seq ?_
  refine sw_block ?_
  refine sw_loop (σ := Option Addr × Nat × Nat × Ent) (fun x => x.2.2.1 ≤ z ∧ RowE (.slice x.1 (1 + x.2.2.1) x.2.1) 5 1 (1 + x.2.2.1) ((padHead x.2.2.1).map vU8) x.2.2.2) (fun x => [(3, .slice x.1 (1 + x.2.2.1) x.2.1), (0, vU64 n)]) (fun x => Mem w [] [x.2.2.2]) (fun x => z - x.2.2.1) (some ⟨b5, 0, none⟩, 1, 0, _) ⟨Nat.zero_le _, RowE.full rfl (show 1 + 0 ≤ 9223372036854775807 by omega)⟩ ⟨rfl, rfl, trivial⟩ (fun w hm => hm) ?_
  rintro ⟨a, c, k, e⟩ ⟨hk, hrow⟩
  simp only at hk hrow ⊢
  refine sw_seq ?_
  refine sw_seq ?_
  refine sw_region ?_
  refine ow_val (val_move rfl) rfl ?_   -- 6
  refine ow_val (val_rem_u64 rfl rfl (by decide)) rfl ?_   -- 7
  refine ow_val (val_move rfl) rfl ?_   -- 8
  refine ow_val (val_len rfl Tryd.underlying22) rfl ?_   -- 9
  refine ow_val (val_conv_n_u64 (1 + k) Tryd.underlying3 Tryd.underlying34 rfl rfl) rfl ?_   -- 10
  refine ow_val (val_add_u64 rfl rfl) rfl ?_   -- 11
  refine ow_val (val_add_u64 rfl rfl) rfl ?_   -- 12
  refine ow_val (val_rem_u64 rfl rfl (by decide)) rfl ?_   -- 13
  refine ow_val (val_neq_u64 rfl rfl) rfl ?_   -- 14
  refine ow_nil (into ?_)
  refine sw_if rfl (fun h0 => ?_) (fun h0 => ?_)
  · -- then
    have hkz : k ≠ z := by rw [← hz0]; exact (pad_more n k (by omega)).1 h0
    refine sw_skip (into ?_)
    refine sw_block ?_
    refine sw_region ?_
    refine ow_val (val_move rfl) rfl ?_   -- 15
    refine ow_make (acts_buildSlice (cs := ([0] : List UInt8).map vU8) Tryd.underlying22 Tryd.sizeOf5 Tryd.zeroValue5 rfl rfl (by kernel_rfl)) rfl (fun b16 hb16 => ?_)   -- 16
    refine ow_append' (k := 1 + k + 1) (acts_append (size := 1) (bytes := 1) 1 rfl rfl rfl hrow rfl Tryd.underlying22 hi hz hsz hby rfl (by decide) (fun w hm => Rd.blk (hm.at (i := 0) rfl)) (by rfl) (one_u8s _) (by omega) (by omega)) rfl (fun a1 c1 e1 hr1 => ?_)   -- 17
    refine ow_val (val_assign rfl) rfl ?_   -- 3
    exact ow_nil (fun w hm => ⟨(a1, c1, k + 1, e1), ⟨(by dsimp only; omega), hr1.cong rfl (by dsimp only; omega) (padHead_succ k).symm⟩, by simp only; omega, ⟨rfl, rfl, trivial⟩, hm.forget⟩)
  · -- else
    obtain rfl : k = z := by
      rcases Nat.lt_or_ge k z with h | h
      · exact absurd ((pad_more n k (by omega)).2 (by omega)) h0
      · omega
    refine sw_exit (into ?_)
    refine sw_seq ?_
    refine sw_seq ?_
    refine sw_region ?_
    refine ow_val (val_assign rfl) rfl ?_   -- 4
    refine ow_nil (into ?_)
    refine sw_block ?_
    clear h0 hk
    refine sw_loop (σ := Option Addr × Nat × Nat × Ent) (fun x => x.2.2.1 ≤ 8 ∧ RowE (.slice x.1 (1 + k + x.2.2.1) x.2.1) 5 1 (1 + k + x.2.2.1) ((padHead k ++ padTail n x.2.2.1).map vU8) x.2.2.2) (fun x => [(4, vInt (7 - (x.2.2.1 : Int))), (3, .slice x.1 (1 + k + x.2.2.1) x.2.1), (0, vU64 n)]) (fun x => Mem w [] [x.2.2.2]) (fun x => 8 - x.2.2.1) (a, c, 0, e) ⟨Nat.zero_le _, hrow.cong rfl rfl (by simp [padTail])⟩ ⟨rfl, rfl, rfl, trivial⟩ (fun w hm => hm) ?_
    rintro ⟨a, c, j, e⟩ ⟨hj, hrow⟩
    simp only at hj hrow ⊢
    refine sw_seq ?_
    refine sw_seq ?_
    refine sw_region ?_
    refine ow_val (val_move rfl) rfl ?_   -- 18
    refine ow_val (val_geq_int rfl rfl) rfl ?_   -- 19
    refine ow_nil (into ?_)
    refine sw_if rfl (fun h1 => ?_) (fun h1 => ?_)
    · -- then
      refine sw_skip (into ?_)
      refine sw_seq ?_
      refine sw_block ?_
      refine sw_region ?_
      refine ow_val (val_move rfl) rfl ?_   -- 22
      refine ow_val (val_move rfl) rfl ?_   -- 23
      refine ow_val (val_mul_u64 rfl rfl) rfl ?_   -- 24
      refine ow_val (val_move rfl) rfl ?_   -- 25
      refine ow_val (val_mul_int ((8 * (7 - j) : Nat) : Int) rfl rfl (by omega) (by omega)) rfl ?_   -- 26
      refine ow_val (val_shr_u64 (8 * (7 - j)) rfl rfl (by first | rfl | omega) (by omega)) rfl ?_   -- 27
      refine ow_val (val_conv_u64_u8 Tryd.underlying34 Tryd.underlying5 rfl) rfl ?_   -- 28
      refine ow_make (acts_buildSlice (cs := ([((8 * n) >>> UInt64.ofNat (8 * (7 - j))).toUInt8] : List UInt8).map vU8) Tryd.underlying22 Tryd.sizeOf5 Tryd.zeroValue5 rfl rfl (by kernel_rfl)) rfl (fun b29 hb29 => ?_)   -- 29
      refine ow_append' (k := 1 + k + j + 1) (acts_append (size := 1) (bytes := 1) 1 rfl rfl rfl hrow rfl Tryd.underlying22 hi hz hsz hby rfl (by decide) (fun w hm => Rd.blk (hm.at (i := 0) rfl)) (by rfl) (one_u8s _) (by omega) (by omega)) rfl (fun a1 c1 e1 hr1 => ?_)   -- 30
      refine ow_val (val_assign rfl) rfl ?_   -- 3
      refine ow_nil (into ?_)
      refine sw_region ?_
      refine ow_val (val_move rfl) rfl ?_   -- 20
      refine ow_val (val_sub_int (7 - ((j + 1 : Nat) : Int)) rfl rfl (by omega) (by omega)) rfl ?_   -- 21
      refine ow_val (val_assign rfl) rfl ?_   -- 4
      exact ow_nil (fun w hm => ⟨(a1, c1, j + 1, e1), ⟨(by dsimp only; omega), hr1.cong rfl (by dsimp only; omega) (by dsimp only; rw [padTail_succ, ← List.append_assoc, List.map_append (l₁ := padHead k ++ padTail n j)])⟩, by simp only; omega, ⟨rfl, rfl, rfl, trivial⟩, hm.forget⟩)
    · -- else
      obtain rfl : j = 8 := by omega
      refine sw_exit (into ?_)
      refine sw_seq ?_
      refine sw_region ?_
      refine ow_val (val_move rfl) rfl ?_   -- 31
      refine ow_val (val_assign rfl) rfl ?_   -- 2
      refine ow_nil (into ?_)
      exact sw_ret (fun w hm => ret_one _ rfl rfl ⟨e, hrow.cong rfl (by rw [← docPad_eq, docPad, List.length_append, padHead_len, padTail_len, hz0]) (by rw [← docPad_eq, docPad, hz0]), hm⟩)

theorem twin_any (a : Option Addr) (m c : Nat) (p : List UInt8) (hpm : p.length = m) (hl : m ≤ 140737488355328) (w : World) (hr : Rd w a (p.map vU8)) : Calls Tryd.prog 15 #[.slice a m c] w fun e w' => ∃ v, e = .returned v ∧ ∃ b, v = .slice (some ⟨b, 0, none⟩) m m ∧ Mem w [] [some (b, blk (p.map vU8) 5)] w' := by
  obtain ⟨ti, hi, hz, hsz, hby⟩ := info_parts iu8
  refine calls_of_sw (vs := [.slice a m c]) Tryd.func15 rfl Tryd.ntmps15 rfl (SW.begin ?_)
  refine sw_seq ?_
  refine sw_region ?_
  refine ow_val (val_assign rfl) rfl ?_   -- 2
  refine ow_nil (into ?_)
  refine sw_seq ?_
  refine sw_region ?_
  refine ow_val (val_move rfl) rfl ?_   -- 4
  refine ow_val (val_len rfl Tryd.underlying22) rfl ?_   -- 5
  refine ow_make (o := blk ((List.replicate m (0 : UInt8)).map vU8) 5) (acts_make_to (vs := (List.replicate m (0 : UInt8)).map vU8) m m rfl rfl rfl rfl Tryd.underlying22 hi hz (Nat.le_refl _) (by rw [hby]; omega) (by omega) (by rw [hsz, Nat.mul_one]; exact made_u8 m)) rfl (fun b6 hb6 => ?_)
  refine ow_val (val_assign rfl) rfl ?_   -- 3
  refine ow_nil (into ?_)
  refine sw_seq ?_
  refine sw_region ?_
  refine ow_val (val_move rfl) rfl ?_   -- 7
  refine ow_val (val_move rfl) rfl ?_   -- 8
  refine ow_act_eq (acts_copy_to (size := 1) m (p.map vU8) 0 rfl rfl rfl Tryd.underlying22 Tryd.sizeOf5 (fun w' hm => hr.mem hm) (by simp [hpm]) (one_u8s _) (by simp) (by omega) (by simp [← hpm, List.take_of_length_le])) rfl ?_
  refine ow_nil (into ?_)
  refine sw_seq ?_
  refine sw_region ?_
  refine ow_val (val_move rfl) rfl ?_   -- 10
  refine ow_val (val_assign rfl) rfl ?_   -- 2
  refine ow_nil (into ?_)
  exact sw_ret (fun w hm => ret_one _ rfl rfl ⟨b6, rfl, hm⟩)

theorem same_any (a : Option Addr) (m c : Nat) (p : List UInt8) (hpm : p.length = m) (a2 : Option Addr) (m2 c2 : Nat) (q : List UInt8) (hqm : q.length = m2) (hl : m < 9223372036854775808) (hl2 : m2 < 9223372036854775808) (w : World) (hr : Rd w a (p.map vU8)) (hr2 : Rd w a2 (q.map vU8)) : Calls Tryd.prog 19 #[.slice a m c, .slice a2 m2 c2] w fun e w' => ∃ v, e = .returned v ∧ v = .bool (decide (p = q)) ∧ Mem w [] [] w' := by
  refine calls_of_sw (vs := [.slice a m c, .slice a2 m2 c2]) Tryd.func19 rfl Tryd.ntmps19 rfl (SW.begin ?_)
  refine sw_seq ?_
  refine sw_region ?_
  refine ow_val (val_assign rfl) rfl ?_   -- 4
  refine ow_nil (into ?_)
  refine sw_seq ?_
  refine sw_seq ?_
  refine sw_region ?_
  refine ow_val (val_move rfl) rfl ?_   -- 6
  refine ow_val (val_len rfl Tryd.underlying22) rfl ?_   -- 7
  refine ow_val (val_move rfl) rfl ?_   -- 8
  refine ow_val (val_len rfl Tryd.underlying22) rfl ?_   -- 9
  refine ow_val (val_neq_int rfl rfl) rfl ?_   -- 10
  refine ow_nil (into ?_)
  refine sw_if rfl (fun h0 => ?_) (fun h0 => ?_)
  · -- then
    refine sw_seq ?_
    refine sw_region ?_
    refine ow_val (val_assign rfl) rfl ?_   -- 4
    refine ow_nil (into ?_)
    refine sw_ret (fun w hm => ?_)
    try dsimp only [thenP, blockP, Nat.beq, cond]
    exact ret_one _ rfl rfl ⟨congrArg Value.bool (decide_eq_false (fun e => h0 (by rw [← hpm, ← hqm, e]))).symm, hm⟩
  · -- else
    obtain rfl : m = m2 := by omega
    refine sw_skip (into ?_)
    refine sw_seq ?_
    refine sw_seq ?_
    refine sw_region ?_
    refine ow_val (val_assign rfl) rfl ?_   -- 5
    refine ow_nil (into ?_)
    refine sw_block ?_
    refine sw_loop (σ := Nat) (fun i => i ≤ m ∧ ∀ k, k < i → p.getD k default = q.getD k default) (fun i => [(5, vInt (i : Int)), (0, .slice a m c), (1, .slice a2 m c2)]) (fun i => Mem w [] []) (fun i => m - i) 0 ⟨by omega, fun k hk => by omega⟩ ⟨rfl, rfl, rfl, trivial⟩ (fun w hm => hm) (fun i hi => ?_)
    obtain ⟨hi, halike⟩ := hi
    refine sw_seq ?_
    refine sw_seq ?_
    refine sw_region ?_
    refine ow_val (val_move rfl) rfl ?_   -- 11
    refine ow_val (val_move rfl) rfl ?_   -- 12
    refine ow_val (val_len rfl Tryd.underlying22) rfl ?_   -- 13
    refine ow_val (val_lss_int rfl rfl) rfl ?_   -- 14
    refine ow_nil (into ?_)
    refine sw_if rfl (fun h1 => ?_) (fun h1 => ?_)
    · -- then
      obtain ⟨b, o, rfl⟩ := hr.addr (by simp; omega)
      obtain ⟨b2, o2, rfl⟩ := hr2.addr (by simp; omega)
      refine sw_skip (into ?_)
      refine sw_seq ?_
      refine sw_block ?_
      refine sw_seq ?_
      refine sw_region_lex _ [] [(0, 0), (1, 0), (2, 0), (4, 0), (5, 0), (6, 0), (3, 1), (7, 1), (8, 0)] (by kernel_rfl) (by kernel_rfl) (fun _ _ _ h => h) (fun _ h => h) (fun _ h => h.drawn _) ?_
      refine lw_pure rfl (val_move rfl) rfl ?_   -- 17
      refine lw_pure rfl (val_move rfl) rfl ?_   -- 18
      refine lw_pure rfl (val_indexAddr_slice (i) (o + i) rfl rfl Tryd.underlying22 Tryd.sizeOf5 (by omega) (by omega) (by omega)) rfl ?_   -- 19
      refine lw_pure rfl (val_move rfl) rfl ?_   -- 21
      refine lw_pure rfl (val_move rfl) rfl ?_   -- 22
      refine lw_pure rfl (val_indexAddr_slice (i) (o2 + i) rfl rfl Tryd.underlying22 Tryd.sizeOf5 (by omega) (by omega) (by omega)) rfl ?_   -- 23
      refine lw_held rfl (val_load rfl Tryd.isAgg5 (fun w' hm => Rd.get (p := p) (k := i) (hr.mem hm) (by omega) (by omega))) rfl ?_   -- 20
      refine lw_held rfl (val_load rfl Tryd.isAgg5 (fun w' hm => Rd.get (p := q) (k := i) (hr2.mem hm) (by omega) (by omega))) rfl ?_   -- 24
      refine lw_pure rfl (val_neq_u8 rfl rfl) rfl ?_   -- 25
      refine lw_nil (into ?_)
      refine sw_if rfl (fun h2 => ?_) (fun h2 => ?_)
      · -- then
        refine sw_seq ?_
        refine sw_region ?_
        refine ow_val (val_assign rfl) rfl ?_   -- 4
        refine ow_nil (into ?_)
        refine sw_ret (fun w hm => ?_)
        try dsimp only [thenP, blockP, Nat.beq, cond]
        exact ret_one _ rfl rfl ⟨congrArg Value.bool (decide_eq_false (getD_ne h2)).symm, hm⟩
      · -- else
        refine sw_skip (into ?_)
        refine sw_region ?_
        refine ow_val (val_move rfl) rfl ?_   -- 15
        refine ow_val (val_add_int ((i + 1 : Nat) : Int) rfl rfl (by omega) (by omega)) rfl ?_   -- 16
        refine ow_val (val_assign rfl) rfl ?_   -- 5
        exact ow_nil (fun w hm => ⟨i + 1, ⟨by omega, fun k hk => by rcases Nat.lt_succ_iff_lt_or_eq.1 hk with h | rfl; exact halike k h; exact Classical.not_not.1 h2⟩, by omega, ⟨rfl, rfl, rfl, trivial⟩, hm⟩)
    · -- else
      obtain rfl : i = m := by omega
      refine sw_exit (into ?_)
      refine sw_seq ?_
      refine sw_region ?_
      refine ow_val (val_assign rfl) rfl ?_   -- 4
      refine ow_nil (into ?_)
      exact sw_ret (fun w hm => ret_one _ rfl rfl ⟨congrArg Value.bool (decide_eq_true (ext_getD (by omega) (fun k hk => halike k (by omega)))).symm, hm⟩)

def abcL : List UInt8 := [0xba, 0x78, 0x16, 0xbf, 0x8f, 0x01, 0xcf, 0xea, 0x41, 0x41, 0x40, 0xde, 0x5d, 0xae, 0x22, 0x23, 0xb0, 0x03, 0x61, 0xa3, 0x96, 0x17, 0x7a, 0x9c, 0xb4, 0x10, 0xff, 0x61, 0xf2, 0x00, 0x15, 0xad]
theorem sum256_len (p : List UInt8) : (sum256 p).length = 32 := Sh.sum_len _
theorem hash_abc : sum256 [97, 98, 99] = abcL := by decide +kernel

theorem abc_any (w : World) : Calls Tryd.prog 32 #[] w fun e w' => ∃ v, e = .returned v ∧ v = .agg (abcL.map vU8).toArray ∧ Mem w [] [] w' := by
  refine calls_of_sw (vs := []) Tryd.func32 rfl Tryd.ntmps32 rfl (SW.begin ?_)
  refine sw_seq ?_
  refine sw_region ?_
  refine ow_new (acts_alloc z24) rfl (fun b0 hb0 => ?_)   -- 0
  refine ow_nil (into ?_)
  refine sw_seq ?_
  refine sw_region ?_
  refine ow_val (val_build' (cs := abcL.map vU8) rfl (by kernel_rfl)) rfl ?_   -- 1
  refine ow_do_eq (does_store_all 0 rfl rfl rfl (one_u8s _) Tryd.sizeOf24 rfl (by first | rfl | simp)) ?_
  refine ow_nil (into ?_)
  exact sw_ret (fun w hm => ret_cell 0 rfl rfl hm rfl Tryd.isAgg24 Tryd.sizeOf24 rfl ⟨rfl, hm.forgetAll⟩)

theorem awake_any (w : World) (hK : KW w) : Calls Tryd.prog 13 #[] w fun e w' => ∃ v, e = .returned v ∧ v = .bool true ∧ Mem w [] [] w' := by
  obtain ⟨D, hD⟩ : ∃ D, sum256 [97, 98, 99] = D := ⟨_, rfl⟩
  have hDl : D.length = 32 := by rw [← hD]; exact sum256_len _
  have hDa : D = abcL := by rw [← hD]; exact hash_abc
  obtain ⟨S1, hS1⟩ : ∃ S1, Sh.zero.write [97] = S1 := ⟨_, rfl⟩
  obtain ⟨S2, hS2⟩ : ∃ S2, S1.write [98, 99] = S2 := ⟨_, rfl⟩
  have hok1 : S1.ok := hS1 ▸ Sh.write_ok Sh.zero_ok [97]
  have hok2 : S2.ok := hS2 ▸ Sh.write_ok hok1 [98, 99]
  have hSa : S2.sum = abcL := by
    rw [sum_hash S2 [97, 98, 99] (by rw [← hS2, ← hS1, write_write]; rfl), ← sum256_hash]; exact hash_abc
  refine calls_of_sw (vs := []) Tryd.func13 rfl Tryd.ntmps13 rfl (SW.begin ?_)
  refine sw_seq ?_
  refine sw_region ?_
  refine ow_val (val_assign rfl) rfl ?_   -- 0
  refine ow_nil (into ?_)
  refine sw_seq ?_
  refine sw_region ?_
  refine ow_call_blk (fun b => .pointer (some ⟨b, 0, none⟩)) (callsTo Tryd.func26 rfl (by kernel_rfl) rfl) rfl (fun w hm => new_any w) (fun b2 hb2 => ?_)   -- 2
  refine ow_val (val_assign rfl) rfl ?_   -- 1
  refine ow_nil (into ?_)
  refine sw_seq ?_
  refine sw_seq ?_
  refine sw_region ?_
  refine ow_val (val_move rfl) rfl ?_   -- 3
  refine ow_val (val_eql_nilptr Tryd.underlying42 rfl rfl) rfl ?_   -- 4
  refine ow_val (val_move rfl) rfl ?_   -- 5
  refine ow_guard_yes rfl rfl rfl ?_
  refine ow_make (acts_buildSlice (cs := ([97, 98, 99] : List UInt8).map vU8) Tryd.underlying22 Tryd.sizeOf5 Tryd.zeroValue5 rfl rfl (by kernel_rfl)) rfl (fun b6 hb6 => ?_)   -- 6
  refine ow_guard_yes rfl rfl rfl ?_
  refine ow_act_eq (acts_convert_bytes 0 rfl rfl Tryd.underlying22 Tryd.underlying5) rfl ?_   -- 7
  refine ow_guard_yes rfl rfl rfl ?_
  refine ow_call_pure (v := .agg (D.map vU8).toArray) (callsTo Tryd.func14 rfl (by kernel_rfl) rfl) rfl (fun w hm => by rw [← hD]; exact sum256_any _ _ _ [97, 98, 99] rfl w (hK.mem0 hm) (Rd.mrk (hm.at (i := 0) rfl)) (Nat.le_refl _) (by decide)) ?_   -- 8
  refine ow_guard_yes rfl rfl rfl ?_
  refine ow_call_pure (callsTo Tryd.func32 rfl (by kernel_rfl) rfl) rfl (fun w hm => abc_any w) ?_   -- 9
  by_cases h7 : D ≠ abcL
  · -- yes
    refine ow_guard_yes rfl rfl rfl ?_
    refine ow_val ((val_neq_u8s rfl rfl Tryd.eqGuardType24 Tryd.underlying24 Tryd.underlying5 Tryd.sizeOf5 Tryd.isAgg5 hDl rfl).to (congrArg Value.bool (show _ = true by simpa using h7))) rfl ?_   -- 10
    refine ow_val (val_pick_false rfl rfl) rfl ?_   -- 11
    refine ow_nil (into ?_)
    refine sw_true rfl rfl ?_
    refine sw_seq ?_
    refine sw_region ?_
    refine ow_val (val_assign rfl) rfl ?_   -- 0
    refine ow_nil (into ?_)
    refine sw_ret (fun w hm => ?_)
    try dsimp only [thenP, blockP, Nat.beq, cond]
    exact absurd hDa h7
  · -- no
    refine ow_guard_yes rfl rfl rfl ?_
    refine ow_val ((val_neq_u8s rfl rfl Tryd.eqGuardType24 Tryd.underlying24 Tryd.underlying5 Tryd.sizeOf5 Tryd.isAgg5 hDl rfl).to (congrArg Value.bool (show _ = false by simpa using h7))) rfl ?_   -- 10
    refine ow_val (val_pick_false rfl rfl) rfl ?_   -- 11
    refine ow_nil (into ?_)
    refine sw_false rfl rfl ?_
    refine sw_skip (into ?_)
    refine sw_seq ?_
    refine sw_region ?_
    refine ow_val (val_move rfl) rfl ?_   -- 12
    refine ow_make (acts_buildSlice (cs := ([97] : List UInt8).map vU8) Tryd.underlying22 Tryd.sizeOf5 Tryd.zeroValue5 rfl rfl (by kernel_rfl)) rfl (fun b13 hb13 => ?_)   -- 13
    refine ow_act_eq (acts_convert_bytes 0 rfl rfl Tryd.underlying22 Tryd.underlying5) rfl ?_   -- 14
    refine ow_call_turn (o' := blk (shCells S1) 52) 2 rfl (callsTo Tryd.func27 rfl (by kernel_rfl) rfl) rfl (fun w hm => by rw [← hS1]; exact write_any b2 Sh.zero Sh.zero_ok _ _ _ ([97] : List UInt8) rfl w (hm.at (i := 2) rfl) (hK.mem0 hm) (by have := hK.pos; simp; omega) (Rd.mrk (hm.at (i := 0) rfl)) (fun _ b' o' e => by simp only [Option.some.injEq, Addr.mk.injEq, and_true] at e; rw [← e.1]; simpa using hm.ne (i := 0) (j := 2) rfl rfl (by omega)) (Nat.le_refl _) (by decide)) ?_
    refine ow_nil (into ?_)
    refine sw_seq ?_
    refine sw_region ?_
    refine ow_val (val_move rfl) rfl ?_   -- 16
    refine ow_make (acts_buildSlice (cs := ([98, 99] : List UInt8).map vU8) Tryd.underlying22 Tryd.sizeOf5 Tryd.zeroValue5 rfl rfl (by kernel_rfl)) rfl (fun b17 hb17 => ?_)   -- 17
    refine ow_act_eq (acts_convert_bytes 0 rfl rfl Tryd.underlying22 Tryd.underlying5) rfl ?_   -- 18
    refine ow_call_turn (o' := blk (shCells S2) 52) 3 rfl (callsTo Tryd.func27 rfl (by kernel_rfl) rfl) rfl (fun w hm => by rw [← hS2]; exact write_any b2 S1 hok1 _ _ _ ([98, 99] : List UInt8) rfl w (hm.at (i := 3) rfl) (hK.mem0 hm) (by have := hK.pos; simp; omega) (Rd.mrk (hm.at (i := 0) rfl)) (fun _ b' o' e => by simp only [Option.some.injEq, Addr.mk.injEq, and_true] at e; rw [← e.1]; simpa using hm.ne (i := 0) (j := 3) rfl rfl (by omega)) (Nat.le_refl _) (by decide)) ?_
    refine ow_nil (into ?_)
    refine sw_seq ?_
    refine sw_region ?_
    refine ow_val (val_move rfl) rfl ?_   -- 20
    refine ow_call_pure (callsTo Tryd.func28 rfl (by kernel_rfl) rfl) rfl (fun w hm => sum_any b2 S2 hok2 w (hm.at (i := 3) rfl) (hK.mem0 hm)) ?_   -- 21
    refine ow_call_pure (callsTo Tryd.func32 rfl (by kernel_rfl) rfl) rfl (fun w hm => abc_any w) ?_   -- 22
    refine ow_val (val_eql_u8s rfl rfl Tryd.eqGuardType24 Tryd.underlying24 Tryd.underlying5 Tryd.sizeOf5 Tryd.isAgg5 (by simp [Sh.sum_len]) rfl) rfl ?_   -- 23
    refine ow_val (val_assign rfl) rfl ?_   -- 0
    refine ow_nil (into ?_)
    refine sw_ret (fun w hm => ?_)
    try dsimp only [thenP, blockP, Nat.beq, cond]
    exact ret_one _ rfl rfl ⟨congrArg Value.bool (decide_eq_true hSa), hm.forgetAll⟩

theorem shaPads_any (n : UInt64) (w : World) (hK : KW w) : Calls Tryd.prog 5 #[vU64 n] w fun e w' => ∃ v, e = .returned v ∧ v = .bool true ∧ Mem w [] [] w' := by
  have hPl : (padding n).length < 9223372036854775808 := by rw [padding_len]; have := padZeros_lt n; omega
  refine calls_of_sw (vs := [vU64 n]) Tryd.func5 rfl Tryd.ntmps5 rfl (SW.begin ?_)
  refine sw_seq ?_
  refine sw_region ?_
  refine ow_val (val_assign rfl) rfl ?_   -- 2
  refine ow_nil (into ?_)
  refine sw_seq ?_
  refine sw_region ?_
  refine ow_call_pure (callsTo Tryd.func13 rfl (by kernel_rfl) rfl) rfl (fun w hm => awake_any w (hK.mem0 hm)) ?_   -- 3
  refine ow_val (val_move rfl) rfl ?_   -- 4
  refine ow_guard_yes rfl rfl rfl ?_
  refine ow_val (val_move rfl) rfl ?_   -- 5
  refine ow_guard_yes rfl rfl rfl ?_
  refine ow_call_blk (fun b => .slice (some ⟨b, 0, none⟩) (padding n).length (padding n).length) (callsTo Tryd.func20 rfl (by kernel_rfl) rfl) rfl (fun w hm => padding_any n w) (fun b6 hb6 => ?_)   -- 6
  refine ow_guard_yes rfl rfl rfl ?_
  refine ow_val (val_move rfl) rfl ?_   -- 7
  refine ow_guard_yes rfl rfl rfl ?_
  refine ow_call_row (E := 5) (size := 1) (k := (padding n).length) (xs := (padding n).map vU8) (callsTo Tryd.func21 rfl (by kernel_rfl) rfl) rfl (fun w hm => docPadding_any n w) (fun a8 c8 e8 hr8 => ?_)   -- 8
  refine ow_guard_yes rfl rfl rfl ?_
  refine ow_call_pure (callsTo Tryd.func19 rfl (by kernel_rfl) rfl) rfl (fun w hm => same_any _ _ _ (padding n) rfl _ _ _ (padding n) rfl hPl hPl w (Rd.blk (hm.at (i := 1) rfl)) (hr8.rdAt hm (i := 0) rfl)) ?_   -- 9
  refine ow_val (val_pick_true rfl rfl) rfl ?_   -- 10
  refine ow_val (val_assign rfl) rfl ?_   -- 2
  refine ow_nil (into ?_)
  exact sw_ret (fun w hm => ret_one _ rfl rfl ⟨congrArg Value.bool (decide_eq_true rfl), hm.forgetAll⟩)
end Go.Proofs.YtiagaoeaploijaaDoor
