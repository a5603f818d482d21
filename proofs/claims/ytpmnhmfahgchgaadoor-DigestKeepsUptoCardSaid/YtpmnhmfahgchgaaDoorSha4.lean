import Derived.Test.YtpmnhmfahgchgaaDoorSha3
import Derived.Test.YtpmnhmfahgchgaaDoorProg
set_option linter.unusedVariables false
set_option linter.unusedSimpArgs false
namespace Go.Proofs.YtpmnhmfahgchgaaDoor
open Go.Sx Go.Ps

theorem pad_more (n : UInt64) (k : Nat) (hk : k ≤ (padZeros n).toNat) : ((n % 64 + UInt64.ofNat (1 + k) + 8) % 64 ≠ 0) ↔ k ≠ (padZeros n).toNat := by
  have h := padZeros_toNat n
  have e : ((n % 64 + UInt64.ofNat (1 + k) + 8) % 64).toNat = (n.toNat % 64 + (1 + k) + 8) % 64 := by
    simp only [UInt64.toNat_mod, UInt64.toNat_add, UInt64.toNat_ofNat', show (64 : UInt64).toNat = 64 from rfl, show (8 : UInt64).toNat = 8 from rfl]; omega
  rw [ne_eq, ← UInt64.toNat_inj, e, show (0 : UInt64).toNat = 0 from rfl]; omega
theorem padHead_succ (k : Nat) : (padHead (k + 1)).map vU8 = (padHead k).map vU8 ++ [vU8 0] := by
  simp [padHead, List.replicate_succ']
theorem padTail_succ (n : UInt64) (j : Nat) : padTail n (j + 1) = padTail n j ++ [((8 * n) >>> UInt64.ofNat (8 * (7 - j))).toUInt8] := by
  simp [padTail, List.range_succ]

theorem docPadding_any (n : UInt64) (w : World) : Calls Tryd.prog 110 #[vU64 n] w fun e w' => ∃ v, e = .returned v ∧ ∃ e', RowE v 5 1 (padding n).length ((padding n).map vU8) e' ∧ Mem w [] [e'] w' := by
  obtain ⟨ti, hi, hz, hsz, hby⟩ := info_parts iu8
  obtain ⟨z, hz0⟩ : ∃ z, (padZeros n).toNat = z := ⟨_, rfl⟩
  have hz1 := padZeros_lt n
  refine calls_of_sw (vs := [vU64 n]) Tryd.func110 rfl Tryd.ntmps110 rfl (SW.begin ?_)
  refine sw_seq ?_
  refine sw_region ?_
  refine ow_val (val_assign rfl) rfl ?_   -- 2
  refine ow_nil (into ?_)
  refine sw_seq ?_
  refine sw_region ?_
  refine ow_make (acts_buildSlice (cs := ([128] : List UInt8).map vU8) Tryd.underlying25 Tryd.sizeOf5 Tryd.zeroValue5 rfl rfl (by kernel_rfl)) rfl (fun b5 hb5 => ?_)   -- 5
  refine ow_val (val_assign rfl) rfl ?_   -- 3
  refine ow_nil (into ?_)
  refine sw_seq ?_
  refine sw_block ?_
  refine sw_loop (σ := Option Addr × Nat × Nat × Ent) (fun x => x.2.2.1 ≤ z ∧ RowE (.slice x.1 (1 + x.2.2.1) x.2.1) 5 1 (1 + x.2.2.1) ((padHead x.2.2.1).map vU8) x.2.2.2) (fun x => [(3, .slice x.1 (1 + x.2.2.1) x.2.1), (0, vU64 n)]) (fun x => Mem w [] [x.2.2.2]) (fun x => z - x.2.2.1) (some ⟨b5, 0, none⟩, 1, 0, _) ⟨Nat.zero_le _, RowE.full rfl (show 1 + 0 ≤ 9223372036854775807 by omega)⟩ ⟨rfl, rfl, trivial⟩ (fun w hm => hm) ?_
  rintro ⟨a, c, k, e⟩ ⟨hk, hrow⟩
  simp only at hk hrow ⊢
  refine sw_seq ?_
  refine sw_seq ?_
  refine sw_region ?_
  refine ow_val (val_move rfl) rfl ?_   -- 6
  refine ow_val (val_rem_u64 rfl rfl (by decide)) rfl ?_   -- 7
  refine ow_val (val_move rfl) rfl ?_   -- 8
  refine ow_val (val_len rfl Tryd.underlying25) rfl ?_   -- 9
  refine ow_val (val_conv_n_u64 (1 + k) Tryd.underlying3 Tryd.underlying46 rfl rfl) rfl ?_   -- 10
  refine ow_val (val_add_u64 rfl rfl) rfl ?_   -- 11
  refine ow_val (val_add_u64 rfl rfl) rfl ?_   -- 12
  refine ow_val (val_rem_u64 rfl rfl (by decide)) rfl ?_   -- 13
  refine ow_val (val_neq_u64 rfl rfl) rfl ?_   -- 14
  refine ow_nil (into ?_)
  refine sw_if rfl (fun h0 => ?_) (fun h0 => ?_)
  · -- then
    have hkz : k ≠ z := by rw [← hz0]; exact (pad_more n k (by omega)).1 h0
    refine sw_skip (into ?_)
    refine sw_block ?_
    refine sw_region ?_
    refine ow_val (val_move rfl) rfl ?_   -- 15
    refine ow_make (acts_buildSlice (cs := ([0] : List UInt8).map vU8) Tryd.underlying25 Tryd.sizeOf5 Tryd.zeroValue5 rfl rfl (by kernel_rfl)) rfl (fun b16 hb16 => ?_)   -- 16
    refine ow_append' (k := 1 + k + 1) (acts_append (size := 1) (bytes := 1) 1 rfl rfl rfl hrow rfl Tryd.underlying25 hi hz hsz hby rfl (by decide) (fun w hm => Rd.blk (hm.at (i := 0) rfl)) (by rfl) (one_u8s _) (by omega) (by omega)) rfl (fun a1 c1 e1 hr1 => ?_)   -- 17
    refine ow_val (val_assign rfl) rfl ?_   -- 3
    exact ow_nil (fun w hm => ⟨(a1, c1, k + 1, e1), ⟨(by dsimp only; omega), hr1.cong rfl (by dsimp only; omega) (padHead_succ k).symm⟩, by simp only; omega, ⟨rfl, rfl, trivial⟩, hm.forget⟩)
  · -- else
    obtain rfl : k = z := by
      rcases Nat.lt_or_ge k z with h | h
      · exact absurd ((pad_more n k (by omega)).2 (by omega)) h0
      · omega
    refine sw_exit (into ?_)
    refine sw_seq ?_
    refine sw_seq ?_
    refine sw_region ?_
    refine ow_val (val_assign rfl) rfl ?_   -- 4
    refine ow_nil (into ?_)
    refine sw_block ?_
    clear h0 hk
    refine sw_loop (σ := Option Addr × Nat × Nat × Ent) (fun x => x.2.2.1 ≤ 8 ∧ RowE (.slice x.1 (1 + k + x.2.2.1) x.2.1) 5 1 (1 + k + x.2.2.1) ((padHead k ++ padTail n x.2.2.1).map vU8) x.2.2.2) (fun x => [(4, vInt (7 - (x.2.2.1 : Int))), (3, .slice x.1 (1 + k + x.2.2.1) x.2.1), (0, vU64 n)]) (fun x => Mem w [] [x.2.2.2]) (fun x => 8 - x.2.2.1) (a, c, 0, e) ⟨Nat.zero_le _, hrow.cong rfl rfl (by simp [padTail])⟩ ⟨rfl, rfl, rfl, trivial⟩ (fun w hm => hm) ?_
    rintro ⟨a, c, j, e⟩ ⟨hj, hrow⟩
    simp only at hj hrow ⊢
    refine sw_seq ?_
    refine sw_seq ?_
    refine sw_region ?_
    refine ow_val (val_move rfl) rfl ?_   -- 18
    refine ow_val (val_geq_int rfl rfl) rfl ?_   -- 19
    refine ow_nil (into ?_)
    refine sw_if rfl (fun h1 => ?_) (fun h1 => ?_)
    · -- then
      refine sw_skip (into ?_)
      refine sw_seq ?_
      refine sw_block ?_
      refine sw_region ?_
      refine ow_val (val_move rfl) rfl ?_   -- 22
      refine ow_val (val_move rfl) rfl ?_   -- 23
      refine ow_val (val_mul_u64 rfl rfl) rfl ?_   -- 24
      refine ow_val (val_move rfl) rfl ?_   -- 25
      refine ow_val (val_mul_int ((8 * (7 - j) : Nat) : Int) rfl rfl (by omega) (by omega)) rfl ?_   -- 26
      refine ow_val (val_shr_u64 (8 * (7 - j)) rfl rfl (by first | rfl | omega) (by omega)) rfl ?_   -- 27
      refine ow_val (val_conv_u64_u8 Tryd.underlying46 Tryd.underlying5 rfl) rfl ?_   -- 28
      refine ow_make (acts_buildSlice (cs := ([((8 * n) >>> UInt64.ofNat (8 * (7 - j))).toUInt8] : List UInt8).map vU8) Tryd.underlying25 Tryd.sizeOf5 Tryd.zeroValue5 rfl rfl (by kernel_rfl)) rfl (fun b29 hb29 => ?_)   -- 29
      refine ow_append' (k := 1 + k + j + 1) (acts_append (size := 1) (bytes := 1) 1 rfl rfl rfl hrow rfl Tryd.underlying25 hi hz hsz hby rfl (by decide) (fun w hm => Rd.blk (hm.at (i := 0) rfl)) (by rfl) (one_u8s _) (by omega) (by omega)) rfl (fun a1 c1 e1 hr1 => ?_)   -- 30
      refine ow_val (val_assign rfl) rfl ?_   -- 3
      refine ow_nil (into ?_)
      refine sw_region ?_
      refine ow_val (val_move rfl) rfl ?_   -- 20
      refine ow_val (val_sub_int (7 - ((j + 1 : Nat) : Int)) rfl rfl (by omega) (by omega)) rfl ?_   -- 21
      refine ow_val (val_assign rfl) rfl ?_   -- 4
      exact ow_nil (fun w hm => ⟨(a1, c1, j + 1, e1), ⟨(by dsimp only; omega), hr1.cong rfl (by dsimp only; omega) (by dsimp only; rw [padTail_succ, ← List.append_assoc, List.map_append (l₁ := padHead k ++ padTail n j)])⟩, by simp only; omega, ⟨rfl, rfl, rfl, trivial⟩, hm.forget⟩)
    · -- else
      obtain rfl : j = 8 := by omega
      refine sw_exit (into ?_)
      refine sw_seq ?_
      refine sw_region ?_
      refine ow_val (val_move rfl) rfl ?_   -- 31
      refine ow_val (val_assign rfl) rfl ?_   -- 2
      refine ow_nil (into ?_)
      exact sw_ret (fun w hm => ret_one _ rfl rfl ⟨e, hrow.cong rfl (by rw [← docPad_eq, docPad, List.length_append, padHead_len, padTail_len, hz0]) (by rw [← docPad_eq, docPad, hz0]), hm⟩)
end Go.Proofs.YtpmnhmfahgchgaaDoor
