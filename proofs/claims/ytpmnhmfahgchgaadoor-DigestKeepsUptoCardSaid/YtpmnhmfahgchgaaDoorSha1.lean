import Derived.Test.YtpmnhmfahgchgaaDoorShaV
import Derived.Test.YtpmnhmfahgchgaaDoorProg
set_option linter.unusedVariables false
set_option linter.unusedSimpArgs false
namespace Go.Proofs.YtpmnhmfahgchgaaDoor
open Go.Sx Go.Ps

theorem z131 (w : World) : (zeroValue 131).run Tryd.prog w = .ok (.agg ((List.replicate 64 (0 : UInt32)).map vU32).toArray) w := by kernel_rfl
theorem z114 (w : World) : (zeroValue 114).run Tryd.prog w = .ok (.agg ((List.replicate 8 (0 : UInt32)).map vU32).toArray) w := by kernel_rfl
theorem z26 (w : World) : (zeroValue 26).run Tryd.prog w = .ok (.agg ((List.replicate 32 (0 : UInt8)).map vU8).toArray) w := by kernel_rfl
theorem z115 (w : World) : (zeroValue 115).run Tryd.prog w = .ok (.agg ((List.replicate 64 (0 : UInt8)).map vU8).toArray) w := by kernel_rfl
theorem z117 (w : World) : (zeroValue 117).run Tryd.prog w = .ok (.agg (shCells Sh.zero).toArray) w := by kernel_rfl


theorem rot_count : ∀ k : Fin 32, 0 < k.val → UInt64.ofInt (-(k.val : Int)) &&& UInt64.ofNat (Int.toNat 31) = UInt64.ofNat (32 - k.val) := by decide
theorem rot_left (k : Nat) (hk : 0 < k) (hk2 : k < 32) : (((UInt64.ofInt (-(k : Int)) &&& UInt64.ofNat (Int.toNat 31)).toNat : Nat) : Int) = ((32 - k : Nat) : Int) := by
  have := rot_count ⟨k, hk2⟩ hk
  simp only at this
  rw [this, UInt64.toNat_ofNat']; omega
theorem rot_right' : ∀ k : Fin 32, 0 < k.val → (UInt64.ofNat (Int.toNat 32) - UInt64.ofNat (32 - k.val)).toNat = k.val := by decide
theorem rot_right (k : Nat) (hk : 0 < k) (hk2 : k < 32) : (((UInt64.ofNat (Int.toNat 32) - (UInt64.ofInt (-(k : Int)) &&& UInt64.ofNat (Int.toNat 31))).toNat : Nat) : Int) = ((k : Nat) : Int) := by
  have := rot_count ⟨k, hk2⟩ hk
  have h2 := rot_right' ⟨k, hk2⟩ hk
  simp only at this h2
  rw [this, h2]

theorem rot_any (x : UInt32) (k : Nat) (hk : 0 < k) (hk2 : k < 32) (w : World) : Calls Tryd.prog 111 #[vU32 x, vInt (-(k : Int))] w fun e w' => ∃ v, e = .returned v ∧ v = vU32 (ror x k) ∧ Mem w [] [] w' := by
  refine calls_of_sw (vs := [vU32 x, vInt (-(k : Int))]) Tryd.func111 rfl Tryd.ntmps111 rfl (SW.begin ?_)
  refine sw_seq ?_
  refine sw_region ?_
  refine ow_val (val_assign rfl) rfl ?_   -- 4
  refine ow_nil (into ?_)
  refine sw_seq ?_
  refine sw_region ?_
  refine ow_val (val_move rfl) rfl ?_   -- 6
  refine ow_val (val_conv_i64_u64 Tryd.underlying3 Tryd.underlying132 rfl) rfl ?_   -- 7
  refine ow_val (val_and_u64 rfl rfl) rfl ?_   -- 8
  refine ow_val (val_assign rfl) rfl ?_   -- 5
  refine ow_nil (into ?_)
  refine sw_seq ?_
  refine sw_region ?_
  refine ow_val (val_move rfl) rfl ?_   -- 9
  refine ow_val (val_move rfl) rfl ?_   -- 10
  refine ow_val (val_shl_u32 (32 - k) rfl rfl (rot_left k hk hk2) (by omega)) rfl ?_   -- 11
  refine ow_val (val_move rfl) rfl ?_   -- 12
  refine ow_val (val_move rfl) rfl ?_   -- 13
  refine ow_val (val_sub_u64 rfl rfl) rfl ?_   -- 14
  refine ow_val (val_shr_u32 k rfl rfl (rot_right k hk hk2) hk2) rfl ?_   -- 15
  refine ow_val (val_or_u32 rfl rfl) rfl ?_   -- 16
  refine ow_val (val_assign rfl) rfl ?_   -- 4
  refine ow_nil (into ?_)
  exact sw_ret (fun w hm => ret_one _ rfl rfl ⟨rfl, hm⟩)

theorem right_any (x : UInt32) (k : Nat) (hk : 0 < k) (hk2 : k < 32) (w : World) : Calls Tryd.prog 107 #[vU32 x, vInt (k : Int)] w fun e w' => ∃ v, e = .returned v ∧ v = vU32 (ror x k) ∧ Mem w [] [] w' := by
  refine calls_of_sw (vs := [vU32 x, vInt (k : Int)]) Tryd.func107 rfl Tryd.ntmps107 rfl (SW.begin ?_)
  refine sw_seq ?_
  refine sw_region ?_
  refine ow_val (val_assign rfl) rfl ?_   -- 4
  refine ow_nil (into ?_)
  refine sw_seq ?_
  refine sw_region ?_
  refine ow_val (val_move rfl) rfl ?_   -- 5
  refine ow_val (val_move rfl) rfl ?_   -- 6
  refine ow_val (val_neg_int _ rfl rfl (by omega)) rfl ?_   -- 7
  refine ow_call_pure (callsTo Tryd.func111 rfl (by kernel_rfl) rfl) rfl (fun w hm => rot_any _ k hk hk2 w) ?_   -- 8
  refine ow_val (val_assign rfl) rfl ?_   -- 4
  refine ow_nil (into ?_)
  exact sw_ret (fun w hm => ret_one _ rfl rfl ⟨rfl, hm⟩)

set_option maxRecDepth 10000 in
theorem comp_any (h : List UInt32) (bl : List UInt8) (hh : h.length = 8) (hb : bl.length = 64) (w : World) (hK : KW w) : Calls Tryd.prog 88 #[.agg (h.map vU32).toArray, .agg (bl.map vU8).toArray] w fun e w' => ∃ v, e = .returned v ∧ v = .agg ((compress h bl).map vU32).toArray ∧ Mem w [] [] w' := by
  refine calls_of_sw (vs := [.agg (h.map vU32).toArray, .agg (bl.map vU8).toArray]) Tryd.func88 rfl Tryd.ntmps88 rfl (SW.begin ?_)
  refine sw_seq ?_
  refine sw_region ?_
  refine ow_new (acts_box rfl) rfl (fun b2 hb2 => ?_)   -- 2
  refine ow_new (acts_box rfl) rfl (fun b3 hb3 => ?_)   -- 3
  refine ow_new (acts_alloc z114) rfl (fun b4 hb4 => ?_)   -- 4
  refine ow_nil (into ?_)
  refine sw_seq ?_
  refine sw_region ?_
  refine ow_new (acts_alloc z131) rfl (fun b5 hb5 => ?_)   -- 5
  refine ow_nil (into ?_)
  refine sw_seq ?_
  refine sw_seq ?_
  refine sw_region ?_
  refine ow_val (val_move rfl) rfl ?_   -- 25
  refine ow_nil (into ?_)
  refine sw_block ?_
  refine sw_loop (σ := Nat) (fun k => k ≤ 16) (fun k => [(25, vInt (k : Int)), (2, .pointer (some ⟨b2, 0, none⟩)), (3, .pointer (some ⟨b3, 0, none⟩)), (4, .pointer (some ⟨b4, 0, none⟩)), (5, .pointer (some ⟨b5, 0, none⟩))]) (fun k => Mem w [] [some (b5, blk ((fill1 bl k).map vU32) 131), some (b4, blk ((List.replicate 8 (0 : UInt32)).map vU32) 114), some (b3, blk (bl.map vU8) 115), some (b2, blk ((h).map vU32) 114)]) (fun k => 16 - k) 0 (by omega) ⟨rfl, rfl, rfl, rfl, rfl, trivial⟩ (fun w hm => hm) (fun k hk => ?_)
  have hW := fill1_len bl k
  refine sw_seq ?_
  refine sw_region ?_
  refine ow_val (val_lss_int rfl rfl) rfl ?_   -- 26
  refine ow_nil (into ?_)
  refine sw_seq ?_
  refine sw_if rfl (fun h0 => ?_) (fun h0 => ?_)
  · -- then
    refine sw_skip (into ?_)
    refine sw_seq ?_
    refine sw_block ?_
    refine sw_seq ?_
    refine sw_region ?_
    refine ow_val (val_move rfl) rfl ?_   -- 27
    refine ow_val (val_assign rfl) rfl ?_   -- 6
    refine ow_nil (into ?_)
    refine sw_region_lex _ [31] [(0, 0), (1, 0), (2, 0), (3, 0), (7, 0), (8, 0), (9, 0), (10, 0), (15, 0), (16, 0), (17, 0), (18, 0), (23, 0), (24, 0), (25, 0), (26, 0), (4, 1), (5, 0), (6, 0), (11, 1), (12, 0), (13, 0), (14, 0), (19, 1), (20, 0), (21, 0), (22, 0), (27, 1), (28, 0), (29, 0), (30, 0), (31, 2)] (by kernel_rfl) (by kernel_rfl) (fun _ _ _ h => h) (fun _ h => h) (fun _ h => h.drawn _) ?_
    refine lw_pure rfl (val_move rfl) rfl ?_   -- 28
    refine lw_pure rfl (val_move rfl) rfl ?_   -- 29
    refine lw_pure rfl (val_mul_int ((4 * k : Nat) : Int) rfl rfl (by omega) (by omega)) rfl ?_   -- 30
    refine lw_pure rfl (val_indexAddr (4 * k) (4 * k) rfl rfl Tryd.underlying115 Tryd.sizeOf5 (by omega) (by omega) (by omega)) rfl ?_   -- 31
    refine lw_pure rfl (val_move rfl) rfl ?_   -- 35
    refine lw_pure rfl (val_mul_int ((4 * k : Nat) : Int) rfl rfl (by omega) (by omega)) rfl ?_   -- 36
    refine lw_pure rfl (val_add_int ((4 * k + 1 : Nat) : Int) rfl rfl (by omega) (by omega)) rfl ?_   -- 37
    refine lw_pure rfl (val_indexAddr (4 * k + 1) (4 * k + 1) rfl rfl Tryd.underlying115 Tryd.sizeOf5 (by omega) (by omega) (by omega)) rfl ?_   -- 38
    refine lw_pure rfl (val_move rfl) rfl ?_   -- 43
    refine lw_pure rfl (val_mul_int ((4 * k : Nat) : Int) rfl rfl (by omega) (by omega)) rfl ?_   -- 44
    refine lw_pure rfl (val_add_int ((4 * k + 2 : Nat) : Int) rfl rfl (by omega) (by omega)) rfl ?_   -- 45
    refine lw_pure rfl (val_indexAddr (4 * k + 2) (4 * k + 2) rfl rfl Tryd.underlying115 Tryd.sizeOf5 (by omega) (by omega) (by omega)) rfl ?_   -- 46
    refine lw_pure rfl (val_move rfl) rfl ?_   -- 51
    refine lw_pure rfl (val_mul_int ((4 * k : Nat) : Int) rfl rfl (by omega) (by omega)) rfl ?_   -- 52
    refine lw_pure rfl (val_add_int ((4 * k + 3 : Nat) : Int) rfl rfl (by omega) (by omega)) rfl ?_   -- 53
    refine lw_pure rfl (val_indexAddr (4 * k + 3) (4 * k + 3) rfl rfl Tryd.underlying115 Tryd.sizeOf5 (by omega) (by omega) (by omega)) rfl ?_   -- 54
    refine lw_held rfl (val_load_at 2 rfl rfl Tryd.isAgg5 (get_map _ _ _ (by omega))) rfl ?_   -- 32
    refine lw_pure rfl (val_conv_u8_u32 Tryd.underlying5 Tryd.underlying113 rfl) rfl ?_   -- 33
    refine lw_pure rfl (val_shl_u32 (24) rfl rfl (by first | rfl | omega) (by omega)) rfl ?_   -- 34
    refine lw_held rfl (val_load_at 2 rfl rfl Tryd.isAgg5 (get_map _ _ _ (by omega))) rfl ?_   -- 39
    refine lw_pure rfl (val_conv_u8_u32 Tryd.underlying5 Tryd.underlying113 rfl) rfl ?_   -- 40
    refine lw_pure rfl (val_shl_u32 (16) rfl rfl (by first | rfl | omega) (by omega)) rfl ?_   -- 41
    refine lw_pure rfl (val_or_u32 rfl rfl) rfl ?_   -- 42
    refine lw_held rfl (val_load_at 2 rfl rfl Tryd.isAgg5 (get_map _ _ _ (by omega))) rfl ?_   -- 47
    refine lw_pure rfl (val_conv_u8_u32 Tryd.underlying5 Tryd.underlying113 rfl) rfl ?_   -- 48
    refine lw_pure rfl (val_shl_u32 (8) rfl rfl (by first | rfl | omega) (by omega)) rfl ?_   -- 49
    refine lw_pure rfl (val_or_u32 rfl rfl) rfl ?_   -- 50
    refine lw_held rfl (val_load_at 2 rfl rfl Tryd.isAgg5 (get_map _ _ _ (by omega))) rfl ?_   -- 55
    refine lw_pure rfl (val_conv_u8_u32 Tryd.underlying5 Tryd.underlying113 rfl) rfl ?_   -- 56
    refine lw_pure rfl (val_or_u32 rfl rfl) rfl ?_   -- 57
    refine lw_pure rfl (val_indexAddr (k) (k) rfl rfl Tryd.underlying131 Tryd.sizeOf113 (by omega) (by omega) (by omega)) rfl ?_   -- 58
    refine lw_do rfl (does_store_map (V := vU32) 0 rfl rfl rfl rfl Tryd.sizeOf113 (by omega)) (fun h => nomatch h) (fun _ _ => ?_)
    refine lw_nil (into ?_)
    refine sw_region ?_
    refine ow_val (val_add_int ((k + 1 : Nat) : Int) rfl rfl (by omega) (by omega)) rfl ?_   -- 59
    refine ow_val (val_move rfl) rfl ?_   -- 25
    exact ow_nil (fun w hm => ⟨k + 1, by omega, by omega, ⟨rfl, rfl, rfl, rfl, rfl, trivial⟩, hm⟩)
  · -- else
    obtain rfl : k = 16 := by omega
    refine sw_exit (into ?_)
    refine sw_seq ?_
    refine sw_seq ?_
    refine sw_region ?_
    refine ow_val (val_assign rfl) rfl ?_   -- 7
    refine ow_nil (into ?_)
    refine sw_block ?_
    refine sw_loop (σ := Nat) (fun j => j ≤ 48) (fun j => [(7, vInt ((16 + j : Nat) : Int)), (2, .pointer (some ⟨b2, 0, none⟩)), (3, .pointer (some ⟨b3, 0, none⟩)), (4, .pointer (some ⟨b4, 0, none⟩)), (5, .pointer (some ⟨b5, 0, none⟩))]) (fun j => Mem w [] [some (b5, blk ((fill2 bl j).map vU32) 131), some (b4, blk ((List.replicate 8 (0 : UInt32)).map vU32) 114), some (b3, blk (bl.map vU8) 115), some (b2, blk ((h).map vU32) 114)]) (fun j => 48 - j) 0 (by omega) ⟨rfl, rfl, rfl, rfl, rfl, trivial⟩ (fun w hm => hm) (fun j hj => ?_)
    have hW := fill2_len bl j
    refine sw_seq ?_
    refine sw_seq ?_
    refine sw_region ?_
    refine ow_val (val_move rfl) rfl ?_   -- 60
    refine ow_val (val_lss_int rfl rfl) rfl ?_   -- 61
    refine ow_nil (into ?_)
    refine sw_if rfl (fun h1 => ?_) (fun h1 => ?_)
    · -- then
      refine sw_skip (into ?_)
      refine sw_seq ?_
      refine sw_block ?_
      refine sw_seq ?_
      refine sw_region_lex _ [] [(0, 0), (1, 0), (2, 0), (5, 0), (6, 0), (7, 0), (11, 0), (12, 0), (13, 0), (3, 1), (8, 1), (14, 1), (15, 0), (4, 2), (9, 2), (10, 0), (16, 0), (17, 0)] (by kernel_rfl) (by kernel_rfl) (fun _ _ _ h => h) (fun _ h => h) (fun _ h => h.drawn _) ?_
      refine lw_pure rfl (val_move rfl) rfl ?_   -- 64
      refine lw_pure rfl (val_sub_int (((16 + j) - 15 : Nat) : Int) rfl rfl (by omega) (by omega)) rfl ?_   -- 65
      refine lw_pure rfl (val_indexAddr ((16 + j) - 15) ((16 + j) - 15) rfl rfl Tryd.underlying131 Tryd.sizeOf113 (by omega) (by omega) (by omega)) rfl ?_   -- 66
      refine lw_pure rfl (val_move rfl) rfl ?_   -- 69
      refine lw_pure rfl (val_sub_int (((16 + j) - 15 : Nat) : Int) rfl rfl (by omega) (by omega)) rfl ?_   -- 70
      refine lw_pure rfl (val_indexAddr ((16 + j) - 15) ((16 + j) - 15) rfl rfl Tryd.underlying131 Tryd.sizeOf113 (by omega) (by omega) (by omega)) rfl ?_   -- 71
      refine lw_pure rfl (val_move rfl) rfl ?_   -- 75
      refine lw_pure rfl (val_sub_int (((16 + j) - 15 : Nat) : Int) rfl rfl (by omega) (by omega)) rfl ?_   -- 76
      refine lw_pure rfl (val_indexAddr ((16 + j) - 15) ((16 + j) - 15) rfl rfl Tryd.underlying131 Tryd.sizeOf113 (by omega) (by omega) (by omega)) rfl ?_   -- 77
      refine lw_held rfl (val_load_at 0 rfl rfl Tryd.isAgg113 (get_map _ _ _ (by omega))) rfl ?_   -- 67
      refine lw_held rfl (val_load_at 0 rfl rfl Tryd.isAgg113 (get_map _ _ _ (by omega))) rfl ?_   -- 72
      refine lw_held rfl (val_load_at 0 rfl rfl Tryd.isAgg113 (get_map _ _ _ (by omega))) rfl ?_   -- 78
      refine lw_pure rfl (val_shr_u32 (3) rfl rfl (by first | rfl | omega) (by omega)) rfl ?_   -- 79
      refine lw_call_pure rfl (callsTo Tryd.func107 rfl (by kernel_rfl) rfl) rfl (fun w hm => right_any _ _ (by decide) (by decide) w) ?_   -- 68
      refine lw_call_pure rfl (callsTo Tryd.func107 rfl (by kernel_rfl) rfl) rfl (fun w hm => right_any _ _ (by decide) (by decide) w) ?_   -- 73
      refine lw_pure rfl (val_xor_u32 rfl rfl) rfl ?_   -- 74
      refine lw_pure rfl (val_xor_u32 rfl rfl) rfl ?_   -- 80
      refine lw_pure rfl (val_assign rfl) rfl ?_   -- 8
      refine lw_nil (into ?_)
      refine sw_seq ?_
      refine sw_region_lex _ [] [(0, 0), (1, 0), (2, 0), (5, 0), (6, 0), (7, 0), (11, 0), (12, 0), (13, 0), (3, 1), (8, 1), (14, 1), (15, 0), (4, 2), (9, 2), (10, 0), (16, 0), (17, 0)] (by kernel_rfl) (by kernel_rfl) (fun _ _ _ h => h) (fun _ h => h) (fun _ h => h.drawn _) ?_
      refine lw_pure rfl (val_move rfl) rfl ?_   -- 81
      refine lw_pure rfl (val_sub_int (((16 + j) - 2 : Nat) : Int) rfl rfl (by omega) (by omega)) rfl ?_   -- 82
      refine lw_pure rfl (val_indexAddr ((16 + j) - 2) ((16 + j) - 2) rfl rfl Tryd.underlying131 Tryd.sizeOf113 (by omega) (by omega) (by omega)) rfl ?_   -- 83
      refine lw_pure rfl (val_move rfl) rfl ?_   -- 86
      refine lw_pure rfl (val_sub_int (((16 + j) - 2 : Nat) : Int) rfl rfl (by omega) (by omega)) rfl ?_   -- 87
      refine lw_pure rfl (val_indexAddr ((16 + j) - 2) ((16 + j) - 2) rfl rfl Tryd.underlying131 Tryd.sizeOf113 (by omega) (by omega) (by omega)) rfl ?_   -- 88
      refine lw_pure rfl (val_move rfl) rfl ?_   -- 92
      refine lw_pure rfl (val_sub_int (((16 + j) - 2 : Nat) : Int) rfl rfl (by omega) (by omega)) rfl ?_   -- 93
      refine lw_pure rfl (val_indexAddr ((16 + j) - 2) ((16 + j) - 2) rfl rfl Tryd.underlying131 Tryd.sizeOf113 (by omega) (by omega) (by omega)) rfl ?_   -- 94
      refine lw_held rfl (val_load_at 0 rfl rfl Tryd.isAgg113 (get_map _ _ _ (by omega))) rfl ?_   -- 84
      refine lw_held rfl (val_load_at 0 rfl rfl Tryd.isAgg113 (get_map _ _ _ (by omega))) rfl ?_   -- 89
      refine lw_held rfl (val_load_at 0 rfl rfl Tryd.isAgg113 (get_map _ _ _ (by omega))) rfl ?_   -- 95
      refine lw_pure rfl (val_shr_u32 (10) rfl rfl (by first | rfl | omega) (by omega)) rfl ?_   -- 96
      refine lw_call_pure rfl (callsTo Tryd.func107 rfl (by kernel_rfl) rfl) rfl (fun w hm => right_any _ _ (by decide) (by decide) w) ?_   -- 85
      refine lw_call_pure rfl (callsTo Tryd.func107 rfl (by kernel_rfl) rfl) rfl (fun w hm => right_any _ _ (by decide) (by decide) w) ?_   -- 90
      refine lw_pure rfl (val_xor_u32 rfl rfl) rfl ?_   -- 91
      refine lw_pure rfl (val_xor_u32 rfl rfl) rfl ?_   -- 97
      refine lw_pure rfl (val_assign rfl) rfl ?_   -- 9
      refine lw_nil (into ?_)
      refine sw_region_lex _ [15] [(0, 0), (1, 0), (2, 0), (3, 0), (5, 0), (7, 0), (8, 0), (9, 0), (12, 0), (4, 1), (6, 0), (10, 1), (11, 0), (13, 0), (14, 0), (15, 2)] (by kernel_rfl) (by kernel_rfl) (fun _ _ _ h => h) (fun _ h => h) (fun _ h => h.drawn _) ?_
      refine lw_pure rfl (val_move rfl) rfl ?_   -- 98
      refine lw_pure rfl (val_move rfl) rfl ?_   -- 99
      refine lw_pure rfl (val_sub_int (((16 + j) - 16 : Nat) : Int) rfl rfl (by omega) (by omega)) rfl ?_   -- 100
      refine lw_pure rfl (val_indexAddr ((16 + j) - 16) ((16 + j) - 16) rfl rfl Tryd.underlying131 Tryd.sizeOf113 (by omega) (by omega) (by omega)) rfl ?_   -- 101
      refine lw_pure rfl (val_move rfl) rfl ?_   -- 103
      refine lw_pure rfl (val_move rfl) rfl ?_   -- 105
      refine lw_pure rfl (val_sub_int (((16 + j) - 7 : Nat) : Int) rfl rfl (by omega) (by omega)) rfl ?_   -- 106
      refine lw_pure rfl (val_indexAddr ((16 + j) - 7) ((16 + j) - 7) rfl rfl Tryd.underlying131 Tryd.sizeOf113 (by omega) (by omega) (by omega)) rfl ?_   -- 107
      refine lw_pure rfl (val_move rfl) rfl ?_   -- 110
      refine lw_held rfl (val_load_at 0 rfl rfl Tryd.isAgg113 (get_map _ _ _ (by omega))) rfl ?_   -- 102
      refine lw_pure rfl (val_add_u32 rfl rfl) rfl ?_   -- 104
      refine lw_held rfl (val_load_at 0 rfl rfl Tryd.isAgg113 (get_map _ _ _ (by omega))) rfl ?_   -- 108
      refine lw_pure rfl (val_add_u32 rfl rfl) rfl ?_   -- 109
      refine lw_pure rfl (val_add_u32 rfl rfl) rfl ?_   -- 111
      refine lw_pure rfl (val_indexAddr (16 + j) (16 + j) rfl rfl Tryd.underlying131 Tryd.sizeOf113 (by omega) (by omega) (by omega)) rfl ?_   -- 112
      refine lw_do rfl (does_store_map (V := vU32) 0 rfl rfl rfl rfl Tryd.sizeOf113 (by omega)) (fun h => nomatch h) (fun _ _ => ?_)
      refine lw_nil (into ?_)
      refine sw_region ?_
      refine ow_val (val_move rfl) rfl ?_   -- 62
      refine ow_val (val_add_int ((16 + j + 1 : Nat) : Int) rfl rfl (by omega) (by omega)) rfl ?_   -- 63
      refine ow_val (val_assign rfl) rfl ?_   -- 7
      exact ow_nil (fun w hm => ⟨j + 1, by omega, by omega, ⟨rfl, rfl, rfl, rfl, rfl, trivial⟩, hm⟩)
    · -- else
      obtain rfl : j = 48 := by omega
      refine sw_exit (into ?_)
      refine sw_seq ?_
      refine sw_region_lex _ [] [(0, 0), (2, 0), (4, 0), (6, 0), (8, 0), (10, 0), (12, 0), (14, 0), (1, 1), (16, 0), (3, 1), (17, 0), (5, 1), (18, 0), (7, 1), (19, 0), (9, 1), (20, 0), (11, 1), (21, 0), (13, 1), (22, 0), (15, 1), (23, 0)] (by kernel_rfl) (by kernel_rfl) (fun _ _ _ h => h) (fun _ h => h) (fun _ h => h.drawn _) ?_
      refine lw_pure rfl (val_indexAddr (0) (0) rfl rfl Tryd.underlying114 Tryd.sizeOf113 (by omega) (by omega) (by omega)) rfl ?_   -- 113
      refine lw_pure rfl (val_indexAddr (1) (1) rfl rfl Tryd.underlying114 Tryd.sizeOf113 (by omega) (by omega) (by omega)) rfl ?_   -- 115
      refine lw_pure rfl (val_indexAddr (2) (2) rfl rfl Tryd.underlying114 Tryd.sizeOf113 (by omega) (by omega) (by omega)) rfl ?_   -- 117
      refine lw_pure rfl (val_indexAddr (3) (3) rfl rfl Tryd.underlying114 Tryd.sizeOf113 (by omega) (by omega) (by omega)) rfl ?_   -- 119
      refine lw_pure rfl (val_indexAddr (4) (4) rfl rfl Tryd.underlying114 Tryd.sizeOf113 (by omega) (by omega) (by omega)) rfl ?_   -- 121
      refine lw_pure rfl (val_indexAddr (5) (5) rfl rfl Tryd.underlying114 Tryd.sizeOf113 (by omega) (by omega) (by omega)) rfl ?_   -- 123
      refine lw_pure rfl (val_indexAddr (6) (6) rfl rfl Tryd.underlying114 Tryd.sizeOf113 (by omega) (by omega) (by omega)) rfl ?_   -- 125
      refine lw_pure rfl (val_indexAddr (7) (7) rfl rfl Tryd.underlying114 Tryd.sizeOf113 (by omega) (by omega) (by omega)) rfl ?_   -- 127
      refine lw_held rfl (val_load_at 3 rfl rfl Tryd.isAgg113 (get_map _ _ _ (by omega))) rfl ?_   -- 114
      refine lw_pure rfl (val_assign rfl) rfl ?_   -- 10
      refine lw_held rfl (val_load_at 3 rfl rfl Tryd.isAgg113 (get_map _ _ _ (by omega))) rfl ?_   -- 116
      refine lw_pure rfl (val_assign rfl) rfl ?_   -- 11
      refine lw_held rfl (val_load_at 3 rfl rfl Tryd.isAgg113 (get_map _ _ _ (by omega))) rfl ?_   -- 118
      refine lw_pure rfl (val_assign rfl) rfl ?_   -- 12
      refine lw_held rfl (val_load_at 3 rfl rfl Tryd.isAgg113 (get_map _ _ _ (by omega))) rfl ?_   -- 120
      refine lw_pure rfl (val_assign rfl) rfl ?_   -- 13
      refine lw_held rfl (val_load_at 3 rfl rfl Tryd.isAgg113 (get_map _ _ _ (by omega))) rfl ?_   -- 122
      refine lw_pure rfl (val_assign rfl) rfl ?_   -- 14
      refine lw_held rfl (val_load_at 3 rfl rfl Tryd.isAgg113 (get_map _ _ _ (by omega))) rfl ?_   -- 124
      refine lw_pure rfl (val_assign rfl) rfl ?_   -- 15
      refine lw_held rfl (val_load_at 3 rfl rfl Tryd.isAgg113 (get_map _ _ _ (by omega))) rfl ?_   -- 126
      refine lw_pure rfl (val_assign rfl) rfl ?_   -- 16
      refine lw_held rfl (val_load_at 3 rfl rfl Tryd.isAgg113 (get_map _ _ _ (by omega))) rfl ?_   -- 128
      refine lw_pure rfl (val_assign rfl) rfl ?_   -- 17
      refine lw_nil (into ?_)
      refine sw_seq ?_
      refine sw_seq ?_
      refine sw_region ?_
      refine ow_val (val_move rfl) rfl ?_   -- 129
      refine ow_nil (into ?_)
      refine sw_block ?_
      refine sw_loop (σ := Nat) (fun i => i ≤ 64) (fun i => [(129, vInt (i : Int)), (10, vU32 (rnds KT (fill2 bl 48) ⟨gw h 0, gw h 1, gw h 2, gw h 3, gw h 4, gw h 5, gw h 6, gw h 7⟩ i).a), (11, vU32 (rnds KT (fill2 bl 48) ⟨gw h 0, gw h 1, gw h 2, gw h 3, gw h 4, gw h 5, gw h 6, gw h 7⟩ i).b), (12, vU32 (rnds KT (fill2 bl 48) ⟨gw h 0, gw h 1, gw h 2, gw h 3, gw h 4, gw h 5, gw h 6, gw h 7⟩ i).c), (13, vU32 (rnds KT (fill2 bl 48) ⟨gw h 0, gw h 1, gw h 2, gw h 3, gw h 4, gw h 5, gw h 6, gw h 7⟩ i).d), (14, vU32 (rnds KT (fill2 bl 48) ⟨gw h 0, gw h 1, gw h 2, gw h 3, gw h 4, gw h 5, gw h 6, gw h 7⟩ i).e), (15, vU32 (rnds KT (fill2 bl 48) ⟨gw h 0, gw h 1, gw h 2, gw h 3, gw h 4, gw h 5, gw h 6, gw h 7⟩ i).f), (16, vU32 (rnds KT (fill2 bl 48) ⟨gw h 0, gw h 1, gw h 2, gw h 3, gw h 4, gw h 5, gw h 6, gw h 7⟩ i).g), (17, vU32 (rnds KT (fill2 bl 48) ⟨gw h 0, gw h 1, gw h 2, gw h 3, gw h 4, gw h 5, gw h 6, gw h 7⟩ i).h), (2, .pointer (some ⟨b2, 0, none⟩)), (3, .pointer (some ⟨b3, 0, none⟩)), (4, .pointer (some ⟨b4, 0, none⟩)), (5, .pointer (some ⟨b5, 0, none⟩))]) (fun i => Mem w [] [some (b5, blk ((fill2 bl 48).map vU32) 131), some (b4, blk ((List.replicate 8 (0 : UInt32)).map vU32) 114), some (b3, blk (bl.map vU8) 115), some (b2, blk ((h).map vU32) 114)]) (fun i => 64 - i) 0 (by omega) ⟨rfl, rfl, rfl, rfl, rfl, rfl, rfl, rfl, rfl, rfl, rfl, rfl, rfl, trivial⟩ (fun w hm => hm) (fun i hi => ?_)
      have hW := fill2_len bl 48
      refine sw_seq ?_
      refine sw_region ?_
      refine ow_val (val_lss_int rfl rfl) rfl ?_   -- 130
      refine ow_nil (into ?_)
      refine sw_seq ?_
      refine sw_if rfl (fun h2 => ?_) (fun h2 => ?_)
      · -- then
        refine sw_skip (into ?_)
        refine sw_seq ?_
        refine sw_block ?_
        refine sw_seq ?_
        refine sw_region ?_
        refine ow_val (val_move rfl) rfl ?_   -- 131
        refine ow_val (val_assign rfl) rfl ?_   -- 18
        refine ow_nil (into ?_)
        refine sw_seq ?_
        refine sw_region ?_
        refine ow_val (val_move rfl) rfl ?_   -- 132
        refine ow_call_pure (callsTo Tryd.func107 rfl (by kernel_rfl) rfl) rfl (fun w hm => right_any _ _ (by decide) (by decide) w) ?_   -- 133
        refine ow_val (val_move rfl) rfl ?_   -- 134
        refine ow_call_pure (callsTo Tryd.func107 rfl (by kernel_rfl) rfl) rfl (fun w hm => right_any _ _ (by decide) (by decide) w) ?_   -- 135
        refine ow_val (val_xor_u32 rfl rfl) rfl ?_   -- 136
        refine ow_val (val_move rfl) rfl ?_   -- 137
        refine ow_call_pure (callsTo Tryd.func107 rfl (by kernel_rfl) rfl) rfl (fun w hm => right_any _ _ (by decide) (by decide) w) ?_   -- 138
        refine ow_val (val_xor_u32 rfl rfl) rfl ?_   -- 139
        refine ow_val (val_assign rfl) rfl ?_   -- 19
        refine ow_nil (into ?_)
        refine sw_seq ?_
        refine sw_region_lex _ [] [(0, 0), (1, 0), (2, 0), (3, 0), (4, 0), (5, 0), (6, 0), (7, 0), (8, 0), (9, 0), (10, 0), (11, 0), (12, 0), (13, 0), (16, 0), (17, 0), (14, 1), (15, 0), (18, 1), (19, 0), (20, 0)] (by kernel_rfl) (by kernel_rfl) (fun _ _ _ h => h) (fun _ h => h) (fun _ h => h.drawn _) ?_
        refine lw_pure rfl (val_move rfl) rfl ?_   -- 140
        refine lw_pure rfl (val_move rfl) rfl ?_   -- 141
        refine lw_pure rfl (val_add_u32 rfl rfl) rfl ?_   -- 142
        refine lw_pure rfl (val_move rfl) rfl ?_   -- 143
        refine lw_pure rfl (val_move rfl) rfl ?_   -- 144
        refine lw_pure rfl (val_and_u32 rfl rfl) rfl ?_   -- 145
        refine lw_pure rfl (val_move rfl) rfl ?_   -- 146
        refine lw_pure rfl (val_compl_u32 rfl) rfl ?_   -- 147
        refine lw_pure rfl (val_move rfl) rfl ?_   -- 148
        refine lw_pure rfl (val_and_u32 rfl rfl) rfl ?_   -- 149
        refine lw_pure rfl (val_xor_u32 rfl rfl) rfl ?_   -- 150
        refine lw_pure rfl (val_add_u32 rfl rfl) rfl ?_   -- 151
        refine lw_pure rfl (val_move rfl) rfl ?_   -- 152
        refine lw_pure rfl (val_indexAddr (i) (i) rfl rfl Tryd.underlying131 Tryd.sizeOf113 (by omega) (by omega) (by omega)) rfl ?_   -- 153
        refine lw_pure rfl (val_move rfl) rfl ?_   -- 156
        refine lw_pure rfl (val_indexAddr (i) (i) rfl rfl Tryd.underlying131 Tryd.sizeOf113 (by omega) (by omega) (by omega)) rfl ?_   -- 157
        refine lw_held rfl (val_load rfl Tryd.isAgg113 (fun w' hm => hm.cell_some (hK i (by omega)))) rfl ?_   -- 154
        refine lw_pure rfl (val_add_u32 rfl rfl) rfl ?_   -- 155
        refine lw_held rfl (val_load_at 0 rfl rfl Tryd.isAgg113 (get_map _ _ _ (by omega))) rfl ?_   -- 158
        refine lw_pure rfl (val_add_u32 rfl rfl) rfl ?_   -- 159
        refine lw_pure rfl (val_assign rfl) rfl ?_   -- 20
        refine lw_nil (into ?_)
        refine sw_seq ?_
        refine sw_region ?_
        refine ow_val (val_move rfl) rfl ?_   -- 160
        refine ow_call_pure (callsTo Tryd.func107 rfl (by kernel_rfl) rfl) rfl (fun w hm => right_any _ _ (by decide) (by decide) w) ?_   -- 161
        refine ow_val (val_move rfl) rfl ?_   -- 162
        refine ow_call_pure (callsTo Tryd.func107 rfl (by kernel_rfl) rfl) rfl (fun w hm => right_any _ _ (by decide) (by decide) w) ?_   -- 163
        refine ow_val (val_xor_u32 rfl rfl) rfl ?_   -- 164
        refine ow_val (val_move rfl) rfl ?_   -- 165
        refine ow_call_pure (callsTo Tryd.func107 rfl (by kernel_rfl) rfl) rfl (fun w hm => right_any _ _ (by decide) (by decide) w) ?_   -- 166
        refine ow_val (val_xor_u32 rfl rfl) rfl ?_   -- 167
        refine ow_val (val_assign rfl) rfl ?_   -- 21
        refine ow_nil (into ?_)
        refine sw_seq ?_
        refine sw_region ?_
        refine ow_val (val_move rfl) rfl ?_   -- 168
        refine ow_val (val_move rfl) rfl ?_   -- 169
        refine ow_val (val_move rfl) rfl ?_   -- 170
        refine ow_val (val_and_u32 rfl rfl) rfl ?_   -- 171
        refine ow_val (val_move rfl) rfl ?_   -- 172
        refine ow_val (val_move rfl) rfl ?_   -- 173
        refine ow_val (val_and_u32 rfl rfl) rfl ?_   -- 174
        refine ow_val (val_xor_u32 rfl rfl) rfl ?_   -- 175
        refine ow_val (val_move rfl) rfl ?_   -- 176
        refine ow_val (val_move rfl) rfl ?_   -- 177
        refine ow_val (val_and_u32 rfl rfl) rfl ?_   -- 178
        refine ow_val (val_xor_u32 rfl rfl) rfl ?_   -- 179
        refine ow_val (val_add_u32 rfl rfl) rfl ?_   -- 180
        refine ow_val (val_assign rfl) rfl ?_   -- 22
        refine ow_nil (into ?_)
        refine sw_region ?_
        refine ow_val (val_move rfl) rfl ?_   -- 181
        refine ow_val (val_move rfl) rfl ?_   -- 182
        refine ow_val (val_add_u32 rfl rfl) rfl ?_   -- 183
        refine ow_val (val_move rfl) rfl ?_   -- 184
        refine ow_val (val_move rfl) rfl ?_   -- 185
        refine ow_val (val_move rfl) rfl ?_   -- 186
        refine ow_val (val_move rfl) rfl ?_   -- 187
        refine ow_val (val_move rfl) rfl ?_   -- 188
        refine ow_val (val_add_u32 rfl rfl) rfl ?_   -- 189
        refine ow_val (val_move rfl) rfl ?_   -- 190
        refine ow_val (val_move rfl) rfl ?_   -- 191
        refine ow_val (val_move rfl) rfl ?_   -- 192
        refine ow_val (val_assign rfl) rfl ?_   -- 10
        refine ow_val (val_assign rfl) rfl ?_   -- 11
        refine ow_val (val_assign rfl) rfl ?_   -- 12
        refine ow_val (val_assign rfl) rfl ?_   -- 13
        refine ow_val (val_assign rfl) rfl ?_   -- 14
        refine ow_val (val_assign rfl) rfl ?_   -- 15
        refine ow_val (val_assign rfl) rfl ?_   -- 16
        refine ow_val (val_assign rfl) rfl ?_   -- 17
        refine ow_nil (into ?_)
        refine sw_region ?_
        refine ow_val (val_add_int ((i + 1 : Nat) : Int) rfl rfl (by omega) (by omega)) rfl ?_   -- 193
        refine ow_val (val_move rfl) rfl ?_   -- 129
        exact ow_nil (fun w hm => ⟨i + 1, by omega, by omega, ⟨rfl, rfl, rfl, rfl, rfl, rfl, rfl, rfl, rfl, rfl, rfl, rfl, rfl, trivial⟩, hm⟩)
      · -- else
        obtain rfl : i = 64 := by omega
        refine sw_exit (into ?_)
        refine sw_seq ?_
        refine sw_seq ?_
        refine sw_region ?_
        refine ow_val (val_move rfl) rfl ?_   -- 194
        refine ow_val (val_move rfl) rfl ?_   -- 195
        refine ow_val (val_move rfl) rfl ?_   -- 196
        refine ow_val (val_move rfl) rfl ?_   -- 197
        refine ow_val (val_move rfl) rfl ?_   -- 198
        refine ow_val (val_move rfl) rfl ?_   -- 199
        refine ow_val (val_move rfl) rfl ?_   -- 200
        refine ow_val (val_move rfl) rfl ?_   -- 201
        refine ow_val (val_build' (cs := (rnds KT (fill2 bl 48) ⟨gw h 0, gw h 1, gw h 2, gw h 3, gw h 4, gw h 5, gw h 6, gw h 7⟩ 64).list.map vU32) rfl (by kernel_rfl)) rfl ?_   -- 202
        refine ow_val (val_move rfl) rfl ?_   -- 203
        refine ow_nil (into ?_)
        refine sw_block ?_
        refine sw_loop (σ := Nat) (fun i => i ≤ 8) (fun i => [(203, vInt (i : Int)), (202, .agg ((rnds KT (fill2 bl 48) ⟨gw h 0, gw h 1, gw h 2, gw h 3, gw h 4, gw h 5, gw h 6, gw h 7⟩ 64).list.map vU32).toArray), (2, .pointer (some ⟨b2, 0, none⟩)), (3, .pointer (some ⟨b3, 0, none⟩)), (4, .pointer (some ⟨b4, 0, none⟩)), (5, .pointer (some ⟨b5, 0, none⟩))]) (fun i => Mem w [] [some (b5, blk ((fill2 bl 48).map vU32) 131), some (b4, blk ((List.replicate 8 (0 : UInt32)).map vU32) 114), some (b3, blk (bl.map vU8) 115), some (b2, blk ((addUp h (rnds KT (fill2 bl 48) ⟨gw h 0, gw h 1, gw h 2, gw h 3, gw h 4, gw h 5, gw h 6, gw h 7⟩ 64).list i).map vU32) 114)]) (fun i => 8 - i) 0 (by omega) ⟨rfl, rfl, rfl, rfl, rfl, rfl, trivial⟩ (fun w hm => hm) (fun i hi => ?_)
        have hU := addUp_len h (rnds KT (fill2 bl 48) ⟨gw h 0, gw h 1, gw h 2, gw h 3, gw h 4, gw h 5, gw h 6, gw h 7⟩ 64).list i
        have hL : (rnds KT (fill2 bl 48) ⟨gw h 0, gw h 1, gw h 2, gw h 3, gw h 4, gw h 5, gw h 6, gw h 7⟩ 64).list.length = 8 := rfl
        refine sw_seq ?_
        refine sw_region ?_
        refine ow_val (val_lss_int rfl rfl) rfl ?_   -- 204
        refine ow_nil (into ?_)
        refine sw_seq ?_
        refine sw_if rfl (fun h3 => ?_) (fun h3 => ?_)
        · -- then
          refine sw_skip (into ?_)
          refine sw_seq ?_
          refine sw_block ?_
          refine sw_seq ?_
          refine sw_region ?_
          refine ow_val (val_move rfl) rfl ?_   -- 205
          refine ow_val (val_index (i) rfl rfl Tryd.underlying114 Tryd.isAgg113 Tryd.sizeOf113 (by omega) (by omega) (get_map _ _ _ (by omega))) rfl ?_   -- 206
          refine ow_val (val_assign rfl) rfl ?_   -- 23
          refine ow_val (val_assign rfl) rfl ?_   -- 24
          refine ow_nil (into ?_)
          refine sw_region ?_
          refine ow_val (val_move rfl) rfl ?_   -- 207
          refine ow_val (val_indexAddr (i) (i) rfl rfl Tryd.underlying114 Tryd.sizeOf113 (by omega) (by omega) (by omega)) rfl ?_   -- 208
          refine ow_val (val_load_at 3 rfl rfl Tryd.isAgg113 (get_map _ _ _ (by omega))) rfl ?_   -- 209
          refine ow_val (val_move rfl) rfl ?_   -- 210
          refine ow_val (val_add_u32 rfl rfl) rfl ?_   -- 211
          refine ow_val (val_indexAddr (i) (i) rfl rfl Tryd.underlying114 Tryd.sizeOf113 (by omega) (by omega) (by omega)) rfl ?_   -- 212
          refine ow_do (does_store_map (V := vU32) 3 rfl rfl rfl rfl Tryd.sizeOf113 (by omega)) (fun _ _ => ?_)
          refine ow_nil (into ?_)
          refine sw_region ?_
          refine ow_val (val_add_int ((i + 1 : Nat) : Int) rfl rfl (by omega) (by omega)) rfl ?_   -- 213
          refine ow_val (val_move rfl) rfl ?_   -- 203
          exact ow_nil (fun w hm => ⟨i + 1, by omega, by omega, ⟨rfl, rfl, rfl, rfl, rfl, rfl, trivial⟩, hm⟩)
        · -- else
          obtain rfl : i = 8 := by omega
          refine sw_exit (into ?_)
          refine sw_seq ?_
          refine sw_region ?_
          refine ow_val (val_load_all 3 rfl rfl Tryd.isAgg114 Tryd.sizeOf114 (by simp [hU, hh])) rfl ?_   -- 214
          refine ow_do_eq (does_store_all 1 rfl rfl rfl (one_u32s _) Tryd.sizeOf114 (by simp [hU, hh]) (by first | rfl | simp)) ?_
          refine ow_nil (into ?_)
          exact sw_ret (fun w hm => ret_cell 1 rfl rfl hm rfl Tryd.isAgg114 Tryd.sizeOf114 (by simp [hU, hh]) ⟨rfl, hm.forgetAll⟩)

theorem first_any (w : World) : Calls Tryd.prog 106 #[] w fun e w' => ∃ v, e = .returned v ∧ v = .agg (H0.map vU32).toArray ∧ Mem w [] [] w' := by
  refine calls_of_sw (vs := []) Tryd.func106 rfl Tryd.ntmps106 rfl (SW.begin ?_)
  refine sw_seq ?_
  refine sw_region ?_
  refine ow_new (acts_alloc z114) rfl (fun b0 hb0 => ?_)   -- 0
  refine ow_nil (into ?_)
  refine sw_seq ?_
  refine sw_region ?_
  refine ow_val (val_build' (cs := H0.map vU32) rfl (by kernel_rfl)) rfl ?_   -- 1
  refine ow_do_eq (does_store_all 0 rfl rfl rfl (one_u32s _) Tryd.sizeOf114 rfl (by first | rfl | simp)) ?_
  refine ow_nil (into ?_)
  exact sw_ret (fun w hm => ret_cell 0 rfl rfl hm rfl Tryd.isAgg114 Tryd.sizeOf114 rfl ⟨rfl, hm.forgetAll⟩)

theorem begin_new (b : Nat) (s : Sh) (hs : s.ok) (hbg : s.bg = false) (w : World) (hb : w.heap[b]? = some (blk (shCells s) 117)) : Calls Tryd.prog 87 #[.pointer (some ⟨b, 0, none⟩)] w fun e w' => ∃ v, e = .returned v ∧ v = .tuple #[] ∧ Mem w [b] [some (b, blk (shCells s.begin) 117)] w' := by
  refine calls_of_sw (vs := [.pointer (some ⟨b, 0, none⟩)]) Tryd.func87 rfl Tryd.ntmps87 rfl (SW.beginRecv hb ?_)
  refine sw_seq ?_
  refine sw_region ?_
  refine ow_val (val_move rfl) rfl ?_   -- 2
  refine ow_val (val_nilCheck rfl) rfl ?_   -- 3
  refine ow_val (val_fieldAddr (m := 0) (e := 8) rfl Tryd.underlying117 rfl rfl Tryd.sizeOf4 rfl) rfl ?_   -- 4
  refine ow_val (val_load_at 0 rfl rfl Tryd.isAgg4 (sh_bg hs)) rfl ?_   -- 5
  refine ow_val (val_not rfl) rfl ?_   -- 6
  refine ow_nil (into ?_)
  refine sw_true rfl (by simp [hbg]) ?_
  refine sw_region ?_
  refine ow_val (val_move rfl) rfl ?_   -- 7
  refine ow_val (val_move rfl) rfl ?_   -- 8
  refine ow_call_pure (callsTo Tryd.func106 rfl (by kernel_rfl) rfl) rfl (fun w hm => first_any w) ?_   -- 9
  refine ow_val (val_nilCheck rfl) rfl ?_   -- 10
  refine ow_val (val_fieldAddr (m := 7) (e := 0) rfl Tryd.underlying117 rfl rfl Tryd.sizeOf114 rfl) rfl ?_   -- 11
  refine ow_do_eq (does_store_agg_to (shCells { s with h := H0 }) 0 rfl rfl rfl (one_u32s _) Tryd.sizeOf114 rfl (by rw [sh_len hs]; omega) (sh_set_h hs H0)) ?_
  refine ow_val (val_nilCheck rfl) rfl ?_   -- 12
  refine ow_val (val_fieldAddr (m := 0) (e := 8) rfl Tryd.underlying117 rfl rfl Tryd.sizeOf4 rfl) rfl ?_   -- 13
  refine ow_do_eq (does_store_to (shCells { s with h := H0, bg := true }) 0 rfl rfl rfl rfl Tryd.sizeOf4 (by rw [sh_len (s := { s with h := H0 }) ⟨rfl, hs.bl⟩]; omega) (sh_set_bg (s := { s with h := H0 }) ⟨rfl, hs.bl⟩ true)) ?_
  exact ow_nil (fun w hm => ret_end rfl ⟨rfl, by rw [show s.begin = { s with h := H0, bg := true } by simp [Sh.begin, hbg]]; exact hm⟩)

theorem begin_old (b : Nat) (s : Sh) (hs : s.ok) (hbg : s.bg = true) (w : World) (hb : w.heap[b]? = some (blk (shCells s) 117)) : Calls Tryd.prog 87 #[.pointer (some ⟨b, 0, none⟩)] w fun e w' => ∃ v, e = .returned v ∧ v = .tuple #[] ∧ Mem w [b] [some (b, blk (shCells s.begin) 117)] w' := by
  refine calls_of_sw (vs := [.pointer (some ⟨b, 0, none⟩)]) Tryd.func87 rfl Tryd.ntmps87 rfl (SW.beginRecv hb ?_)
  refine sw_seq ?_
  refine sw_region ?_
  refine ow_val (val_move rfl) rfl ?_   -- 2
  refine ow_val (val_nilCheck rfl) rfl ?_   -- 3
  refine ow_val (val_fieldAddr (m := 0) (e := 8) rfl Tryd.underlying117 rfl rfl Tryd.sizeOf4 rfl) rfl ?_   -- 4
  refine ow_val (val_load_at 0 rfl rfl Tryd.isAgg4 (sh_bg hs)) rfl ?_   -- 5
  refine ow_val (val_not rfl) rfl ?_   -- 6
  refine ow_nil (into ?_)
  refine sw_false rfl (by simp [hbg]) ?_
  exact sw_skip (fun w hm => ret_end rfl ⟨rfl, by rw [show s.begin = s by simp [Sh.begin, hbg]]; exact hm⟩)

theorem begin_any (b : Nat) (s : Sh) (hs : s.ok) (w : World) (hb : w.heap[b]? = some (blk (shCells s) 117)) : Calls Tryd.prog 87 #[.pointer (some ⟨b, 0, none⟩)] w fun e w' => ∃ v, e = .returned v ∧ v = .tuple #[] ∧ Mem w [b] [some (b, blk (shCells s.begin) 117)] w' := by
  cases h : s.bg with
  | true => exact begin_old b s hs h w hb
  | false => exact begin_new b s hs h w hb

theorem new_any (w : World) : Calls Tryd.prog 47 #[] w fun e w' => ∃ v, e = .returned v ∧ ∃ b, v = .pointer (some ⟨b, 0, none⟩) ∧ Mem w [] [some (b, blk (shCells Sh.zero) 117)] w' := by
  refine calls_of_sw (vs := []) Tryd.func47 rfl Tryd.ntmps47 rfl (SW.begin ?_)
  refine sw_seq ?_
  refine sw_region ?_
  refine ow_val (val_assign rfl) rfl ?_   -- 0
  refine ow_nil (into ?_)
  refine sw_seq ?_
  refine sw_region ?_
  refine ow_val (val_build' (cs := shCells Sh.zero) rfl (by kernel_rfl)) rfl ?_   -- 1
  refine ow_new (acts_box rfl) rfl (fun b2 hb2 => ?_)   -- 2
  refine ow_val (val_assign rfl) rfl ?_   -- 0
  refine ow_nil (into ?_)
  exact sw_ret (fun w hm => ret_one _ rfl rfl ⟨b2, rfl, hm⟩)

theorem write_any (b : Nat) (s : Sh) (hs : s.ok) (a : Option Addr) (m c : Nat) (p : List UInt8) (hpm : p.length = m) (w : World) (hb : w.heap[b]? = some (blk (shCells s) 117)) (hK : KW w) (hz : 0 ∉ [b]) (hr : Rd w a (p.map vU8)) (hne : 0 < p.length → ∀ b' o', a = some ⟨b', o', none⟩ → b' ∉ [b]) (hc : m ≤ c) (hl : m < 9223372036854775808) : Calls Tryd.prog 48 #[.pointer (some ⟨b, 0, none⟩), .slice a m c] w fun e w' => ∃ v, e = .returned v ∧ v = .tuple #[] ∧ Mem w [b] [some (b, blk (shCells (s.write p)) 117)] w' := by
  subst hpm
  refine calls_of_sw (vs := [.pointer (some ⟨b, 0, none⟩), .slice a p.length c]) Tryd.func48 rfl Tryd.ntmps48 rfl (SW.beginRecv hb ?_)
  refine sw_seq ?_
  refine sw_seq ?_
  refine sw_region ?_
  refine ow_val (val_move rfl) rfl ?_   -- 6
  refine ow_val (val_eql_nilptr Tryd.underlying79 rfl rfl) rfl ?_   -- 7
  refine ow_nil (into ?_)
  refine sw_false rfl rfl ?_
  refine sw_skip (into ?_)
  refine sw_seq ?_
  refine sw_region ?_
  refine ow_val (val_move rfl) rfl ?_   -- 8
  refine ow_call_turn 0 rfl (callsTo Tryd.func87 rfl (by kernel_rfl) rfl) rfl (fun w hm => begin_any b s hs w (hm.at (i := 0) rfl)) ?_
  refine ow_nil (into ?_)
  refine sw_block ?_
  refine sw_loop (σ := Sh × Option Addr × Nat × List UInt8) (fun x => x.1.ok ∧ Rd w x.2.1 (x.2.2.2.map vU8) ∧ (0 < x.2.2.2.length → ∀ b' o', x.2.1 = some ⟨b', o', none⟩ → b' ∉ [b]) ∧ x.2.2.2.length ≤ x.2.2.1 ∧ x.2.2.2.length < 9223372036854775808 ∧ x.2.2.2.foldl Sh.feed x.1 = s.write p) (fun x => [(0, .pointer (some ⟨b, 0, none⟩)), (1, .slice x.2.1 x.2.2.2.length x.2.2.1)]) (fun x => Mem w [b] [some (b, blk (shCells x.1) 117)]) (fun x => x.2.2.2.length) (s.begin, a, c, p) ⟨Sh.begin_ok hs, hr, hne, hc, hl, rfl⟩ ⟨rfl, rfl, trivial⟩ (fun w hm => hm) ?_
  generalize s.write p = goal
  clear hs hb hr hne hc hl
  clear s a c p
  rintro ⟨s, a, c, p⟩ ⟨hs, hr, hne, hc, hl, hgoal⟩
  simp only at hs hr hne hc hl hgoal ⊢
  refine sw_seq ?_
  refine sw_seq ?_
  refine sw_region ?_
  refine ow_val (val_move rfl) rfl ?_   -- 10
  refine ow_val (val_len rfl Tryd.underlying25) rfl ?_   -- 11
  refine ow_val (val_gtr_int rfl rfl) rfl ?_   -- 12
  refine ow_nil (into ?_)
  refine sw_if rfl (fun h0 => ?_) (fun h0 => ?_)
  · -- then
    obtain ⟨b1, o1, rfl⟩ := hr.addr (by simp; simp at h0; omega)
    have hne0 := hne (by simp at h0; omega)
    have hne1 : b1 ≠ b := by simpa using hne0 b1 o1 rfl
    obtain ⟨i, hi⟩ : ∃ i, i = (s.n % 64).toNat := ⟨_, rfl⟩
    have hi64 : i < 64 := by rw [hi, mod64]; omega
    obtain ⟨k, hk⟩ : ∃ k, k = min p.length (64 - i) := ⟨_, rfl⟩
    have hkl : (p.take k).length = k := by rw [List.length_take]; omega
    have hk0 : 0 < k := by simp at h0; omega
    have hstep := write_step s hs p (by omega)
    rw [← hi, ← hk] at hstep
    have hi' : (s.n % UInt64.ofNat (Int.toNat 64)).toNat = i := by rw [hi]; rfl
    have hs1 : ({ s with bl := s.bl.take i ++ p.take k ++ s.bl.drop (i + (p.take k).length) } : Sh).ok := ⟨hs.h, by simp [hs.bl, hkl]; omega⟩
    obtain ⟨s2, hs2e⟩ : ∃ s2 : Sh, s2 = { s with bl := s.bl.take i ++ p.take k ++ s.bl.drop (i + (p.take k).length), n := s.n + UInt64.ofNat k } := ⟨_, rfl⟩
    have hs2 : s2.ok := by rw [hs2e]; exact ⟨hs1.h, hs1.bl⟩
    have hsplice := sh_set_bl hs i (p.take k) (by omega)
    refine sw_skip (into ?_)
    refine sw_block ?_
    refine sw_seq ?_
    refine sw_region ?_
    refine ow_val (val_move rfl) rfl ?_   -- 13
    refine ow_val (val_nilCheck rfl) rfl ?_   -- 14
    refine ow_val (val_fieldAddr (m := 0) (e := 73) rfl Tryd.underlying117 rfl rfl Tryd.sizeOf46 rfl) rfl ?_   -- 15
    refine ow_val (val_load_at 0 rfl rfl Tryd.isAgg46 (sh_n hs)) rfl ?_   -- 16
    refine ow_val (val_rem_u64 rfl rfl (by decide)) rfl ?_   -- 17
    refine ow_val (val_conv_u64_i64 Tryd.underlying46 Tryd.underlying3 rfl (by rw [show UInt64.ofNat (Int.toNat 64) = 64 from rfl, mod64]; omega)) rfl ?_   -- 18
    refine ow_val (val_assign rfl) rfl ?_   -- 4
    refine ow_nil (into ?_)
    refine sw_seq ?_
    refine sw_region ?_
    refine ow_val (val_move rfl) rfl ?_   -- 19
    refine ow_val (val_nilCheck rfl) rfl ?_   -- 20
    refine ow_val (val_fieldAddr (m := 63) (e := 9) rfl Tryd.underlying117 rfl rfl Tryd.sizeOf115 rfl) rfl ?_   -- 21
    refine ow_val (val_move rfl) rfl ?_   -- 22
    refine ow_val (val_slice_array_lo i (9 + i) rfl rfl Tryd.underlying115 Tryd.sizeOf5 (by rw [hi']) hi64 (by omega)) rfl ?_
    refine ow_val (val_move rfl) rfl ?_   -- 24
    refine ow_act_eq (acts_copy_to (size := 1) k (shCells { s with bl := s.bl.take i ++ p.take k ++ s.bl.drop (i + (p.take k).length) }) 0 rfl rfl rfl Tryd.underlying25 Tryd.sizeOf5 (fun w' hm => hr.memOlds hm hne0) (by simp) (one_u8s _) (by rw [sh_len hs]; omega) hk (by rw [Nat.mul_one, ← List.map_take, ← hkl]; simpa [hkl] using hsplice)) rfl ?_
    refine ow_val (val_assign rfl) rfl ?_   -- 5
    refine ow_nil (into ?_)
    refine sw_seq ?_
    refine sw_region ?_
    refine ow_val (val_move rfl) rfl ?_   -- 26
    refine ow_val (val_move rfl) rfl ?_   -- 27
    refine ow_val (val_slice_lo k rfl rfl Tryd.underlying25 Tryd.sizeOf5 rfl (by omega) hc) rfl ?_
    refine ow_val (val_assign rfl) rfl ?_   -- 1
    refine ow_nil (into ?_)
    refine sw_seq ?_
    refine sw_region ?_
    refine ow_val (val_move rfl) rfl ?_   -- 29
    refine ow_val (val_nilCheck rfl) rfl ?_   -- 30
    refine ow_val (val_fieldAddr (m := 0) (e := 73) rfl Tryd.underlying117 rfl rfl Tryd.sizeOf46 rfl) rfl ?_   -- 31
    refine ow_val (val_load_at 0 rfl rfl Tryd.isAgg46 (sh_n hs1)) rfl ?_   -- 32
    refine ow_val (val_move rfl) rfl ?_   -- 33
    refine ow_val (val_conv_n_u64 k Tryd.underlying3 Tryd.underlying46 rfl rfl) rfl ?_   -- 34
    refine ow_val (val_add_u64 rfl rfl) rfl ?_   -- 35
    refine ow_val (val_nilCheck rfl) rfl ?_   -- 36
    refine ow_val (val_fieldAddr (m := 0) (e := 73) rfl Tryd.underlying117 rfl rfl Tryd.sizeOf46 rfl) rfl ?_   -- 37
    refine ow_do_eq (does_store_to (shCells s2) 0 rfl rfl rfl rfl Tryd.sizeOf46 (by rw [sh_len hs1]; omega) (by rw [hs2e]; exact sh_set_n hs1 _)) ?_
    refine ow_nil (into ?_)
    refine sw_seq ?_
    refine sw_region ?_
    refine ow_val (val_move rfl) rfl ?_   -- 38
    refine ow_val (val_move rfl) rfl ?_   -- 39
    refine ow_val (val_add_int ((i + k : Nat) : Int) rfl rfl (by omega) (by omega)) rfl ?_   -- 40
    refine ow_val (val_eql_int rfl rfl) rfl ?_   -- 41
    refine ow_nil (into ?_)
    refine sw_if rfl (fun h1 => ?_) (fun h1 => ?_)
    · -- then
      obtain ⟨s3, hs3, hs3ok, hch⟩ : ∃ s3 : Sh, s3 = { s2 with h := compress s2.h s2.bl } ∧ s3.ok ∧ s.chunk (p.take k) = s3 := by
        refine ⟨_, rfl, ⟨by rw [compress_len]; exact hs2.h, hs2.bl⟩, ?_⟩
        have h2 : i + k = 64 := by omega
        simp only [Sh.chunk, ← hi, hkl, h2, if_true, hs2e]
      refine sw_region_lex _ [12] [(0, 0), (1, 0), (2, 0), (3, 0), (5, 0), (6, 0), (7, 0), (4, 1), (8, 1), (9, 2), (10, 0), (11, 0), (12, 2)] (by kernel_rfl) (by kernel_rfl) (fun _ _ _ h => h) (fun _ h => h) (fun _ h => h.drawn _) ?_
      refine lw_pure rfl (val_move rfl) rfl ?_   -- 42
      refine lw_pure rfl (val_move rfl) rfl ?_   -- 43
      refine lw_pure rfl (val_nilCheck rfl) rfl ?_   -- 44
      refine lw_pure rfl (val_fieldAddr (m := 7) (e := 0) rfl Tryd.underlying117 rfl rfl Tryd.sizeOf114 rfl) rfl ?_   -- 45
      refine lw_pure rfl (val_move rfl) rfl ?_   -- 47
      refine lw_pure rfl (val_nilCheck rfl) rfl ?_   -- 48
      refine lw_pure rfl (val_fieldAddr (m := 63) (e := 9) rfl Tryd.underlying117 rfl rfl Tryd.sizeOf115 rfl) rfl ?_   -- 49
      refine lw_held rfl (val_load_part 0 rfl rfl Tryd.isAgg114 Tryd.sizeOf114 (by simp [hs2.h]) (sh_h hs2)) rfl ?_   -- 46
      refine lw_held rfl (val_load_part 0 rfl rfl Tryd.isAgg115 Tryd.sizeOf115 (by simp [hs2.bl]) (sh_bl hs2)) rfl ?_   -- 50
      refine lw_call_pure rfl (callsTo Tryd.func88 rfl (by kernel_rfl) rfl) rfl (fun w hm => comp_any s2.h s2.bl hs2.h hs2.bl w (hK.mem hm hz)) ?_   -- 51
      refine lw_pure rfl (val_nilCheck rfl) rfl ?_   -- 52
      refine lw_pure rfl (val_fieldAddr (m := 7) (e := 0) rfl Tryd.underlying117 rfl rfl Tryd.sizeOf114 rfl) rfl ?_   -- 53
      refine lw_do rfl (does_store_agg_to (shCells { s2 with h := compress s2.h s2.bl }) 0 rfl rfl rfl (one_u32s _) Tryd.sizeOf114 (by simp [compress_len, hs2.h]) (by rw [sh_len hs2]; omega) (sh_set_h hs2 _)) (fun h => nomatch h) (fun _ _ => ?_)
      exact lw_nil (fun w' hm => ⟨(s3, some ⟨b1, if c = k then o1 else o1 + k * 1, none⟩, c - k, p.drop k), ⟨hs3ok, Rd.drop1 hr (by omega) hc, (fun _ b' o' e => by simp only [Option.some.injEq, Addr.mk.injEq, and_true] at e; rw [← e.1]; simpa using hne1), (by simp; omega), (by simp; omega), (by rw [← hch, ← hstep]; exact hgoal)⟩, (by simp; omega), ⟨rfl, by simp only [List.length_drop]; rfl, trivial⟩, by simp only [hs3]; exact hm⟩)
    · -- else
      obtain ⟨s3, hs3, hs3ok, hch⟩ : ∃ s3 : Sh, s3 = s2 ∧ s3.ok ∧ s.chunk (p.take k) = s3 := by
        refine ⟨_, rfl, hs2, ?_⟩
        have h2 : ¬ i + k = 64 := by omega
        simp only [Sh.chunk, ← hi, hkl, h2, if_false, hs2e]
      exact sw_skip (fun w' hm => ⟨(s3, some ⟨b1, if c = k then o1 else o1 + k * 1, none⟩, c - k, p.drop k), ⟨hs3ok, Rd.drop1 hr (by omega) hc, (fun _ b' o' e => by simp only [Option.some.injEq, Addr.mk.injEq, and_true] at e; rw [← e.1]; simpa using hne1), (by simp; omega), (by simp; omega), (by rw [← hch, ← hstep]; exact hgoal)⟩, (by simp; omega), ⟨rfl, by simp only [List.length_drop]; rfl, trivial⟩, by simp only [hs3]; exact hm⟩)
  · -- else
    have hp0 : p = [] := List.length_eq_zero_iff.1 (by omega)
    subst hp0
    refine sw_exit (fun w hm => ?_)
    dsimp only [thenP, blockP, Nat.beq, cond]
    exact ret_end rfl ⟨rfl, by rw [← hgoal]; exact hm⟩
end Go.Proofs.YtpmnhmfahgchgaaDoor
