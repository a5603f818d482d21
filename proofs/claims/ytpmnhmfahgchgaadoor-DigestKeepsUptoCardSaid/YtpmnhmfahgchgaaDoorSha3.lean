import Derived.Test.YtpmnhmfahgchgaaDoorSha2
import Derived.Test.YtpmnhmfahgchgaaDoorSxJ
import Derived.Test.YtpmnhmfahgchgaaDoorPRef
import Derived.Test.YtpmnhmfahgchgaaDoorProg
set_option linter.unusedVariables false
set_option linter.unusedSimpArgs false
namespace Go.Proofs.YtpmnhmfahgchgaaDoor
open Go.Sx Go.Ps
theorem turn_any (x : UInt32) (k : Nat) (hk : 0 < k) (hk2 : k < 32) (w : World) : Calls Tryd.prog 114 #[vU32 x, vInt (k : Int)] w fun e w' => ∃ v, e = .returned v ∧ v = vU32 (ror x k) ∧ Mem w [] [] w' := by
  refine calls_of_sw (vs := [vU32 x, vInt (k : Int)]) Tryd.func114 rfl Tryd.ntmps114 rfl (SW.begin ?_)
  refine sw_seq ?_
  refine sw_region ?_
  refine ow_val (val_assign rfl) rfl ?_   -- 4
  refine ow_nil (into ?_)
  refine sw_seq ?_
  refine sw_region_lex _ [] [(0, 0), (1, 0), (2, 0), (3, 0), (4, 0), (5, 0), (6, 0), (7, 0), (8, 0)] (by kernel_rfl) (by kernel_rfl) (fun _ _ _ h => h) (fun _ h => h) (fun _ h => h.drawn _) ?_
  refine lw_pure rfl (val_move rfl) rfl ?_   -- 5
  refine lw_pure rfl (val_move rfl) rfl ?_   -- 6
  refine lw_pure rfl (val_shr_u32 (k) rfl rfl (by first | rfl | omega) (by omega)) rfl ?_   -- 7
  refine lw_pure rfl (val_move rfl) rfl ?_   -- 8
  refine lw_pure rfl (val_move rfl) rfl ?_   -- 9
  refine lw_pure rfl (val_sub_int ((32 - k : Nat) : Int) rfl rfl (by omega) (by omega)) rfl ?_   -- 10
  refine lw_pure rfl (val_shl_u32 (32 - k) rfl rfl (by first | rfl | omega) (by omega)) rfl ?_   -- 11
  refine lw_pure rfl (val_add_u32 rfl rfl) rfl ?_   -- 12
  refine lw_pure rfl (val_assign rfl) rfl ?_   -- 4
  refine lw_nil (into ?_)
  exact sw_ret (fun w hm => ret_one _ rfl rfl ⟨congrArg vU32 (turn_eq x k hk hk2), hm⟩)

theorem big_any (a : Option Addr) (m c k : Nat) (p : List UInt8) (hpm : p.length = m) (hk : 4 * k + 3 < m) (hl : m < 9223372036854775808) (w : World) (hr : Rd w a (p.map vU8)) : Calls Tryd.prog 115 #[.slice a m c, vInt ((4 * k : Nat) : Int)] w fun e w' => ∃ v, e = .returned v ∧ v = vU32 (ldr p k) ∧ Mem w [] [] w' := by
  obtain ⟨b, o, rfl⟩ := hr.addr (by simp; omega)
  refine calls_of_sw (vs := [.slice (some ⟨b, o, none⟩) m c, vInt ((4 * k : Nat) : Int)]) Tryd.func115 rfl Tryd.ntmps115 rfl (SW.begin ?_)
  refine sw_seq ?_
  refine sw_region ?_
  refine ow_val (val_assign rfl) rfl ?_   -- 4
  refine ow_nil (into ?_)
  refine sw_seq ?_
  refine sw_region_lex _ [] [(0, 0), (1, 0), (2, 0), (6, 0), (7, 0), (8, 0), (9, 0), (14, 0), (15, 0), (16, 0), (17, 0), (22, 0), (23, 0), (24, 0), (25, 0), (3, 1), (4, 0), (5, 0), (10, 1), (11, 0), (12, 0), (13, 0), (18, 1), (19, 0), (20, 0), (21, 0), (26, 1), (27, 0), (28, 0), (29, 0)] (by kernel_rfl) (by kernel_rfl) (fun _ _ _ h => h) (fun _ h => h) (fun _ h => h.drawn _) ?_
  refine lw_pure rfl (val_move rfl) rfl ?_   -- 5
  refine lw_pure rfl (val_move rfl) rfl ?_   -- 6
  refine lw_pure rfl (val_indexAddr_slice (4 * k) (o + 4 * k) rfl rfl Tryd.underlying25 Tryd.sizeOf5 (by omega) (by omega) (by omega)) rfl ?_   -- 7
  refine lw_pure rfl (val_move rfl) rfl ?_   -- 11
  refine lw_pure rfl (val_move rfl) rfl ?_   -- 12
  refine lw_pure rfl (val_add_int ((4 * k + 1 : Nat) : Int) rfl rfl (by omega) (by omega)) rfl ?_   -- 13
  refine lw_pure rfl (val_indexAddr_slice (4 * k + 1) (o + 4 * k + 1) rfl rfl Tryd.underlying25 Tryd.sizeOf5 (by omega) (by omega) (by omega)) rfl ?_   -- 14
  refine lw_pure rfl (val_move rfl) rfl ?_   -- 19
  refine lw_pure rfl (val_move rfl) rfl ?_   -- 20
  refine lw_pure rfl (val_add_int ((4 * k + 2 : Nat) : Int) rfl rfl (by omega) (by omega)) rfl ?_   -- 21
  refine lw_pure rfl (val_indexAddr_slice (4 * k + 2) (o + 4 * k + 2) rfl rfl Tryd.underlying25 Tryd.sizeOf5 (by omega) (by omega) (by omega)) rfl ?_   -- 22
  refine lw_pure rfl (val_move rfl) rfl ?_   -- 27
  refine lw_pure rfl (val_move rfl) rfl ?_   -- 28
  refine lw_pure rfl (val_add_int ((4 * k + 3 : Nat) : Int) rfl rfl (by omega) (by omega)) rfl ?_   -- 29
  refine lw_pure rfl (val_indexAddr_slice (4 * k + 3) (o + 4 * k + 3) rfl rfl Tryd.underlying25 Tryd.sizeOf5 (by omega) (by omega) (by omega)) rfl ?_   -- 30
  refine lw_held rfl (val_load rfl Tryd.isAgg5 (fun w' hm => Rd.get (p := p) (k := 4 * k) (hr.mem hm) (by omega) (by omega))) rfl ?_   -- 8
  refine lw_pure rfl (val_conv_u8_u32 Tryd.underlying5 Tryd.underlying113 rfl) rfl ?_   -- 9
  refine lw_pure rfl (val_shl_u32 (24) rfl rfl (by first | rfl | omega) (by omega)) rfl ?_   -- 10
  refine lw_held rfl (val_load rfl Tryd.isAgg5 (fun w' hm => Rd.get (p := p) (k := 4 * k + 1) (hr.mem hm) (by omega) (by omega))) rfl ?_   -- 15
  refine lw_pure rfl (val_conv_u8_u32 Tryd.underlying5 Tryd.underlying113 rfl) rfl ?_   -- 16
  refine lw_pure rfl (val_shl_u32 (16) rfl rfl (by first | rfl | omega) (by omega)) rfl ?_   -- 17
  refine lw_pure rfl (val_add_u32 rfl rfl) rfl ?_   -- 18
  refine lw_held rfl (val_load rfl Tryd.isAgg5 (fun w' hm => Rd.get (p := p) (k := 4 * k + 2) (hr.mem hm) (by omega) (by omega))) rfl ?_   -- 23
  refine lw_pure rfl (val_conv_u8_u32 Tryd.underlying5 Tryd.underlying113 rfl) rfl ?_   -- 24
  refine lw_pure rfl (val_shl_u32 (8) rfl rfl (by first | rfl | omega) (by omega)) rfl ?_   -- 25
  refine lw_pure rfl (val_add_u32 rfl rfl) rfl ?_   -- 26
  refine lw_held rfl (val_load rfl Tryd.isAgg5 (fun w' hm => Rd.get (p := p) (k := 4 * k + 3) (hr.mem hm) (by omega) (by omega))) rfl ?_   -- 31
  refine lw_pure rfl (val_conv_u8_u32 Tryd.underlying5 Tryd.underlying113 rfl) rfl ?_   -- 32
  refine lw_pure rfl (val_add_u32 rfl rfl) rfl ?_   -- 33
  refine lw_pure rfl (val_assign rfl) rfl ?_   -- 4
  refine lw_nil (into ?_)
  exact sw_ret (fun w hm => ret_one _ rfl rfl ⟨rfl, hm⟩)

theorem refwords_any (w : World) : Calls Tryd.prog 113 #[] w fun e w' => ∃ v, e = .returned v ∧ v = .agg (KT.map vU32).toArray ∧ Mem w [] [] w' := by
  refine calls_of_sw (vs := []) Tryd.func113 rfl Tryd.ntmps113 rfl (SW.begin ?_)
  refine sw_seq ?_
  refine sw_region ?_
  refine ow_new (acts_alloc z131) rfl (fun b0 hb0 => ?_)   -- 0
  refine ow_nil (into ?_)
  refine sw_seq ?_
  refine sw_region ?_
  refine ow_val (val_build' (cs := KT.map vU32) rfl (by kernel_rfl)) rfl ?_   -- 1
  refine ow_do_eq (does_store_all 0 rfl rfl rfl (one_u32s _) Tryd.sizeOf131 rfl (by first | rfl | simp)) ?_
  refine ow_nil (into ?_)
  exact sw_ret (fun w hm => ret_cell 0 rfl rfl hm rfl Tryd.isAgg131 Tryd.sizeOf131 rfl ⟨rfl, hm.forgetAll⟩)

theorem refFirst_any (w : World) : Calls Tryd.prog 108 #[] w fun e w' => ∃ v, e = .returned v ∧ v = .agg (H0.map vU32).toArray ∧ Mem w [] [] w' := by
  refine calls_of_sw (vs := []) Tryd.func108 rfl Tryd.ntmps108 rfl (SW.begin ?_)
  refine sw_seq ?_
  refine sw_region ?_
  refine ow_new (acts_alloc z114) rfl (fun b0 hb0 => ?_)   -- 0
  refine ow_nil (into ?_)
  refine sw_seq ?_
  refine sw_region ?_
  refine ow_val (val_build' (cs := H0.map vU32) rfl (by kernel_rfl)) rfl ?_   -- 1
  refine ow_do_eq (does_store_all 0 rfl rfl rfl (one_u32s _) Tryd.sizeOf114 rfl (by first | rfl | simp)) ?_
  refine ow_nil (into ?_)
  exact sw_ret (fun w hm => ret_cell 0 rfl rfl hm rfl Tryd.isAgg114 Tryd.sizeOf114 rfl ⟨rfl, hm.forgetAll⟩)

set_option maxRecDepth 10000 in
theorem spread_any (a : Option Addr) (m c : Nat) (p : List UInt8) (hpm : p.length = m) (hk : 64 ≤ m) (hl : m < 9223372036854775808) (w : World) (hr : Rd w a (p.map vU8)) : Calls Tryd.prog 112 #[.slice a m c] w fun e w' => ∃ v, e = .returned v ∧ v = .agg ((spr p 64).map vU32).toArray ∧ Mem w [] [] w' := by
  refine calls_of_sw (vs := [.slice a m c]) Tryd.func112 rfl Tryd.ntmps112 rfl (SW.begin ?_)
  refine sw_seq ?_
  refine sw_region ?_
  refine ow_new (acts_alloc z131) rfl (fun b2 hb2 => ?_)   -- 2
  refine ow_nil (into ?_)
  refine sw_seq ?_
  refine sw_region ?_
  refine ow_new (acts_alloc z131) rfl (fun b3 hb3 => ?_)   -- 3
  refine ow_nil (into ?_)
  refine sw_seq ?_
  refine sw_seq ?_
  refine sw_region ?_
  refine ow_val (val_assign rfl) rfl ?_   -- 4
  refine ow_nil (into ?_)
  refine sw_block ?_
  refine sw_loop (σ := Nat) (fun i => i ≤ 64) (fun i => [(4, vInt (i : Int)), (2, .pointer (some ⟨b2, 0, none⟩)), (3, .pointer (some ⟨b3, 0, none⟩)), (0, .slice a m c)]) (fun i => Mem w [] [some (b3, blk ((spr p i).map vU32) 131), some (b2, blk ((List.replicate 64 (0 : UInt32)).map vU32) 131)]) (fun i => 64 - i) 0 (by omega) ⟨rfl, rfl, rfl, rfl, trivial⟩ (fun w hm => hm) (fun i hi => ?_)
  have hW := spr_len p i
  refine sw_seq ?_
  refine sw_seq ?_
  refine sw_region ?_
  refine ow_val (val_move rfl) rfl ?_   -- 7
  refine ow_val (val_lss_int rfl rfl) rfl ?_   -- 8
  refine ow_nil (into ?_)
  refine sw_if rfl (fun h0 => ?_) (fun h0 => ?_)
  · -- then
    refine sw_skip (into ?_)
    refine sw_seq ?_
    refine sw_block ?_
    refine sw_seq ?_
    refine sw_seq ?_
    refine sw_region ?_
    refine ow_val (val_move rfl) rfl ?_   -- 11
    refine ow_val (val_lss_int rfl rfl) rfl ?_   -- 12
    refine ow_nil (into ?_)
    refine sw_if rfl (fun h1 => ?_) (fun h1 => ?_)
    · -- then
      refine sw_seq ?_
      refine sw_region ?_
      refine ow_val (val_move rfl) rfl ?_   -- 13
      refine ow_val (val_move rfl) rfl ?_   -- 14
      refine ow_val (val_move rfl) rfl ?_   -- 15
      refine ow_val (val_mul_int ((4 * i : Nat) : Int) rfl rfl (by omega) (by omega)) rfl ?_   -- 16
      refine ow_call_pure (callsTo Tryd.func115 rfl (by kernel_rfl) rfl) rfl (fun w hm => big_any a m c i p hpm (by omega) hl w (hr.mem hm)) ?_   -- 17
      refine ow_val (val_indexAddr (i) (i) rfl rfl Tryd.underlying131 Tryd.sizeOf113 (by omega) (by omega) (by omega)) rfl ?_   -- 18
      refine ow_do (does_store_map (V := vU32) 0 rfl rfl rfl rfl Tryd.sizeOf113 (by omega)) (fun _ _ => ?_)
      refine ow_nil (into ?_)
      refine sw_exit (into ?_)
      refine sw_region ?_
      refine ow_val (val_move rfl) rfl ?_   -- 9
      refine ow_val (val_add_int ((i + 1 : Nat) : Int) rfl rfl (by omega) (by omega)) rfl ?_   -- 10
      refine ow_val (val_assign rfl) rfl ?_   -- 4
      exact ow_nil (fun w hm => ⟨i + 1, by omega, by omega, ⟨rfl, rfl, rfl, rfl, trivial⟩, (by first | (rw [show spr p (i + 1) = _ from if_pos (by omega)]; exact hm) | (rw [show spr p (i + 1) = _ from if_neg (by omega)]; exact hm))⟩)
    · -- else
      refine sw_skip (into ?_)
      refine sw_seq ?_
      refine sw_region_lex _ [] [(0, 0), (1, 0), (2, 0), (4, 0), (5, 0), (6, 0), (3, 1), (8, 0), (7, 1), (9, 0)] (by kernel_rfl) (by kernel_rfl) (fun _ _ _ h => h) (fun _ h => h) (fun _ h => h.drawn _) ?_
      refine lw_pure rfl (val_move rfl) rfl ?_   -- 19
      refine lw_pure rfl (val_sub_int ((i - 15 : Nat) : Int) rfl rfl (by omega) (by omega)) rfl ?_   -- 20
      refine lw_pure rfl (val_indexAddr (i - 15) (i - 15) rfl rfl Tryd.underlying131 Tryd.sizeOf113 (by omega) (by omega) (by omega)) rfl ?_   -- 21
      refine lw_pure rfl (val_move rfl) rfl ?_   -- 23
      refine lw_pure rfl (val_sub_int ((i - 2 : Nat) : Int) rfl rfl (by omega) (by omega)) rfl ?_   -- 24
      refine lw_pure rfl (val_indexAddr (i - 2) (i - 2) rfl rfl Tryd.underlying131 Tryd.sizeOf113 (by omega) (by omega) (by omega)) rfl ?_   -- 25
      refine lw_held rfl (val_load_at 0 rfl rfl Tryd.isAgg113 (get_map _ _ _ (by omega))) rfl ?_   -- 22
      refine lw_pure rfl (val_assign rfl) rfl ?_   -- 5
      refine lw_held rfl (val_load_at 0 rfl rfl Tryd.isAgg113 (get_map _ _ _ (by omega))) rfl ?_   -- 26
      refine lw_pure rfl (val_assign rfl) rfl ?_   -- 6
      refine lw_nil (into ?_)
      refine sw_region_lex _ [29] [(0, 0), (1, 0), (2, 0), (3, 0), (5, 0), (6, 0), (7, 0), (10, 0), (12, 0), (15, 0), (16, 0), (19, 0), (21, 0), (24, 0), (25, 0), (4, 1), (8, 1), (9, 0), (11, 2), (13, 2), (14, 0), (17, 0), (18, 0), (20, 2), (22, 2), (23, 0), (26, 0), (27, 0), (28, 0), (29, 2)] (by kernel_rfl) (by kernel_rfl) (fun _ _ _ h => h) (fun _ h => h) (fun _ h => h.drawn _) ?_
      refine lw_pure rfl (val_move rfl) rfl ?_   -- 27
      refine lw_pure rfl (val_move rfl) rfl ?_   -- 28
      refine lw_pure rfl (val_sub_int ((i - 16 : Nat) : Int) rfl rfl (by omega) (by omega)) rfl ?_   -- 29
      refine lw_pure rfl (val_indexAddr (i - 16) (i - 16) rfl rfl Tryd.underlying131 Tryd.sizeOf113 (by omega) (by omega) (by omega)) rfl ?_   -- 30
      refine lw_pure rfl (val_move rfl) rfl ?_   -- 32
      refine lw_pure rfl (val_sub_int ((i - 7 : Nat) : Int) rfl rfl (by omega) (by omega)) rfl ?_   -- 33
      refine lw_pure rfl (val_indexAddr (i - 7) (i - 7) rfl rfl Tryd.underlying131 Tryd.sizeOf113 (by omega) (by omega) (by omega)) rfl ?_   -- 34
      refine lw_pure rfl (val_move rfl) rfl ?_   -- 37
      refine lw_pure rfl (val_move rfl) rfl ?_   -- 39
      refine lw_pure rfl (val_move rfl) rfl ?_   -- 42
      refine lw_pure rfl (val_shr_u32 (3) rfl rfl (by first | rfl | omega) (by omega)) rfl ?_   -- 43
      refine lw_pure rfl (val_move rfl) rfl ?_   -- 46
      refine lw_pure rfl (val_move rfl) rfl ?_   -- 48
      refine lw_pure rfl (val_move rfl) rfl ?_   -- 51
      refine lw_pure rfl (val_shr_u32 (10) rfl rfl (by first | rfl | omega) (by omega)) rfl ?_   -- 52
      refine lw_held rfl (val_load_at 0 rfl rfl Tryd.isAgg113 (get_map _ _ _ (by omega))) rfl ?_   -- 31
      refine lw_held rfl (val_load_at 0 rfl rfl Tryd.isAgg113 (get_map _ _ _ (by omega))) rfl ?_   -- 35
      refine lw_pure rfl (val_add_u32 rfl rfl) rfl ?_   -- 36
      refine lw_call_pure rfl (callsTo Tryd.func114 rfl (by kernel_rfl) rfl) rfl (fun w hm => turn_any _ _ (by decide) (by decide) w) ?_   -- 38
      refine lw_call_pure rfl (callsTo Tryd.func114 rfl (by kernel_rfl) rfl) rfl (fun w hm => turn_any _ _ (by decide) (by decide) w) ?_   -- 40
      refine lw_pure rfl (val_xor_u32 rfl rfl) rfl ?_   -- 41
      refine lw_pure rfl (val_xor_u32 rfl rfl) rfl ?_   -- 44
      refine lw_pure rfl (val_add_u32 rfl rfl) rfl ?_   -- 45
      refine lw_call_pure rfl (callsTo Tryd.func114 rfl (by kernel_rfl) rfl) rfl (fun w hm => turn_any _ _ (by decide) (by decide) w) ?_   -- 47
      refine lw_call_pure rfl (callsTo Tryd.func114 rfl (by kernel_rfl) rfl) rfl (fun w hm => turn_any _ _ (by decide) (by decide) w) ?_   -- 49
      refine lw_pure rfl (val_xor_u32 rfl rfl) rfl ?_   -- 50
      refine lw_pure rfl (val_xor_u32 rfl rfl) rfl ?_   -- 53
      refine lw_pure rfl (val_add_u32 rfl rfl) rfl ?_   -- 54
      refine lw_pure rfl (val_indexAddr (i) (i) rfl rfl Tryd.underlying131 Tryd.sizeOf113 (by omega) (by omega) (by omega)) rfl ?_   -- 55
      refine lw_do rfl (does_store_map (V := vU32) 0 rfl rfl rfl rfl Tryd.sizeOf113 (by omega)) (fun h => nomatch h) (fun _ _ => ?_)
      refine lw_nil (into ?_)
      refine sw_region ?_
      refine ow_val (val_move rfl) rfl ?_   -- 9
      refine ow_val (val_add_int ((i + 1 : Nat) : Int) rfl rfl (by omega) (by omega)) rfl ?_   -- 10
      refine ow_val (val_assign rfl) rfl ?_   -- 4
      exact ow_nil (fun w hm => ⟨i + 1, by omega, by omega, ⟨rfl, rfl, rfl, rfl, trivial⟩, (by first | (rw [show spr p (i + 1) = _ from if_pos (by omega)]; exact hm) | (rw [show spr p (i + 1) = _ from if_neg (by omega)]; exact hm))⟩)
  · -- else
    obtain rfl : i = 64 := by omega
    refine sw_exit (into ?_)
    refine sw_seq ?_
    refine sw_region ?_
    refine ow_val (val_load_all 0 rfl rfl Tryd.isAgg131 Tryd.sizeOf131 (by simp [spr_len])) rfl ?_   -- 56
    refine ow_do_eq (does_store_all 1 rfl rfl rfl (one_u32s _) Tryd.sizeOf131 (by simp [spr_len]) (by first | rfl | simp)) ?_
    refine ow_nil (into ?_)
    exact sw_ret (fun w hm => ret_cell 1 rfl rfl hm rfl Tryd.isAgg131 Tryd.sizeOf131 (by simp [spr_len]) ⟨rfl, hm.forgetAll⟩)

set_option maxRecDepth 10000 in
theorem compR_any (h : List UInt32) (hh : h.length = 8) (a : Option Addr) (m c : Nat) (p : List UInt8) (hpm : p.length = m) (hk : 64 ≤ m) (hl : m < 9223372036854775808) (w : World) (hr : Rd w a (p.map vU8)) : Calls Tryd.prog 109 #[.agg (h.map vU32).toArray, .slice a m c] w fun e w' => ∃ v, e = .returned v ∧ v = .agg ((compress h p).map vU32).toArray ∧ Mem w [] [] w' := by
  refine calls_of_sw (vs := [.agg (h.map vU32).toArray, .slice a m c]) Tryd.func109 rfl Tryd.ntmps109 rfl (SW.begin ?_)
  refine sw_seq ?_
  refine sw_region ?_
  refine ow_new (acts_box rfl) rfl (fun b2 hb2 => ?_)   -- 2
  refine ow_new (acts_alloc z114) rfl (fun b4 hb4 => ?_)   -- 4
  refine ow_nil (into ?_)
  refine sw_seq ?_
  refine sw_region ?_
  refine ow_val (val_move rfl) rfl ?_   -- 20
  refine ow_call_pure (callsTo Tryd.func112 rfl (by kernel_rfl) rfl) rfl (fun w hm => spread_any a m c p hpm hk hl w (hr.mem hm)) ?_   -- 21
  refine ow_new (acts_alloc z131) rfl (fun b5 hb5 => ?_)   -- 5
  refine ow_do_eq (does_store_all 0 rfl rfl rfl (one_u32s _) Tryd.sizeOf131 (by simp [spr_len]) (by first | rfl | simp)) ?_
  refine ow_nil (into ?_)
  refine sw_seq ?_
  refine sw_region ?_
  refine ow_call_pure (callsTo Tryd.func113 rfl (by kernel_rfl) rfl) rfl (fun w hm => refwords_any w) ?_   -- 22
  refine ow_new (acts_alloc z131) rfl (fun b6 hb6 => ?_)   -- 6
  refine ow_do_eq (does_store_all 0 rfl rfl rfl (one_u32s _) Tryd.sizeOf131 rfl (by first | rfl | simp)) ?_
  refine ow_nil (into ?_)
  refine sw_seq ?_
  refine sw_region ?_
  refine ow_val (val_load_all 3 rfl rfl Tryd.isAgg114 Tryd.sizeOf114 (by show (h.map vU32).length = 8; simp [hh])) rfl ?_   -- 23
  refine ow_new (acts_alloc z114) rfl (fun b7 hb7 => ?_)   -- 7
  refine ow_do_eq (does_store_all 0 rfl rfl rfl (one_u32s _) Tryd.sizeOf114 (by show (h.map vU32).length = 8; simp [hh]) (by first | rfl | simp)) ?_
  refine ow_nil (into ?_)
  refine sw_seq ?_
  refine sw_seq ?_
  refine sw_region ?_
  refine ow_val (val_assign rfl) rfl ?_   -- 8
  refine ow_nil (into ?_)
  refine sw_block ?_
  have hS := spr_len p 64
  have hK : KT.length = 64 := rfl
  refine sw_loop (σ := Nat) (fun i => i ≤ 64) (fun i => [(8, vInt (i : Int)), (2, .pointer (some ⟨b2, 0, none⟩)), (4, .pointer (some ⟨b4, 0, none⟩)), (5, .pointer (some ⟨b5, 0, none⟩)), (6, .pointer (some ⟨b6, 0, none⟩)), (7, .pointer (some ⟨b7, 0, none⟩))]) (fun i => Mem w [] [some (b7, blk ((rrs KT (spr p 64) h i).map vU32) 114), some (b6, blk (KT.map vU32) 131), some (b5, blk ((spr p 64).map vU32) 131), some (b4, blk ((List.replicate 8 (0 : UInt32)).map vU32) 114), some (b2, blk ((h).map vU32) 114)]) (fun i => 64 - i) 0 (by omega) ⟨rfl, rfl, rfl, rfl, rfl, rfl, trivial⟩ (fun w hm => hm) (fun i hi => ?_)
  have hR : (rrs KT (spr p 64) h i).length = 8 := by rw [rrs_len, hh]
  refine sw_seq ?_
  refine sw_seq ?_
  refine sw_region ?_
  refine ow_val (val_move rfl) rfl ?_   -- 24
  refine ow_val (val_lss_int rfl rfl) rfl ?_   -- 25
  refine ow_nil (into ?_)
  refine sw_if rfl (fun h0 => ?_) (fun h0 => ?_)
  · -- then
    refine sw_skip (into ?_)
    refine sw_seq ?_
    refine sw_block ?_
    refine sw_seq ?_
    refine sw_region ?_
    refine ow_val (val_move rfl) rfl ?_   -- 28
    refine ow_val (val_sub_int ((64 - i : Nat) : Int) rfl rfl (by omega) (by omega)) rfl ?_   -- 29
    refine ow_val (val_assign rfl) rfl ?_   -- 9
    refine ow_nil (into ?_)
    refine sw_seq ?_
    refine sw_region_lex _ [] [(0, 0), (1, 0), (2, 0), (4, 0), (5, 0), (6, 0), (7, 0), (9, 0), (10, 0), (11, 0), (12, 0), (3, 1), (14, 0), (8, 1), (15, 0), (13, 1), (16, 0)] (by kernel_rfl) (by kernel_rfl) (fun _ _ _ h => h) (fun _ h => h) (fun _ h => h.drawn _) ?_
    refine lw_pure rfl (val_move rfl) rfl ?_   -- 30
    refine lw_pure rfl (val_rem_nn (((64 - i) % 8 : Nat) : Int) rfl rfl (by omega) (by omega) (by omega)) rfl ?_   -- 31
    refine lw_pure rfl (val_indexAddr ((64 - i) % 8) ((64 - i) % 8) rfl rfl Tryd.underlying114 Tryd.sizeOf113 (by omega) (by omega) (by omega)) rfl ?_   -- 32
    refine lw_pure rfl (val_move rfl) rfl ?_   -- 34
    refine lw_pure rfl (val_add_int ((64 - i + 1 : Nat) : Int) rfl rfl (by omega) (by omega)) rfl ?_   -- 35
    refine lw_pure rfl (val_rem_nn (((64 - i + 1) % 8 : Nat) : Int) rfl rfl (by omega) (by omega) (by omega)) rfl ?_   -- 36
    refine lw_pure rfl (val_indexAddr ((64 - i + 1) % 8) ((64 - i + 1) % 8) rfl rfl Tryd.underlying114 Tryd.sizeOf113 (by omega) (by omega) (by omega)) rfl ?_   -- 37
    refine lw_pure rfl (val_move rfl) rfl ?_   -- 39
    refine lw_pure rfl (val_add_int ((64 - i + 2 : Nat) : Int) rfl rfl (by omega) (by omega)) rfl ?_   -- 40
    refine lw_pure rfl (val_rem_nn (((64 - i + 2) % 8 : Nat) : Int) rfl rfl (by omega) (by omega) (by omega)) rfl ?_   -- 41
    refine lw_pure rfl (val_indexAddr ((64 - i + 2) % 8) ((64 - i + 2) % 8) rfl rfl Tryd.underlying114 Tryd.sizeOf113 (by omega) (by omega) (by omega)) rfl ?_   -- 42
    refine lw_held rfl (val_load_at 0 rfl rfl Tryd.isAgg113 (get_map _ _ _ (by first | omega | (simp only [List.length_set]; omega)))) rfl ?_   -- 33
    refine lw_pure rfl (val_assign rfl) rfl ?_   -- 10
    refine lw_held rfl (val_load_at 0 rfl rfl Tryd.isAgg113 (get_map _ _ _ (by first | omega | (simp only [List.length_set]; omega)))) rfl ?_   -- 38
    refine lw_pure rfl (val_assign rfl) rfl ?_   -- 11
    refine lw_held rfl (val_load_at 0 rfl rfl Tryd.isAgg113 (get_map _ _ _ (by first | omega | (simp only [List.length_set]; omega)))) rfl ?_   -- 43
    refine lw_pure rfl (val_assign rfl) rfl ?_   -- 12
    refine lw_nil (into ?_)
    refine sw_seq ?_
    refine sw_region_lex _ [] [(0, 0), (1, 0), (2, 0), (3, 0), (5, 0), (6, 0), (7, 0), (8, 0), (10, 0), (11, 0), (12, 0), (13, 0), (4, 1), (15, 0), (9, 1), (16, 0), (14, 1), (17, 0)] (by kernel_rfl) (by kernel_rfl) (fun _ _ _ h => h) (fun _ h => h) (fun _ h => h.drawn _) ?_
    refine lw_pure rfl (val_move rfl) rfl ?_   -- 44
    refine lw_pure rfl (val_add_int ((64 - i + 4 : Nat) : Int) rfl rfl (by omega) (by omega)) rfl ?_   -- 45
    refine lw_pure rfl (val_rem_nn (((64 - i + 4) % 8 : Nat) : Int) rfl rfl (by omega) (by omega) (by omega)) rfl ?_   -- 46
    refine lw_pure rfl (val_indexAddr ((64 - i + 4) % 8) ((64 - i + 4) % 8) rfl rfl Tryd.underlying114 Tryd.sizeOf113 (by omega) (by omega) (by omega)) rfl ?_   -- 47
    refine lw_pure rfl (val_move rfl) rfl ?_   -- 49
    refine lw_pure rfl (val_add_int ((64 - i + 5 : Nat) : Int) rfl rfl (by omega) (by omega)) rfl ?_   -- 50
    refine lw_pure rfl (val_rem_nn (((64 - i + 5) % 8 : Nat) : Int) rfl rfl (by omega) (by omega) (by omega)) rfl ?_   -- 51
    refine lw_pure rfl (val_indexAddr ((64 - i + 5) % 8) ((64 - i + 5) % 8) rfl rfl Tryd.underlying114 Tryd.sizeOf113 (by omega) (by omega) (by omega)) rfl ?_   -- 52
    refine lw_pure rfl (val_move rfl) rfl ?_   -- 54
    refine lw_pure rfl (val_add_int ((64 - i + 6 : Nat) : Int) rfl rfl (by omega) (by omega)) rfl ?_   -- 55
    refine lw_pure rfl (val_rem_nn (((64 - i + 6) % 8 : Nat) : Int) rfl rfl (by omega) (by omega) (by omega)) rfl ?_   -- 56
    refine lw_pure rfl (val_indexAddr ((64 - i + 6) % 8) ((64 - i + 6) % 8) rfl rfl Tryd.underlying114 Tryd.sizeOf113 (by omega) (by omega) (by omega)) rfl ?_   -- 57
    refine lw_held rfl (val_load_at 0 rfl rfl Tryd.isAgg113 (get_map _ _ _ (by first | omega | (simp only [List.length_set]; omega)))) rfl ?_   -- 48
    refine lw_pure rfl (val_assign rfl) rfl ?_   -- 13
    refine lw_held rfl (val_load_at 0 rfl rfl Tryd.isAgg113 (get_map _ _ _ (by first | omega | (simp only [List.length_set]; omega)))) rfl ?_   -- 53
    refine lw_pure rfl (val_assign rfl) rfl ?_   -- 14
    refine lw_held rfl (val_load_at 0 rfl rfl Tryd.isAgg113 (get_map _ _ _ (by first | omega | (simp only [List.length_set]; omega)))) rfl ?_   -- 58
    refine lw_pure rfl (val_assign rfl) rfl ?_   -- 15
    refine lw_nil (into ?_)
    refine sw_seq ?_
    refine sw_region ?_
    refine ow_val (val_move rfl) rfl ?_   -- 59
    refine ow_val (val_move rfl) rfl ?_   -- 60
    refine ow_val (val_move rfl) rfl ?_   -- 61
    refine ow_val (val_move rfl) rfl ?_   -- 62
    refine ow_val (val_xor_u32 rfl rfl) rfl ?_   -- 63
    refine ow_val (val_and_u32 rfl rfl) rfl ?_   -- 64
    refine ow_val (val_xor_u32 rfl rfl) rfl ?_   -- 65
    refine ow_val (val_assign rfl) rfl ?_   -- 16
    refine ow_nil (into ?_)
    refine sw_seq ?_
    refine sw_region ?_
    refine ow_val (val_move rfl) rfl ?_   -- 66
    refine ow_val (val_move rfl) rfl ?_   -- 67
    refine ow_val (val_and_u32 rfl rfl) rfl ?_   -- 68
    refine ow_val (val_move rfl) rfl ?_   -- 69
    refine ow_val (val_move rfl) rfl ?_   -- 70
    refine ow_val (val_move rfl) rfl ?_   -- 71
    refine ow_val (val_or_u32 rfl rfl) rfl ?_   -- 72
    refine ow_val (val_and_u32 rfl rfl) rfl ?_   -- 73
    refine ow_val (val_or_u32 rfl rfl) rfl ?_   -- 74
    refine ow_val (val_assign rfl) rfl ?_   -- 17
    refine ow_nil (into ?_)
    refine sw_seq ?_
    refine sw_region_lex _ [] [(0, 0), (1, 0), (2, 0), (3, 0), (5, 0), (7, 0), (10, 0), (14, 0), (16, 0), (17, 0), (20, 0), (21, 0), (4, 1), (18, 1), (22, 1), (6, 2), (8, 2), (9, 0), (11, 2), (12, 0), (13, 0), (15, 0), (19, 0), (23, 0), (24, 0)] (by kernel_rfl) (by kernel_rfl) (fun _ _ _ h => h) (fun _ h => h) (fun _ h => h.drawn _) ?_
    refine lw_pure rfl (val_move rfl) rfl ?_   -- 75
    refine lw_pure rfl (val_add_int ((64 - i + 7 : Nat) : Int) rfl rfl (by omega) (by omega)) rfl ?_   -- 76
    refine lw_pure rfl (val_rem_nn (((64 - i + 7) % 8 : Nat) : Int) rfl rfl (by omega) (by omega) (by omega)) rfl ?_   -- 77
    refine lw_pure rfl (val_indexAddr ((64 - i + 7) % 8) ((64 - i + 7) % 8) rfl rfl Tryd.underlying114 Tryd.sizeOf113 (by omega) (by omega) (by omega)) rfl ?_   -- 78
    refine lw_pure rfl (val_move rfl) rfl ?_   -- 80
    refine lw_pure rfl (val_move rfl) rfl ?_   -- 82
    refine lw_pure rfl (val_move rfl) rfl ?_   -- 85
    refine lw_pure rfl (val_move rfl) rfl ?_   -- 89
    refine lw_pure rfl (val_move rfl) rfl ?_   -- 91
    refine lw_pure rfl (val_indexAddr (i) (i) rfl rfl Tryd.underlying131 Tryd.sizeOf113 (by omega) (by omega) (by omega)) rfl ?_   -- 92
    refine lw_pure rfl (val_move rfl) rfl ?_   -- 95
    refine lw_pure rfl (val_indexAddr (i) (i) rfl rfl Tryd.underlying131 Tryd.sizeOf113 (by omega) (by omega) (by omega)) rfl ?_   -- 96
    refine lw_held rfl (val_load_at 0 rfl rfl Tryd.isAgg113 (get_map _ _ _ (by first | omega | (simp only [List.length_set]; omega)))) rfl ?_   -- 79
    refine lw_held rfl (val_load_at 1 rfl rfl Tryd.isAgg113 (get_map _ _ _ (by omega))) rfl ?_   -- 93
    refine lw_held rfl (val_load_at 2 rfl rfl Tryd.isAgg113 (get_map _ _ _ (by omega))) rfl ?_   -- 97
    refine lw_call_pure rfl (callsTo Tryd.func114 rfl (by kernel_rfl) rfl) rfl (fun w hm => turn_any _ _ (by decide) (by decide) w) ?_   -- 81
    refine lw_call_pure rfl (callsTo Tryd.func114 rfl (by kernel_rfl) rfl) rfl (fun w hm => turn_any _ _ (by decide) (by decide) w) ?_   -- 83
    refine lw_pure rfl (val_xor_u32 rfl rfl) rfl ?_   -- 84
    refine lw_call_pure rfl (callsTo Tryd.func114 rfl (by kernel_rfl) rfl) rfl (fun w hm => turn_any _ _ (by decide) (by decide) w) ?_   -- 86
    refine lw_pure rfl (val_xor_u32 rfl rfl) rfl ?_   -- 87
    refine lw_pure rfl (val_add_u32 rfl rfl) rfl ?_   -- 88
    refine lw_pure rfl (val_add_u32 rfl rfl) rfl ?_   -- 90
    refine lw_pure rfl (val_add_u32 rfl rfl) rfl ?_   -- 94
    refine lw_pure rfl (val_add_u32 rfl rfl) rfl ?_   -- 98
    refine lw_pure rfl (val_assign rfl) rfl ?_   -- 18
    refine lw_nil (into ?_)
    refine sw_seq ?_
    refine sw_region ?_
    refine ow_val (val_move rfl) rfl ?_   -- 99
    refine ow_val (val_add_int ((64 - i + 3 : Nat) : Int) rfl rfl (by omega) (by omega)) rfl ?_   -- 100
    refine ow_val (val_rem_nn (((64 - i + 3) % 8 : Nat) : Int) rfl rfl (by omega) (by omega) (by omega)) rfl ?_   -- 101
    refine ow_val (val_indexAddr ((64 - i + 3) % 8) ((64 - i + 3) % 8) rfl rfl Tryd.underlying114 Tryd.sizeOf113 (by omega) (by omega) (by omega)) rfl ?_   -- 102
    refine ow_val (val_load_at 0 rfl rfl Tryd.isAgg113 (get_map _ _ _ (by first | omega | (simp only [List.length_set]; omega)))) rfl ?_   -- 103
    refine ow_val (val_move rfl) rfl ?_   -- 104
    refine ow_val (val_add_u32 rfl rfl) rfl ?_   -- 105
    refine ow_val (val_indexAddr ((64 - i + 3) % 8) ((64 - i + 3) % 8) rfl rfl Tryd.underlying114 Tryd.sizeOf113 (by omega) (by omega) (by omega)) rfl ?_   -- 106
    refine ow_do (does_store_map (V := vU32) 0 rfl rfl rfl rfl Tryd.sizeOf113 (by first | omega | (simp only [List.length_set]; omega))) (fun _ _ => ?_)
    refine ow_nil (into ?_)
    refine sw_region ?_
    refine ow_val (val_move rfl) rfl ?_   -- 107
    refine ow_val (val_add_int ((64 - i + 7 : Nat) : Int) rfl rfl (by omega) (by omega)) rfl ?_   -- 108
    refine ow_val (val_rem_nn (((64 - i + 7) % 8 : Nat) : Int) rfl rfl (by omega) (by omega) (by omega)) rfl ?_   -- 109
    refine ow_val (val_move rfl) rfl ?_   -- 110
    refine ow_val (val_move rfl) rfl ?_   -- 111
    refine ow_call_pure (callsTo Tryd.func114 rfl (by kernel_rfl) rfl) rfl (fun w hm => turn_any _ _ (by decide) (by decide) w) ?_   -- 112
    refine ow_val (val_move rfl) rfl ?_   -- 113
    refine ow_call_pure (callsTo Tryd.func114 rfl (by kernel_rfl) rfl) rfl (fun w hm => turn_any _ _ (by decide) (by decide) w) ?_   -- 114
    refine ow_val (val_xor_u32 rfl rfl) rfl ?_   -- 115
    refine ow_val (val_move rfl) rfl ?_   -- 116
    refine ow_call_pure (callsTo Tryd.func114 rfl (by kernel_rfl) rfl) rfl (fun w hm => turn_any _ _ (by decide) (by decide) w) ?_   -- 117
    refine ow_val (val_xor_u32 rfl rfl) rfl ?_   -- 118
    refine ow_val (val_add_u32 rfl rfl) rfl ?_   -- 119
    refine ow_val (val_move rfl) rfl ?_   -- 120
    refine ow_val (val_add_u32 rfl rfl) rfl ?_   -- 121
    refine ow_val (val_indexAddr ((64 - i + 7) % 8) ((64 - i + 7) % 8) rfl rfl Tryd.underlying114 Tryd.sizeOf113 (by omega) (by omega) (by omega)) rfl ?_   -- 122
    refine ow_do (does_store_map (V := vU32) 0 rfl rfl rfl rfl Tryd.sizeOf113 (by first | omega | (simp only [List.length_set]; omega))) (fun _ _ => ?_)
    refine ow_nil (into ?_)
    refine sw_region ?_
    refine ow_val (val_move rfl) rfl ?_   -- 26
    refine ow_val (val_add_int ((i + 1 : Nat) : Int) rfl rfl (by omega) (by omega)) rfl ?_   -- 27
    refine ow_val (val_assign rfl) rfl ?_   -- 8
    exact ow_nil (fun w hm => ⟨i + 1, by omega, by omega, ⟨rfl, rfl, rfl, rfl, rfl, rfl, trivial⟩, hm⟩)
  · -- else
    obtain rfl : i = 64 := by omega
    refine sw_exit (into ?_)
    refine sw_seq ?_
    refine sw_seq ?_
    refine sw_region ?_
    refine ow_val (val_assign rfl) rfl ?_   -- 19
    refine ow_nil (into ?_)
    refine sw_block ?_
    have hR : (rrs KT (spr p 64) h 64).length = 8 := by rw [rrs_len, hh]
    refine sw_loop (σ := Nat) (fun i => i ≤ 8) (fun i => [(19, vInt (i : Int)), (2, .pointer (some ⟨b2, 0, none⟩)), (4, .pointer (some ⟨b4, 0, none⟩)), (5, .pointer (some ⟨b5, 0, none⟩)), (6, .pointer (some ⟨b6, 0, none⟩)), (7, .pointer (some ⟨b7, 0, none⟩))]) (fun i => Mem w [] [some (b7, blk ((rrs KT (spr p 64) h 64).map vU32) 114), some (b6, blk (KT.map vU32) 131), some (b5, blk ((spr p 64).map vU32) 131), some (b4, blk ((List.replicate 8 (0 : UInt32)).map vU32) 114), some (b2, blk ((addUp h (rrs KT (spr p 64) h 64) i).map vU32) 114)]) (fun i => 8 - i) 0 (by omega) ⟨rfl, rfl, rfl, rfl, rfl, rfl, trivial⟩ (fun w hm => hm) (fun i hi => ?_)
    have hU := addUp_len h (rrs KT (spr p 64) h 64) i
    refine sw_seq ?_
    refine sw_seq ?_
    refine sw_region ?_
    refine ow_val (val_move rfl) rfl ?_   -- 123
    refine ow_val (val_lss_int rfl rfl) rfl ?_   -- 124
    refine ow_nil (into ?_)
    refine sw_if rfl (fun h1 => ?_) (fun h1 => ?_)
    · -- then
      refine sw_skip (into ?_)
      refine sw_seq ?_
      refine sw_block ?_
      refine sw_region_lex _ [8] [(0, 0), (1, 0), (3, 0), (4, 0), (2, 1), (5, 1), (6, 0), (7, 0), (8, 2)] (by kernel_rfl) (by kernel_rfl) (fun _ _ _ h => h) (fun _ h => h) (fun _ h => h.drawn _) ?_
      refine lw_pure rfl (val_move rfl) rfl ?_   -- 127
      refine lw_pure rfl (val_indexAddr (i) (i) rfl rfl Tryd.underlying114 Tryd.sizeOf113 (by omega) (by omega) (by omega)) rfl ?_   -- 128
      refine lw_pure rfl (val_move rfl) rfl ?_   -- 130
      refine lw_pure rfl (val_indexAddr (i) (i) rfl rfl Tryd.underlying114 Tryd.sizeOf113 (by omega) (by omega) (by omega)) rfl ?_   -- 131
      refine lw_held rfl (val_load_at 4 rfl rfl Tryd.isAgg113 (get_map _ _ _ (by omega))) rfl ?_   -- 129
      refine lw_held rfl (val_load_at 0 rfl rfl Tryd.isAgg113 (get_map _ _ _ (by first | omega | (simp only [List.length_set]; omega)))) rfl ?_   -- 132
      refine lw_pure rfl (val_add_u32 rfl rfl) rfl ?_   -- 133
      refine lw_pure rfl (val_indexAddr (i) (i) rfl rfl Tryd.underlying114 Tryd.sizeOf113 (by omega) (by omega) (by omega)) rfl ?_   -- 134
      refine lw_do rfl (does_store_map (V := vU32) 4 rfl rfl rfl rfl Tryd.sizeOf113 (by omega)) (fun h => nomatch h) (fun _ _ => ?_)
      refine lw_nil (into ?_)
      refine sw_region ?_
      refine ow_val (val_move rfl) rfl ?_   -- 125
      refine ow_val (val_add_int ((i + 1 : Nat) : Int) rfl rfl (by omega) (by omega)) rfl ?_   -- 126
      refine ow_val (val_assign rfl) rfl ?_   -- 19
      exact ow_nil (fun w hm => ⟨i + 1, by omega, by omega, ⟨rfl, rfl, rfl, rfl, rfl, rfl, trivial⟩, hm⟩)
    · -- else
      obtain rfl : i = 8 := by omega
      refine sw_exit (into ?_)
      refine sw_seq ?_
      refine sw_region ?_
      refine ow_val (val_load_all 4 rfl rfl Tryd.isAgg114 Tryd.sizeOf114 (by simp [hU, hh])) rfl ?_   -- 135
      refine ow_do_eq (does_store_all 3 rfl rfl rfl (one_u32s _) Tryd.sizeOf114 (by simp [hU, hh]) (by first | rfl | simp)) ?_
      refine ow_nil (into ?_)
      exact sw_ret (fun w hm => ret_cell 3 rfl rfl hm rfl Tryd.isAgg114 Tryd.sizeOf114 (by simp [hU, hh]) ⟨by rw [← compressR_eq h hh]; rfl, hm.forgetAll⟩)
end Go.Proofs.YtpmnhmfahgchgaaDoor
