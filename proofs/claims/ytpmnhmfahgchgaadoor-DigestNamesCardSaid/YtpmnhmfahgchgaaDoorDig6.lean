import Derived.Test.YtpmnhmfahgchgaaDoorDig5
import Derived.Test.YtpmnhmfahgchgaaDoorProg
set_option linter.unusedVariables false
set_option linter.unusedSimpArgs false
namespace Go.Proofs.YtpmnhmfahgchgaaDoor
open Go.Sx Go.Ps
def nE : List Int := [0, 1, 2, 3, 4, 5, 6, 7, 8, 9, 10, 11, 12, 13, 14]
def nN : List Int := [32, 64, 256, 64, 65535, 4096, 1048576, 64, 64, 128, 1000, 100000, 400]
def nM : List Int := [32, 64, 256, 64, 65535, 4096, 1048576, 64, 64, 128, 1000, 100000, 400]
def nK : List UInt8 := [1, 2, 1, 2, 3, 1, 2, 3, 4, 5, 6, 7, 1, 2, 3, 4, 5, 6, 7, 8, 9, 10, 11]
def nO : List UInt8 := [1, 2, 1, 2, 3, 1, 2, 3, 4, 5, 6, 7, 1, 2, 3, 4, 5, 6, 7, 8, 9, 10, 11]
theorem nE_len : nE.length = 15 := rfl
theorem nN_len : nN.length = 13 := rfl
theorem nM_len : nM.length = 13 := rfl
theorem nK_len : nK.length = 23 := rfl
theorem nO_len : nO.length = 23 := rfl
theorem nE_get : ∀ j, j < 15 → nE.getD j default = (j : Int) := by decide +kernel
theorem nN_get : ∀ j, j < 13 → nN.getD j default = nM.getD j default := by decide +kernel
theorem nK_get : ∀ j, j < 23 → nK.getD j default = nO.getD j default := by decide +kernel

theorem digestNames_any (w : World) (hK : KW w) : Calls Tryd.prog 3 #[] w fun e w' => ∃ v, e = .returned v ∧ v = .bool true ∧ Mem w [] [] w' := by
  refine calls_of_sw (vs := []) Tryd.func3 rfl Tryd.ntmps3 rfl (SW.begin ?_)
  refine sw_seq ?_
  refine sw_region ?_
  refine ow_val (val_assign rfl) rfl ?_   -- 0
  refine ow_nil (into ?_)
  refine sw_seq ?_
  refine sw_region ?_
  refine ow_make (acts_buildSlice (cs := nE.map vInt) Tryd.underlying23 Tryd.sizeOf22 Tryd.zeroValue22 rfl rfl (by kernel_rfl)) rfl (fun b12 hb12 => ?_)   -- 12
  refine ow_val (val_assign rfl) rfl ?_   -- 1
  refine ow_nil (into ?_)
  refine sw_seq ?_
  refine sw_seq ?_
  refine sw_region ?_
  refine ow_val (val_move rfl) rfl ?_   -- 13
  refine ow_val (val_len rfl Tryd.underlying23) rfl ?_   -- 14
  refine ow_val (val_move rfl) rfl ?_   -- 15
  refine ow_nil (into ?_)
  refine sw_block ?_
  refine sw_loop (σ := Nat) (fun j => j ≤ 15) (fun j => [(15, vInt (j : Int)), (14, vInt ((15 : Nat) : Int)), (13, .slice (some ⟨b12, 0, none⟩) 15 15)]) (fun _ => Mem w [] [some (b12, blk (nE.map vInt) 22)]) (fun j => 15 - j) 0 (by omega) ⟨rfl, rfl, rfl, trivial⟩ (fun w hm => hm.only (.cons_cons _ (List.nil_sublist _))) ?_
  intro j hj
  refine sw_seq ?_
  refine sw_region ?_
  refine ow_val (val_lss_int rfl rfl) rfl ?_   -- 16
  refine ow_nil (into ?_)
  refine sw_seq ?_
  refine sw_if rfl (fun h0 => ?_) (fun h0 => ?_)
  · -- then
    refine sw_skip (into ?_)
    refine sw_seq ?_
    refine sw_block ?_
    refine sw_seq ?_
    refine sw_region ?_
    refine ow_val (val_move rfl) rfl ?_   -- 17
    refine ow_val (val_indexAddr_slice (j) (j) rfl rfl Tryd.underlying23 Tryd.sizeOf22 (by omega) (by omega) (by omega)) rfl ?_   -- 18
    refine ow_val ((val_load_at 0 rfl rfl Tryd.isAgg22 (get_map vInt nE j (by rw [nE_len]; omega))).to (congrArg vInt (nE_get j (by omega)))) rfl ?_   -- 19
    refine ow_val (val_assign rfl) rfl ?_   -- 2
    refine ow_val (val_assign rfl) rfl ?_   -- 3
    refine ow_nil (into ?_)
    refine sw_seq ?_
    refine sw_region ?_
    refine ow_val (val_move rfl) rfl ?_   -- 20
    refine ow_val (val_move rfl) rfl ?_   -- 21
    refine ow_val ((val_neq_int rfl rfl).to (v' := .bool false) (congrArg Value.bool (decide_eq_false (fun h => h rfl)))) rfl ?_   -- 22
    refine ow_nil (into ?_)
    refine sw_false rfl rfl ?_
    refine sw_skip (into ?_)
    refine sw_region ?_
    refine ow_val (val_add_int ((j + 1 : Nat) : Int) rfl rfl (by omega) (by omega)) rfl ?_   -- 23
    refine ow_val (val_move rfl) rfl ?_   -- 15
    exact ow_nil (fun w hm => ⟨j + 1, by omega, by omega, ⟨rfl, rfl, rfl, trivial⟩, hm.only (.cons_cons _ (List.nil_sublist _))⟩)
  · -- else
    refine sw_exit (into ?_)
    refine sw_seq ?_
    refine sw_region ?_
    refine ow_make (acts_buildSlice (cs := nN.map vInt) Tryd.underlying24 Tryd.sizeOf3 Tryd.zeroValue3 rfl rfl (by kernel_rfl)) rfl (fun b24 hb24 => ?_)   -- 24
    refine ow_val (val_assign rfl) rfl ?_   -- 4
    refine ow_nil (into ?_)
    refine sw_seq ?_
    refine sw_region ?_
    refine ow_make (acts_buildSlice (cs := nM.map vInt) Tryd.underlying24 Tryd.sizeOf3 Tryd.zeroValue3 rfl rfl (by kernel_rfl)) rfl (fun b25 hb25 => ?_)   -- 25
    refine ow_val (val_assign rfl) rfl ?_   -- 5
    refine ow_nil (into ?_)
    refine sw_seq ?_
    refine sw_seq ?_
    refine sw_region ?_
    refine ow_val (val_move rfl) rfl ?_   -- 26
    refine ow_val (val_len rfl Tryd.underlying24) rfl ?_   -- 27
    refine ow_val (val_move rfl) rfl ?_   -- 28
    refine ow_nil (into ?_)
    refine sw_block ?_
    refine sw_loop (σ := Nat) (fun j => j ≤ 13) (fun j => [(28, vInt (j : Int)), (27, vInt ((13 : Nat) : Int)), (5, .slice (some ⟨b25, 0, none⟩) 13 13), (4, .slice (some ⟨b24, 0, none⟩) 13 13)]) (fun _ => Mem w [] [some (b25, blk (nM.map vInt) 3), some (b24, blk (nN.map vInt) 3)]) (fun j => 13 - j) 0 (by omega) ⟨rfl, rfl, rfl, rfl, trivial⟩ (fun w hm => hm.only (.cons_cons _ (.cons_cons _ (List.nil_sublist _)))) ?_
    intro j hj
    refine sw_seq ?_
    refine sw_region ?_
    refine ow_val (val_lss_int rfl rfl) rfl ?_   -- 29
    refine ow_nil (into ?_)
    refine sw_seq ?_
    refine sw_if rfl (fun h0 => ?_) (fun h0 => ?_)
    · -- then
      refine sw_skip (into ?_)
      refine sw_seq ?_
      refine sw_block ?_
      refine sw_seq ?_
      refine sw_region ?_
      refine ow_val (val_move rfl) rfl ?_   -- 30
      refine ow_val (val_assign rfl) rfl ?_   -- 6
      refine ow_nil (into ?_)
      refine sw_seq ?_
      refine sw_region_lex _ [] [(0, 0), (1, 0), (2, 0), (4, 0), (5, 0), (6, 0), (3, 1), (7, 1), (8, 0)] (by kernel_rfl) (by kernel_rfl) (fun _ _ _ h => h) (fun _ h => h) (fun _ h => h.drawn _) ?_
      refine lw_pure rfl (val_move rfl) rfl ?_   -- 31
      refine lw_pure rfl (val_move rfl) rfl ?_   -- 32
      refine lw_pure rfl (val_indexAddr_slice (j) (j) rfl rfl Tryd.underlying24 Tryd.sizeOf3 (by omega) (by omega) (by omega)) rfl ?_   -- 33
      refine lw_pure rfl (val_move rfl) rfl ?_   -- 35
      refine lw_pure rfl (val_move rfl) rfl ?_   -- 36
      refine lw_pure rfl (val_indexAddr_slice (j) (j) rfl rfl Tryd.underlying24 Tryd.sizeOf3 (by omega) (by omega) (by omega)) rfl ?_   -- 37
      refine lw_held rfl (val_load_at 1 rfl rfl Tryd.isAgg3 (get_map vInt nN j (by rw [nN_len]; omega))) rfl ?_   -- 34
      refine lw_held rfl (val_load_at 0 rfl rfl Tryd.isAgg3 (get_map vInt nM j (by rw [nM_len]; omega))) rfl ?_   -- 38
      refine lw_pure rfl ((val_neq_int rfl rfl).to (v' := .bool false) (congrArg Value.bool (decide_eq_false (fun h => h (nN_get j (by omega)))))) rfl ?_   -- 39
      refine lw_nil (into ?_)
      refine sw_false rfl rfl ?_
      refine sw_skip (into ?_)
      refine sw_region ?_
      refine ow_val (val_add_int ((j + 1 : Nat) : Int) rfl rfl (by omega) (by omega)) rfl ?_   -- 40
      refine ow_val (val_move rfl) rfl ?_   -- 28
      exact ow_nil (fun w hm => ⟨j + 1, by omega, by omega, ⟨rfl, rfl, rfl, rfl, trivial⟩, hm.only (.cons_cons _ (.cons_cons _ (List.nil_sublist _)))⟩)
    · -- else
      refine sw_exit (into ?_)
      refine sw_seq ?_
      refine sw_region ?_
      refine ow_make (acts_buildSlice (cs := nK.map vU8) Tryd.underlying25 Tryd.sizeOf5 Tryd.zeroValue5 rfl rfl (by kernel_rfl)) rfl (fun b41 hb41 => ?_)   -- 41
      refine ow_val (val_assign rfl) rfl ?_   -- 7
      refine ow_nil (into ?_)
      refine sw_seq ?_
      refine sw_region ?_
      refine ow_make (acts_buildSlice (cs := nO.map vU8) Tryd.underlying25 Tryd.sizeOf5 Tryd.zeroValue5 rfl rfl (by kernel_rfl)) rfl (fun b42 hb42 => ?_)   -- 42
      refine ow_val (val_assign rfl) rfl ?_   -- 8
      refine ow_nil (into ?_)
      refine sw_seq ?_
      refine sw_seq ?_
      refine sw_region ?_
      refine ow_val (val_move rfl) rfl ?_   -- 43
      refine ow_val (val_len rfl Tryd.underlying25) rfl ?_   -- 44
      refine ow_val (val_move rfl) rfl ?_   -- 45
      refine ow_nil (into ?_)
      refine sw_block ?_
      refine sw_loop (σ := Nat) (fun j => j ≤ 23) (fun j => [(45, vInt (j : Int)), (44, vInt ((23 : Nat) : Int)), (8, .slice (some ⟨b42, 0, none⟩) 23 23), (7, .slice (some ⟨b41, 0, none⟩) 23 23)]) (fun _ => Mem w [] [some (b42, blk (nO.map vU8) 5), some (b41, blk (nK.map vU8) 5)]) (fun j => 23 - j) 0 (by omega) ⟨rfl, rfl, rfl, rfl, trivial⟩ (fun w hm => hm.only (.cons_cons _ (.cons_cons _ (List.nil_sublist _)))) ?_
      intro j hj
      refine sw_seq ?_
      refine sw_region ?_
      refine ow_val (val_lss_int rfl rfl) rfl ?_   -- 46
      refine ow_nil (into ?_)
      refine sw_seq ?_
      refine sw_if rfl (fun h0 => ?_) (fun h0 => ?_)
      · -- then
        refine sw_skip (into ?_)
        refine sw_seq ?_
        refine sw_block ?_
        refine sw_seq ?_
        refine sw_region ?_
        refine ow_val (val_move rfl) rfl ?_   -- 47
        refine ow_val (val_assign rfl) rfl ?_   -- 9
        refine ow_nil (into ?_)
        refine sw_seq ?_
        refine sw_region_lex _ [] [(0, 0), (1, 0), (2, 0), (4, 0), (5, 0), (6, 0), (3, 1), (7, 1), (8, 0)] (by kernel_rfl) (by kernel_rfl) (fun _ _ _ h => h) (fun _ h => h) (fun _ h => h.drawn _) ?_
        refine lw_pure rfl (val_move rfl) rfl ?_   -- 48
        refine lw_pure rfl (val_move rfl) rfl ?_   -- 49
        refine lw_pure rfl (val_indexAddr_slice (j) (j) rfl rfl Tryd.underlying25 Tryd.sizeOf5 (by omega) (by omega) (by omega)) rfl ?_   -- 50
        refine lw_pure rfl (val_move rfl) rfl ?_   -- 52
        refine lw_pure rfl (val_move rfl) rfl ?_   -- 53
        refine lw_pure rfl (val_indexAddr_slice (j) (j) rfl rfl Tryd.underlying25 Tryd.sizeOf5 (by omega) (by omega) (by omega)) rfl ?_   -- 54
        refine lw_held rfl (val_load_at 1 rfl rfl Tryd.isAgg5 (get_map vU8 nK j (by rw [nK_len]; omega))) rfl ?_   -- 51
        refine lw_held rfl (val_load_at 0 rfl rfl Tryd.isAgg5 (get_map vU8 nO j (by rw [nO_len]; omega))) rfl ?_   -- 55
        refine lw_pure rfl ((val_neq_u8 rfl rfl).to (v' := .bool false) (congrArg Value.bool (decide_eq_false (fun h => h (nK_get j (by omega)))))) rfl ?_   -- 56
        refine lw_nil (into ?_)
        refine sw_false rfl rfl ?_
        refine sw_skip (into ?_)
        refine sw_region ?_
        refine ow_val (val_add_int ((j + 1 : Nat) : Int) rfl rfl (by omega) (by omega)) rfl ?_   -- 57
        refine ow_val (val_move rfl) rfl ?_   -- 45
        exact ow_nil (fun w hm => ⟨j + 1, by omega, by omega, ⟨rfl, rfl, rfl, rfl, trivial⟩, hm.only (.cons_cons _ (.cons_cons _ (List.nil_sublist _)))⟩)
      · -- else
        refine sw_exit (into ?_)
        refine sw_seq ?_
        refine sw_region ?_
        refine ow_call_pure (v := .tuple #[.agg ((([231] : List UInt8) ++ List.replicate 31 0).map vU8).toArray, vInt ((0 : Nat) : Int)]) (callsTo Tryd.func13 rfl (by kernel_rfl) rfl) rfl (fun w hm => (by have h := nomap_any 1 w (hK.mem0 hm); rw [show digO (1 : Int) [5] 0 = ([0xe7] ++ List.replicate 31 0, 0) from by rw [show (1 : Int) = ((1 : Nat) : Int) from rfl, digO_yes (by decide) (by decide), dig_nomap]] at h; exact h)) ?_   -- 59
        refine ow_val (val_move rfl) rfl ?_   -- 58
        refine ow_val (val_extract rfl rfl) rfl ?_   -- 60
        refine ow_val (val_extract rfl rfl) rfl ?_   -- 61
        refine ow_new (acts_alloc zD) rfl (fun b10 hb10 => ?_)   -- 10
        refine ow_do_eq (does_store_all 0 rfl rfl rfl (one_u8s _) Tryd.sizeOf27 rfl (by show (List.map vU8 zeros32).length = _; rw [List.length_map]; exact zeros32_len)) ?_
        refine ow_val (val_assign rfl) rfl ?_   -- 11
        refine ow_nil (into ?_)
        refine sw_seq ?_
        refine sw_region ?_
        refine ow_val (val_move rfl) rfl ?_   -- 62
        refine ow_guard_yes rfl rfl rfl ?_
        refine ow_val (val_move rfl) rfl ?_   -- 63
        refine ow_guard_yes rfl rfl rfl ?_
        refine ow_val ((val_eql_int rfl rfl).to (v' := .bool true) (congrArg Value.bool (decide_eq_true (by simp)))) rfl ?_   -- 64
        refine ow_val (val_pick_true rfl rfl) rfl ?_   -- 65
        refine ow_val (val_move rfl) rfl ?_   -- 66
        refine ow_guard_yes rfl rfl rfl ?_
        refine ow_val (val_load_all 0 rfl rfl Tryd.isAgg27 Tryd.sizeOf27 rfl) rfl ?_   -- 67
        refine ow_guard_yes rfl rfl rfl ?_
        refine ow_val (val_build' (cs := (([231] : List UInt8) ++ List.replicate 31 0).map vU8) rfl (by kernel_rfl)) rfl ?_   -- 68
        refine ow_guard_yes rfl rfl rfl ?_
        refine ow_val ((val_eql_u8s rfl rfl Tryd.eqGuardType27 Tryd.underlying27 Tryd.underlying5 Tryd.sizeOf5 Tryd.isAgg5 rfl rfl).to (congrArg Value.bool (show _ = true by simp [txt]))) rfl ?_   -- 69
        refine ow_val (val_pick_true rfl rfl) rfl ?_   -- 70
        refine ow_val (val_assign rfl) rfl ?_   -- 0
        refine ow_nil (into ?_)
        exact sw_ret (fun w hm => ret_one _ rfl rfl ⟨rfl, hm.forgetAll⟩)
end Go.Proofs.YtpmnhmfahgchgaaDoor
