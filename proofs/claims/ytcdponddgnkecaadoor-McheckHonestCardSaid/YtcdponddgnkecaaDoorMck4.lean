import Derived.Test.YtcdponddgnkecaaDoorMck3
import Derived.Test.YtcdponddgnkecaaDoorProg
set_option linter.unusedVariables false
set_option linter.unusedSimpArgs false
namespace Go.Proofs.YtcdponddgnkecaaDoor
open Go.Sx Go.Ps
def awX : List UInt8 := ([1, 2, 3, 4] : List UInt8) ++ List.replicate 28 0
def awY : List UInt8 := ([5, 6, 7, 8] : List UInt8) ++ List.replicate 28 0
theorem awX_len : awX.length = 32 := rfl
theorem awY_len : awY.length = 32 := rfl
theorem aw_he : allE 4 [awY] [awX] = 0 := by decide +kernel
theorem aw_yx : nd 4 awY awX = ([40, 116, 230, 72] : List UInt8) ++ List.replicate 28 0 := by rw [nd, dig, ← sum256_hash]; decide +kernel
theorem aw_xy : nd 4 awX awY = ([62, 68, 92, 222] : List UInt8) ++ List.replicate 28 0 := by rw [nd, dig, ← sum256_hash]; decide +kernel
theorem aw_s2 : splitU 2 = 1 := by decide +kernel
theorem awR : rootO 4 awX 1 2 [awY] = (nd 4 awY awX, 0) := by
  have h : upR 4 awX 1 2 [awY] = (nd 4 awY awX, true) := by
    rw [upR, if_neg (by decide), aw_s2, if_neg (by decide)]; rw [upR, if_pos (by decide)]
  rw [rootO, if_neg (by simp [aw_he]), if_neg (by decide), show ([awY] : List (List UInt8)).reverse = [awY] from rfl, show (4 : Int).toNat = 4 from rfl, h, if_pos rfl]
theorem awT : rootO 4 awX 0 2 [awY] = (nd 4 awX awY, 0) := by
  have h : upR 4 awX 0 2 [awY] = (nd 4 awX awY, true) := by
    rw [upR, if_neg (by decide), aw_s2, if_pos (by decide)]; rw [upR, if_pos (by decide)]
  rw [rootO, if_neg (by simp [aw_he]), if_neg (by decide), show ([awY] : List (List UInt8)).reverse = [awY] from rfl, show (4 : Int).toNat = 4 from rfl, h, if_pos rfl]
theorem awTwo : rootsO 4 1 2 awX [awY] = ((awX, nd 4 awX awY), 0) := by
  have h : twoR 4 awX 1 2 true [awY] = ((awX, nd 4 awX awY), true) := by
    rw [twoR, if_neg (by decide), if_neg (by decide), aw_s2, if_pos (by decide)]; rw [twoR, if_pos (by decide)]
  rw [rootsO, if_neg (by simp [aw_he]), if_neg (by decide), show ([awY] : List (List UInt8)).reverse = [awY] from rfl, show (4 : Int).toNat = 4 from rfl, h, if_pos rfl]
theorem aw_ne : nd 4 awY awX ≠ zeros32 := by rw [aw_yx]; decide +kernel
theorem aw_ne2 : nd 4 awY awX ≠ nd 4 awX awY := by rw [aw_yx, aw_xy]; decide +kernel
theorem awI : inclO 4 awX 1 2 [awY] (nd 4 awX awY) = 10 := by
  rw [inclO, if_neg (by simp [chk, fm_nd (k := 4) (by decide) (by decide), show fm 4 (nd 4 awX awY) = true from fm_nd (k := 4) (by decide) (by decide) _ _]; decide), awR, if_neg (by decide), if_pos aw_ne2]

theorem awake12 (w : World) (hK : KW w) : Calls Tryd.prog 30 #[] w fun e w' => ∃ v, e = .returned v ∧ v = .bool true ∧ Mem w [] [] w' := by
  refine calls_of_sw (vs := []) Tryd.func30 rfl Tryd.ntmps30 rfl (SW.begin ?_)
  refine sw_seq ?_
  refine sw_region ?_
  refine ow_val (val_assign rfl) rfl ?_
  refine ow_nil (into ?_)
  refine sw_seq ?_
  refine sw_region ?_
  refine ow_val (val_build' (cs := awX.map vU8) rfl (by kernel_rfl)) rfl ?_
  refine ow_val (val_build' (cs := awY.map vU8) rfl (by kernel_rfl)) rfl ?_
  refine ow_new (acts_alloc zD) rfl (fun b1 hb1 => ?_)
  refine ow_new (acts_alloc zD) rfl (fun b2 hb2 => ?_)
  refine ow_do_eq (does_store_all 1 rfl rfl rfl (one_u8s _) Tryd.sizeOf41 (by show (List.map vU8 awX).length = _; rw [List.length_map]; exact awX_len) (by show (List.map vU8 zeros32).length = _; rw [List.length_map]; exact zeros32_len)) ?_
  refine ow_do_eq (does_store_all 0 rfl rfl rfl (one_u8s _) Tryd.sizeOf41 (by show (List.map vU8 awY).length = _; rw [List.length_map]; exact awY_len) (by show (List.map vU8 zeros32).length = _; rw [List.length_map]; exact zeros32_len)) ?_
  refine ow_nil (into ?_)
  refine sw_seq ?_
  refine sw_region ?_
  refine ow_val (val_load_all 1 rfl rfl Tryd.isAgg41 Tryd.sizeOf41 (by show (List.map vU8 awX).length = _; rw [List.length_map]; exact awX_len)) rfl ?_
  refine ow_val (val_load_all 0 rfl rfl Tryd.isAgg41 Tryd.sizeOf41 (by show (List.map vU8 awY).length = _; rw [List.length_map]; exact awY_len)) rfl ?_
  refine ow_make (acts_buildSlice (cs := [awY.map vU8].flatten) Tryd.underlying22 Tryd.sizeOf41 zD rfl rfl (fill_aggs [awY.map vU8] (by decide) rfl (by simp only [List.forall_mem_cons, List.length_map]; exact ⟨awY_len, fun _ h => by cases h⟩))) rfl (fun b17 hb17 => ?_)
  refine ow_call_pure (v := .tuple #[.agg ((nd 4 awY awX).map vU8).toArray, vInt ((0 : Nat) : Int)]) (callsTo Tryd.func34 rfl (by kernel_rfl) rfl) rfl (fun w hm => (by have h := mroot_any (4 : Int) awX awX_len 1 2 w (hK.mem0 hm) (some ⟨b17, 0, none⟩) 1 1 ([awY]) rfl (by simp only [List.forall_mem_cons]; exact ⟨awY_len, fun _ h => by cases h⟩) (Rd.blk (hm.at (i := 0) rfl)) (by decide) (by decide) (by decide); rw [awR] at h; exact h)) ?_
  refine ow_val (val_move rfl) rfl ?_
  refine ow_val (val_extract rfl rfl) rfl ?_
  refine ow_val (val_extract rfl rfl) rfl ?_
  refine ow_new (acts_alloc zD) rfl (fun b3 hb3 => ?_)
  refine ow_do_eq (does_store_all 0 rfl rfl rfl (one_u8s _) Tryd.sizeOf41 (by show (List.map vU8 (nd 4 awY awX)).length = _; rw [List.length_map]; exact (nd_len _ _ _ (by decide))) (by show (List.map vU8 zeros32).length = _; rw [List.length_map]; exact zeros32_len)) ?_
  refine ow_val (val_assign rfl) rfl ?_
  refine ow_nil (into ?_)
  refine sw_seq ?_
  refine sw_region ?_
  refine ow_val (val_load_all 3 rfl rfl Tryd.isAgg41 Tryd.sizeOf41 (by show (List.map vU8 awX).length = _; rw [List.length_map]; exact awX_len)) rfl ?_
  refine ow_val (val_load_all 2 rfl rfl Tryd.isAgg41 Tryd.sizeOf41 (by show (List.map vU8 awY).length = _; rw [List.length_map]; exact awY_len)) rfl ?_
  refine ow_make (acts_buildSlice (cs := [awY.map vU8].flatten) Tryd.underlying22 Tryd.sizeOf41 zD rfl rfl (fill_aggs [awY.map vU8] (by decide) rfl (by simp only [List.forall_mem_cons, List.length_map]; exact ⟨awY_len, fun _ h => by cases h⟩))) rfl (fun b24 hb24 => ?_)
  refine ow_call_pure (v := .tuple #[.agg ((awX).map vU8).toArray, .agg ((nd 4 awX awY).map vU8).toArray, vInt ((0 : Nat) : Int)]) (callsTo Tryd.func40 rfl (by kernel_rfl) rfl) rfl (fun w hm => (by have h := mroots_any (4 : Int) awX awX_len 1 2 w (hK.mem0 hm) (some ⟨b24, 0, none⟩) 1 1 ([awY]) rfl (by simp only [List.forall_mem_cons]; exact ⟨awY_len, fun _ h => by cases h⟩) (Rd.blk (hm.at (i := 0) rfl)) (by decide) (by decide) (by decide); rw [awTwo] at h; exact h)) ?_
  refine ow_val (val_move rfl) rfl ?_
  refine ow_val (val_extract rfl rfl) rfl ?_
  refine ow_val (val_extract rfl rfl) rfl ?_
  refine ow_val (val_extract rfl rfl) rfl ?_
  refine ow_new (acts_alloc zD) rfl (fun b5 hb5 => ?_)
  refine ow_new (acts_alloc zD) rfl (fun b6 hb6 => ?_)
  refine ow_do_eq (does_store_all 1 rfl rfl rfl (one_u8s _) Tryd.sizeOf41 (by show (List.map vU8 awX).length = _; rw [List.length_map]; exact awX_len) (by show (List.map vU8 zeros32).length = _; rw [List.length_map]; exact zeros32_len)) ?_
  refine ow_do_eq (does_store_all 0 rfl rfl rfl (one_u8s _) Tryd.sizeOf41 (by show (List.map vU8 (nd 4 awX awY)).length = _; rw [List.length_map]; exact (nd_len _ _ _ (by decide))) (by show (List.map vU8 zeros32).length = _; rw [List.length_map]; exact zeros32_len)) ?_
  refine ow_val (val_assign rfl) rfl ?_
  refine ow_nil (into ?_)
  refine sw_seq ?_
  refine sw_region ?_
  refine ow_val (val_load_all 6 rfl rfl Tryd.isAgg41 Tryd.sizeOf41 (by show (List.map vU8 awX).length = _; rw [List.length_map]; exact awX_len)) rfl ?_
  refine ow_val (val_load_all 5 rfl rfl Tryd.isAgg41 Tryd.sizeOf41 (by show (List.map vU8 awY).length = _; rw [List.length_map]; exact awY_len)) rfl ?_
  refine ow_make (acts_buildSlice (cs := [awY.map vU8].flatten) Tryd.underlying22 Tryd.sizeOf41 zD rfl rfl (fill_aggs [awY.map vU8] (by decide) rfl (by simp only [List.forall_mem_cons, List.length_map]; exact ⟨awY_len, fun _ h => by cases h⟩))) rfl (fun b32 hb32 => ?_)
  refine ow_call_pure (v := .tuple #[.agg ((nd 4 awY awX).map vU8).toArray, vInt ((0 : Nat) : Int)]) (callsTo Tryd.func60 rfl (by kernel_rfl) rfl) rfl (fun w hm => (by have h := rroot_any (4 : Int) awX awX_len 1 2 w (hK.mem0 hm) (some ⟨b32, 0, none⟩) 1 1 ([awY]) rfl (by simp only [List.forall_mem_cons]; exact ⟨awY_len, fun _ h => by cases h⟩) (Rd.blk (hm.at (i := 0) rfl)) (by decide) (by decide) (by decide); rw [awR] at h; exact h)) ?_
  refine ow_val (val_move rfl) rfl ?_
  refine ow_val (val_extract rfl rfl) rfl ?_
  refine ow_val (val_extract rfl rfl) rfl ?_
  refine ow_new (acts_alloc zD) rfl (fun b8 hb8 => ?_)
  refine ow_do_eq (does_store_all 0 rfl rfl rfl (one_u8s _) Tryd.sizeOf41 (by show (List.map vU8 (nd 4 awY awX)).length = _; rw [List.length_map]; exact (nd_len _ _ _ (by decide))) (by show (List.map vU8 zeros32).length = _; rw [List.length_map]; exact zeros32_len)) ?_
  refine ow_val (val_assign rfl) rfl ?_
  refine ow_nil (into ?_)
  refine sw_seq ?_
  refine sw_region ?_
  refine ow_val (val_load_all 8 rfl rfl Tryd.isAgg41 Tryd.sizeOf41 (by show (List.map vU8 awX).length = _; rw [List.length_map]; exact awX_len)) rfl ?_
  refine ow_val (val_load_all 7 rfl rfl Tryd.isAgg41 Tryd.sizeOf41 (by show (List.map vU8 awY).length = _; rw [List.length_map]; exact awY_len)) rfl ?_
  refine ow_make (acts_buildSlice (cs := [awY.map vU8].flatten) Tryd.underlying22 Tryd.sizeOf41 zD rfl rfl (fill_aggs [awY.map vU8] (by decide) rfl (by simp only [List.forall_mem_cons, List.length_map]; exact ⟨awY_len, fun _ h => by cases h⟩))) rfl (fun b39 hb39 => ?_)
  refine ow_call_pure (v := .tuple #[.agg ((nd 4 awX awY).map vU8).toArray, vInt ((0 : Nat) : Int)]) (callsTo Tryd.func60 rfl (by kernel_rfl) rfl) rfl (fun w hm => (by have h := rroot_any (4 : Int) awX awX_len 0 2 w (hK.mem0 hm) (some ⟨b39, 0, none⟩) 1 1 ([awY]) rfl (by simp only [List.forall_mem_cons]; exact ⟨awY_len, fun _ h => by cases h⟩) (Rd.blk (hm.at (i := 0) rfl)) (by decide) (by decide) (by decide); rw [awT] at h; exact h)) ?_
  refine ow_val (val_move rfl) rfl ?_
  refine ow_val (val_extract rfl rfl) rfl ?_
  refine ow_val (val_extract rfl rfl) rfl ?_
  refine ow_new (acts_alloc zD) rfl (fun b10 hb10 => ?_)
  refine ow_do_eq (does_store_all 0 rfl rfl rfl (one_u8s _) Tryd.sizeOf41 (by show (List.map vU8 (nd 4 awX awY)).length = _; rw [List.length_map]; exact (nd_len _ _ _ (by decide))) (by show (List.map vU8 zeros32).length = _; rw [List.length_map]; exact zeros32_len)) ?_
  refine ow_val (val_assign rfl) rfl ?_
  refine ow_nil (into ?_)
  refine sw_seq ?_
  refine sw_region ?_
  refine ow_val (val_move rfl) rfl ?_
  refine ow_val ((val_eql_int rfl rfl).to (v' := .bool true) (congrArg Value.bool (decide_eq_true (by simp)))) rfl ?_
  refine ow_val (val_move rfl) rfl ?_
  refine ow_guard_yes rfl rfl rfl ?_
  refine ow_val (val_move rfl) rfl ?_
  refine ow_guard_yes rfl rfl rfl ?_
  refine ow_val ((val_eql_int rfl rfl).to (v' := .bool true) (congrArg Value.bool (decide_eq_true (by simp)))) rfl ?_
  refine ow_val (val_pick_true rfl rfl) rfl ?_
  refine ow_val (val_move rfl) rfl ?_
  refine ow_guard_yes rfl rfl rfl ?_
  refine ow_val (val_load_all 7 rfl rfl Tryd.isAgg41 Tryd.sizeOf41 (by show (List.map vU8 (nd 4 awY awX)).length = _; rw [List.length_map]; exact (nd_len _ _ _ (by decide)))) rfl ?_
  refine ow_guard_yes rfl rfl rfl ?_
  refine ow_val (val_load_all 2 rfl rfl Tryd.isAgg41 Tryd.sizeOf41 (by show (List.map vU8 (nd 4 awY awX)).length = _; rw [List.length_map]; exact (nd_len _ _ _ (by decide)))) rfl ?_
  refine ow_guard_yes rfl rfl rfl ?_
  refine ow_val ((val_eql_u8s rfl rfl Tryd.eqGuardType41 Tryd.underlying41 Tryd.underlying5 Tryd.sizeOf5 Tryd.isAgg5 (nd_len _ _ _ (by decide)) (nd_len _ _ _ (by decide))).to (congrArg Value.bool (show _ = true by simp [txt]))) rfl ?_
  refine ow_val (val_pick_true rfl rfl) rfl ?_
  refine ow_val (val_move rfl) rfl ?_
  refine ow_guard_yes rfl rfl rfl ?_
  refine ow_val (val_load_all 5 rfl rfl Tryd.isAgg41 Tryd.sizeOf41 (by show (List.map vU8 awX).length = _; rw [List.length_map]; exact awX_len)) rfl ?_
  refine ow_guard_yes rfl rfl rfl ?_
  refine ow_val (val_load_all 10 rfl rfl Tryd.isAgg41 Tryd.sizeOf41 (by show (List.map vU8 awX).length = _; rw [List.length_map]; exact awX_len)) rfl ?_
  refine ow_guard_yes rfl rfl rfl ?_
  refine ow_val ((val_eql_u8s rfl rfl Tryd.eqGuardType41 Tryd.underlying41 Tryd.underlying5 Tryd.sizeOf5 Tryd.isAgg5 awX_len awX_len).to (congrArg Value.bool (show _ = true by simp [txt]))) rfl ?_
  refine ow_val (val_pick_true rfl rfl) rfl ?_
  refine ow_val (val_move rfl) rfl ?_
  refine ow_guard_yes rfl rfl rfl ?_
  refine ow_val (val_load_all 4 rfl rfl Tryd.isAgg41 Tryd.sizeOf41 (by show (List.map vU8 (nd 4 awX awY)).length = _; rw [List.length_map]; exact (nd_len _ _ _ (by decide)))) rfl ?_
  refine ow_guard_yes rfl rfl rfl ?_
  refine ow_val (val_load_all 0 rfl rfl Tryd.isAgg41 Tryd.sizeOf41 (by show (List.map vU8 (nd 4 awX awY)).length = _; rw [List.length_map]; exact (nd_len _ _ _ (by decide)))) rfl ?_
  refine ow_guard_yes rfl rfl rfl ?_
  refine ow_val ((val_eql_u8s rfl rfl Tryd.eqGuardType41 Tryd.underlying41 Tryd.underlying5 Tryd.sizeOf5 Tryd.isAgg5 (nd_len _ _ _ (by decide)) (nd_len _ _ _ (by decide))).to (congrArg Value.bool (show _ = true by simp [txt]))) rfl ?_
  refine ow_val (val_pick_true rfl rfl) rfl ?_
  refine ow_val (val_move rfl) rfl ?_
  refine ow_guard_yes rfl rfl rfl ?_
  refine ow_val (val_load_all 2 rfl rfl Tryd.isAgg41 Tryd.sizeOf41 (by show (List.map vU8 (nd 4 awY awX)).length = _; rw [List.length_map]; exact (nd_len _ _ _ (by decide)))) rfl ?_
  refine ow_guard_yes rfl rfl rfl ?_
  refine ow_val (val_build' (cs := zeros32.map vU8) rfl (by kernel_rfl)) rfl ?_
  refine ow_guard_yes rfl rfl rfl ?_
  refine ow_val ((val_neq_u8s rfl rfl Tryd.eqGuardType41 Tryd.underlying41 Tryd.underlying5 Tryd.sizeOf5 Tryd.isAgg5 (nd_len _ _ _ (by decide)) zeros32_len).to (congrArg Value.bool (show (!_) = true by rw [decide_eq_false aw_ne]; rfl))) rfl ?_
  refine ow_val (val_pick_true rfl rfl) rfl ?_
  refine ow_val (val_move rfl) rfl ?_
  refine ow_guard_yes rfl rfl rfl ?_
  refine ow_val (val_load_all 10 rfl rfl Tryd.isAgg41 Tryd.sizeOf41 (by show (List.map vU8 awX).length = _; rw [List.length_map]; exact awX_len)) rfl ?_
  refine ow_guard_yes rfl rfl rfl ?_
  refine ow_val (val_load_all 9 rfl rfl Tryd.isAgg41 Tryd.sizeOf41 (by show (List.map vU8 awY).length = _; rw [List.length_map]; exact awY_len)) rfl ?_
  refine ow_guard_yes rfl rfl rfl ?_
  refine ow_make (acts_buildSlice (cs := [awY.map vU8].flatten) Tryd.underlying22 Tryd.sizeOf41 zD rfl rfl (fill_aggs [awY.map vU8] (by decide) rfl (by simp only [List.forall_mem_cons, List.length_map]; exact ⟨awY_len, fun _ h => by cases h⟩))) rfl (fun b72 hb72 => ?_)
  refine ow_guard_yes rfl rfl rfl ?_
  refine ow_val (val_load_all 1 rfl rfl Tryd.isAgg41 Tryd.sizeOf41 (by show (List.map vU8 (nd 4 awX awY)).length = _; rw [List.length_map]; exact (nd_len _ _ _ (by decide)))) rfl ?_
  refine ow_guard_yes rfl rfl rfl ?_
  refine ow_call_pure (v := vInt ((10 : Nat) : Int)) (callsTo Tryd.func32 rfl (by kernel_rfl) rfl) rfl (fun w hm => (by have h := mincl_any (4 : Int) awX awX_len 1 2 (nd 4 awX awY) (nd_len _ _ _ (by decide)) w (hK.mem0 hm) (some ⟨b72, 0, none⟩) 1 1 ([awY]) rfl (by simp only [List.forall_mem_cons]; exact ⟨awY_len, fun _ h => by cases h⟩) (Rd.blk (hm.at (i := 0) rfl)) (by decide) (by decide) (by decide); rw [awI] at h; exact h)) ?_
  refine ow_guard_yes rfl rfl rfl ?_
  refine ow_val ((val_eql_int rfl rfl).to (v' := .bool true) (congrArg Value.bool (decide_eq_true (by simp)))) rfl ?_
  refine ow_val (val_pick_true rfl rfl) rfl ?_
  refine ow_val (val_assign rfl) rfl ?_
  refine ow_nil (into ?_)
  exact sw_ret (fun w hm => ret_one _ rfl rfl ⟨rfl, hm.forgetAll⟩)
end Go.Proofs.YtcdponddgnkecaaDoor
