import Derived.Test.YtbhbhdojmacpmaaDoorMck3
import Derived.Test.YtbhbhdojmacpmaaDoorProg
set_option linter.unusedVariables false
set_option linter.unusedSimpArgs false
namespace Go.Proofs.YtbhbhdojmacpmaaDoor
open Go.Sx Go.Ps
def askC (v0 : Int) (leaf : List UInt8) (i n : UInt64) (s : Value) (root : List UInt8) : List Value := vInt v0 :: (leaf.map vU8 ++ (vU64 i :: vU64 n :: s :: root.map vU8))
section
variable {v0 : Int} {leaf : List UInt8} {i n : UInt64} {s : Value} {root : List UInt8}
theorem ask_len (h : leaf.length = 32) (h2 : root.length = 32) : (askC v0 leaf i n s root).length = 68 := by simp [askC, h, h2]
theorem ask_leaf (h : leaf.length = 32) : ((askC v0 leaf i n s root).drop 1).take 32 = leaf.map vU8 := by
  rw [askC, List.drop_succ_cons, List.drop_zero, List.take_left' (by rw [List.length_map]; exact h)]
theorem ask_drop (h : leaf.length = 32) : (askC v0 leaf i n s root).drop 33 = vU64 i :: vU64 n :: s :: root.map vU8 := by
  rw [askC, List.drop_succ_cons, List.drop_left' (by rw [List.length_map]; exact h)]
theorem ask_root (h : leaf.length = 32) (h2 : root.length = 32) : ((askC v0 leaf i n s root).drop 36).take 32 = root.map vU8 := by
  have h3 := congrArg (List.drop 3) (ask_drop (v0 := v0) (i := i) (n := n) (s := s) (root := root) h)
  rw [List.drop_drop, show (33 + 3 : Nat) = 36 from rfl] at h3
  rw [h3, List.drop_succ_cons, List.drop_succ_cons, List.drop_succ_cons, List.drop_zero, List.take_of_length_le (by rw [List.length_map]; omega)]
theorem ask_get (h : leaf.length = 32) (j : Nat) : (askC v0 leaf i n s root)[33 + j]? = (vU64 i :: vU64 n :: s :: root.map vU8)[j]? := by
  rw [← ask_drop (v0 := v0) h, List.getElem?_drop]
theorem ask_33 (h : leaf.length = 32) : (askC v0 leaf i n s root)[33]? = some (vU64 i) := ask_get h 0
theorem ask_34 (h : leaf.length = 32) : (askC v0 leaf i n s root)[34]? = some (vU64 n) := ask_get h 1
theorem ask_35 (h : leaf.length = 32) : (askC v0 leaf i n s root)[35]? = some s := ask_get h 2
end

theorem twin_any (w : World) (a : Option Addr) (m c : Nat) (proof : List (List UInt8)) (hpm : proof.length = m) (hpl : ∀ d ∈ proof, d.length = 32) (hr : Rd w a (proof.flatMap fun d => d.map vU8)) (hc : m ≤ c) (hl : m < 9223372036854775808) (hb : (m + 2) * 32 ≤ 140737488355328) : Calls Tryd.prog 13 #[.slice a m c] w fun e w' => ∃ v, e = .returned v ∧ ∃ e', RowE v 23 32 m (proof.flatMap fun d => d.map vU8) e' ∧ Mem w [] [e'] w' := by
  subst hpm; exact twin_0 w a c proof hpl hr hc hl hb

def awX : List UInt8 := ([1, 2, 3, 4] : List UInt8) ++ List.replicate 28 0
def awY : List UInt8 := ([5, 6, 7, 8] : List UInt8) ++ List.replicate 28 0
theorem awX_len : awX.length = 32 := rfl
theorem awY_len : awY.length = 32 := rfl
theorem aw_he : allE 4 [awY] [awX] = 0 := by decide +kernel
theorem aw_yx : nd 4 awY awX = ([40, 116, 230, 72] : List UInt8) ++ List.replicate 28 0 := by rw [nd, dig, ← sum256_hash]; decide +kernel
theorem aw_xy : nd 4 awX awY = ([62, 68, 92, 222] : List UInt8) ++ List.replicate 28 0 := by rw [nd, dig, ← sum256_hash]; decide +kernel
theorem aw_s2 : splitU 2 = 1 := by decide +kernel
theorem awR : rootO 4 awX 1 2 [awY] = (nd 4 awY awX, 0) := by
  have h : upR 4 awX 1 2 [awY] = (nd 4 awY awX, true) := by
    rw [upR, if_neg (by decide), aw_s2, if_neg (by decide)]; rw [upR, if_pos (by decide)]
  rw [rootO, if_neg (by simp [aw_he]), if_neg (by decide), show ([awY] : List (List UInt8)).reverse = [awY] from rfl, show (4 : Int).toNat = 4 from rfl, h, if_pos rfl]
theorem awT : rootO 4 awX 0 2 [awY] = (nd 4 awX awY, 0) := by
  have h : upR 4 awX 0 2 [awY] = (nd 4 awX awY, true) := by
    rw [upR, if_neg (by decide), aw_s2, if_pos (by decide)]; rw [upR, if_pos (by decide)]
  rw [rootO, if_neg (by simp [aw_he]), if_neg (by decide), show ([awY] : List (List UInt8)).reverse = [awY] from rfl, show (4 : Int).toNat = 4 from rfl, h, if_pos rfl]
theorem awTwo : rootsO 4 1 2 awX [awY] = ((awX, nd 4 awX awY), 0) := by
  have h : twoR 4 awX 1 2 true [awY] = ((awX, nd 4 awX awY), true) := by
    rw [twoR, if_neg (by decide), if_neg (by decide), aw_s2, if_pos (by decide)]; rw [twoR, if_pos (by decide)]
  rw [rootsO, if_neg (by simp [aw_he]), if_neg (by decide), show ([awY] : List (List UInt8)).reverse = [awY] from rfl, show (4 : Int).toNat = 4 from rfl, h, if_pos rfl]
theorem aw_ne : nd 4 awY awX ≠ zeros32 := by rw [aw_yx]; decide +kernel
theorem aw_ne2 : nd 4 awY awX ≠ nd 4 awX awY := by rw [aw_yx, aw_xy]; decide +kernel
theorem awI : inclO 4 awX 1 2 [awY] (nd 4 awX awY) = 10 := by
  rw [inclO, if_neg (by simp [chk, fm_nd (k := 4) (by decide) (by decide), show fm 4 (nd 4 awX awY) = true from fm_nd (k := 4) (by decide) (by decide) _ _]; decide), awR, if_neg (by decide), if_pos aw_ne2]

theorem awake_any (w : World) (hK : KW w) : Calls Tryd.prog 15 #[] w fun e w' => ∃ v, e = .returned v ∧ v = .bool true ∧ Mem w [] [] w' := by
  refine calls_of_sw (vs := []) Tryd.func15 rfl Tryd.ntmps15 rfl (SW.begin ?_)
  refine sw_seq ?_
  refine sw_region ?_
  refine ow_val (val_assign rfl) rfl ?_   -- 0
  refine ow_nil (into ?_)
  refine sw_seq ?_
  refine sw_region ?_
  refine ow_val (val_build' (cs := awX.map vU8) rfl (by kernel_rfl)) rfl ?_   -- 12
  refine ow_val (val_build' (cs := awY.map vU8) rfl (by kernel_rfl)) rfl ?_   -- 13
  refine ow_new (acts_alloc zD) rfl (fun b1 hb1 => ?_)   -- 1
  refine ow_new (acts_alloc zD) rfl (fun b2 hb2 => ?_)   -- 2
  refine ow_do_eq (does_store_all 1 rfl rfl rfl (one_u8s _) Tryd.sizeOf23 (by show (List.map vU8 awX).length = _; rw [List.length_map]; exact awX_len) (by show (List.map vU8 zeros32).length = _; rw [List.length_map]; exact zeros32_len)) ?_
  refine ow_do_eq (does_store_all 0 rfl rfl rfl (one_u8s _) Tryd.sizeOf23 (by show (List.map vU8 awY).length = _; rw [List.length_map]; exact awY_len) (by show (List.map vU8 zeros32).length = _; rw [List.length_map]; exact zeros32_len)) ?_
  refine ow_nil (into ?_)
  refine sw_seq ?_
  refine sw_region ?_
  refine ow_val (val_load_all 1 rfl rfl Tryd.isAgg23 Tryd.sizeOf23 (by show (List.map vU8 awX).length = _; rw [List.length_map]; exact awX_len)) rfl ?_   -- 15
  refine ow_val (val_load_all 0 rfl rfl Tryd.isAgg23 Tryd.sizeOf23 (by show (List.map vU8 awY).length = _; rw [List.length_map]; exact awY_len)) rfl ?_   -- 16
  refine ow_make (acts_buildSlice (cs := [awY.map vU8].flatten) Tryd.underlying25 Tryd.sizeOf23 zD rfl rfl (fill_aggs [awY.map vU8] (by decide) rfl (by simp only [List.forall_mem_cons, List.length_map]; exact ⟨awY_len, fun _ h => by cases h⟩))) rfl (fun b17 hb17 => ?_)   -- 17
  refine ow_call_pure (v := .tuple #[.agg ((nd 4 awY awX).map vU8).toArray, vInt ((0 : Nat) : Int)]) (callsTo Tryd.func12 rfl (by kernel_rfl) rfl) rfl (fun w hm => (by have h := mroot_any (4 : Int) awX awX_len 1 2 w (hK.mem0 hm) (some ⟨b17, 0, none⟩) 1 1 ([awY]) rfl (by simp only [List.forall_mem_cons]; exact ⟨awY_len, fun _ h => by cases h⟩) (Rd.blk (hm.at (i := 0) rfl)) (by decide) (by decide) (by decide); rw [awR] at h; exact h)) ?_   -- 18
  refine ow_val (val_move rfl) rfl ?_   -- 14
  refine ow_val (val_extract rfl rfl) rfl ?_   -- 19
  refine ow_val (val_extract rfl rfl) rfl ?_   -- 20
  refine ow_new (acts_alloc zD) rfl (fun b3 hb3 => ?_)   -- 3
  refine ow_do_eq (does_store_all 0 rfl rfl rfl (one_u8s _) Tryd.sizeOf23 (by show (List.map vU8 (nd 4 awY awX)).length = _; rw [List.length_map]; exact (nd_len _ _ _ (by decide))) (by show (List.map vU8 zeros32).length = _; rw [List.length_map]; exact zeros32_len)) ?_
  refine ow_val (val_assign rfl) rfl ?_   -- 4
  refine ow_nil (into ?_)
  refine sw_seq ?_
  refine sw_region ?_
  refine ow_val (val_load_all 3 rfl rfl Tryd.isAgg23 Tryd.sizeOf23 (by show (List.map vU8 awX).length = _; rw [List.length_map]; exact awX_len)) rfl ?_   -- 22
  refine ow_val (val_load_all 2 rfl rfl Tryd.isAgg23 Tryd.sizeOf23 (by show (List.map vU8 awY).length = _; rw [List.length_map]; exact awY_len)) rfl ?_   -- 23
  refine ow_make (acts_buildSlice (cs := [awY.map vU8].flatten) Tryd.underlying25 Tryd.sizeOf23 zD rfl rfl (fill_aggs [awY.map vU8] (by decide) rfl (by simp only [List.forall_mem_cons, List.length_map]; exact ⟨awY_len, fun _ h => by cases h⟩))) rfl (fun b24 hb24 => ?_)   -- 24
  refine ow_call_pure (v := .tuple #[.agg ((awX).map vU8).toArray, .agg ((nd 4 awX awY).map vU8).toArray, vInt ((0 : Nat) : Int)]) (callsTo Tryd.func18 rfl (by kernel_rfl) rfl) rfl (fun w hm => (by have h := mroots_any (4 : Int) awX awX_len 1 2 w (hK.mem0 hm) (some ⟨b24, 0, none⟩) 1 1 ([awY]) rfl (by simp only [List.forall_mem_cons]; exact ⟨awY_len, fun _ h => by cases h⟩) (Rd.blk (hm.at (i := 0) rfl)) (by decide) (by decide) (by decide); rw [awTwo] at h; exact h)) ?_   -- 25
  refine ow_val (val_move rfl) rfl ?_   -- 21
  refine ow_val (val_extract rfl rfl) rfl ?_   -- 26
  refine ow_val (val_extract rfl rfl) rfl ?_   -- 27
  refine ow_val (val_extract rfl rfl) rfl ?_   -- 28
  refine ow_new (acts_alloc zD) rfl (fun b5 hb5 => ?_)   -- 5
  refine ow_new (acts_alloc zD) rfl (fun b6 hb6 => ?_)   -- 6
  refine ow_do_eq (does_store_all 1 rfl rfl rfl (one_u8s _) Tryd.sizeOf23 (by show (List.map vU8 awX).length = _; rw [List.length_map]; exact awX_len) (by show (List.map vU8 zeros32).length = _; rw [List.length_map]; exact zeros32_len)) ?_
  refine ow_do_eq (does_store_all 0 rfl rfl rfl (one_u8s _) Tryd.sizeOf23 (by show (List.map vU8 (nd 4 awX awY)).length = _; rw [List.length_map]; exact (nd_len _ _ _ (by decide))) (by show (List.map vU8 zeros32).length = _; rw [List.length_map]; exact zeros32_len)) ?_
  refine ow_val (val_assign rfl) rfl ?_   -- 7
  refine ow_nil (into ?_)
  refine sw_seq ?_
  refine sw_region ?_
  refine ow_val (val_load_all 6 rfl rfl Tryd.isAgg23 Tryd.sizeOf23 (by show (List.map vU8 awX).length = _; rw [List.length_map]; exact awX_len)) rfl ?_   -- 30
  refine ow_val (val_load_all 5 rfl rfl Tryd.isAgg23 Tryd.sizeOf23 (by show (List.map vU8 awY).length = _; rw [List.length_map]; exact awY_len)) rfl ?_   -- 31
  refine ow_make (acts_buildSlice (cs := [awY.map vU8].flatten) Tryd.underlying25 Tryd.sizeOf23 zD rfl rfl (fill_aggs [awY.map vU8] (by decide) rfl (by simp only [List.forall_mem_cons, List.length_map]; exact ⟨awY_len, fun _ h => by cases h⟩))) rfl (fun b32 hb32 => ?_)   -- 32
  refine ow_call_pure (v := .tuple #[.agg ((nd 4 awY awX).map vU8).toArray, vInt ((0 : Nat) : Int)]) (callsTo Tryd.func14 rfl (by kernel_rfl) rfl) rfl (fun w hm => (by have h := rroot_any (4 : Int) awX awX_len 1 2 w (hK.mem0 hm) (some ⟨b32, 0, none⟩) 1 1 ([awY]) rfl (by simp only [List.forall_mem_cons]; exact ⟨awY_len, fun _ h => by cases h⟩) (Rd.blk (hm.at (i := 0) rfl)) (by decide) (by decide) (by decide); rw [awR] at h; exact h)) ?_   -- 33
  refine ow_val (val_move rfl) rfl ?_   -- 29
  refine ow_val (val_extract rfl rfl) rfl ?_   -- 34
  refine ow_val (val_extract rfl rfl) rfl ?_   -- 35
  refine ow_new (acts_alloc zD) rfl (fun b8 hb8 => ?_)   -- 8
  refine ow_do_eq (does_store_all 0 rfl rfl rfl (one_u8s _) Tryd.sizeOf23 (by show (List.map vU8 (nd 4 awY awX)).length = _; rw [List.length_map]; exact (nd_len _ _ _ (by decide))) (by show (List.map vU8 zeros32).length = _; rw [List.length_map]; exact zeros32_len)) ?_
  refine ow_val (val_assign rfl) rfl ?_   -- 9
  refine ow_nil (into ?_)
  refine sw_seq ?_
  refine sw_region ?_
  refine ow_val (val_load_all 8 rfl rfl Tryd.isAgg23 Tryd.sizeOf23 (by show (List.map vU8 awX).length = _; rw [List.length_map]; exact awX_len)) rfl ?_   -- 37
  refine ow_val (val_load_all 7 rfl rfl Tryd.isAgg23 Tryd.sizeOf23 (by show (List.map vU8 awY).length = _; rw [List.length_map]; exact awY_len)) rfl ?_   -- 38
  refine ow_make (acts_buildSlice (cs := [awY.map vU8].flatten) Tryd.underlying25 Tryd.sizeOf23 zD rfl rfl (fill_aggs [awY.map vU8] (by decide) rfl (by simp only [List.forall_mem_cons, List.length_map]; exact ⟨awY_len, fun _ h => by cases h⟩))) rfl (fun b39 hb39 => ?_)   -- 39
  refine ow_call_pure (v := .tuple #[.agg ((nd 4 awX awY).map vU8).toArray, vInt ((0 : Nat) : Int)]) (callsTo Tryd.func14 rfl (by kernel_rfl) rfl) rfl (fun w hm => (by have h := rroot_any (4 : Int) awX awX_len 0 2 w (hK.mem0 hm) (some ⟨b39, 0, none⟩) 1 1 ([awY]) rfl (by simp only [List.forall_mem_cons]; exact ⟨awY_len, fun _ h => by cases h⟩) (Rd.blk (hm.at (i := 0) rfl)) (by decide) (by decide) (by decide); rw [awT] at h; exact h)) ?_   -- 40
  refine ow_val (val_move rfl) rfl ?_   -- 36
  refine ow_val (val_extract rfl rfl) rfl ?_   -- 41
  refine ow_val (val_extract rfl rfl) rfl ?_   -- 42
  refine ow_new (acts_alloc zD) rfl (fun b10 hb10 => ?_)   -- 10
  refine ow_do_eq (does_store_all 0 rfl rfl rfl (one_u8s _) Tryd.sizeOf23 (by show (List.map vU8 (nd 4 awX awY)).length = _; rw [List.length_map]; exact (nd_len _ _ _ (by decide))) (by show (List.map vU8 zeros32).length = _; rw [List.length_map]; exact zeros32_len)) ?_
  refine ow_val (val_assign rfl) rfl ?_   -- 11
  refine ow_nil (into ?_)
  refine sw_seq ?_
  refine sw_region ?_
  refine ow_val (val_move rfl) rfl ?_   -- 43
  refine ow_val ((val_eql_int rfl rfl).to (v' := .bool true) (congrArg Value.bool (decide_eq_true (by simp)))) rfl ?_   -- 44
  refine ow_val (val_move rfl) rfl ?_   -- 45
  refine ow_guard_yes rfl rfl rfl ?_
  refine ow_val (val_move rfl) rfl ?_   -- 46
  refine ow_guard_yes rfl rfl rfl ?_
  refine ow_val ((val_eql_int rfl rfl).to (v' := .bool true) (congrArg Value.bool (decide_eq_true (by simp)))) rfl ?_   -- 47
  refine ow_val (val_pick_true rfl rfl) rfl ?_   -- 48
  refine ow_val (val_move rfl) rfl ?_   -- 49
  refine ow_guard_yes rfl rfl rfl ?_
  refine ow_val (val_load_all 7 rfl rfl Tryd.isAgg23 Tryd.sizeOf23 (by show (List.map vU8 (nd 4 awY awX)).length = _; rw [List.length_map]; exact (nd_len _ _ _ (by decide)))) rfl ?_   -- 50
  refine ow_guard_yes rfl rfl rfl ?_
  refine ow_val (val_load_all 2 rfl rfl Tryd.isAgg23 Tryd.sizeOf23 (by show (List.map vU8 (nd 4 awY awX)).length = _; rw [List.length_map]; exact (nd_len _ _ _ (by decide)))) rfl ?_   -- 51
  refine ow_guard_yes rfl rfl rfl ?_
  refine ow_val ((val_eql_u8s rfl rfl Tryd.eqGuardType23 Tryd.underlying23 Tryd.underlying5 Tryd.sizeOf5 Tryd.isAgg5 (nd_len _ _ _ (by decide)) (nd_len _ _ _ (by decide))).to (congrArg Value.bool (show _ = true by simp [txt]))) rfl ?_   -- 52
  refine ow_val (val_pick_true rfl rfl) rfl ?_   -- 53
  refine ow_val (val_move rfl) rfl ?_   -- 54
  refine ow_guard_yes rfl rfl rfl ?_
  refine ow_val (val_load_all 5 rfl rfl Tryd.isAgg23 Tryd.sizeOf23 (by show (List.map vU8 awX).length = _; rw [List.length_map]; exact awX_len)) rfl ?_   -- 55
  refine ow_guard_yes rfl rfl rfl ?_
  refine ow_val (val_load_all 10 rfl rfl Tryd.isAgg23 Tryd.sizeOf23 (by show (List.map vU8 awX).length = _; rw [List.length_map]; exact awX_len)) rfl ?_   -- 56
  refine ow_guard_yes rfl rfl rfl ?_
  refine ow_val ((val_eql_u8s rfl rfl Tryd.eqGuardType23 Tryd.underlying23 Tryd.underlying5 Tryd.sizeOf5 Tryd.isAgg5 awX_len awX_len).to (congrArg Value.bool (show _ = true by simp [txt]))) rfl ?_   -- 57
  refine ow_val (val_pick_true rfl rfl) rfl ?_   -- 58
  refine ow_val (val_move rfl) rfl ?_   -- 59
  refine ow_guard_yes rfl rfl rfl ?_
  refine ow_val (val_load_all 4 rfl rfl Tryd.isAgg23 Tryd.sizeOf23 (by show (List.map vU8 (nd 4 awX awY)).length = _; rw [List.length_map]; exact (nd_len _ _ _ (by decide)))) rfl ?_   -- 60
  refine ow_guard_yes rfl rfl rfl ?_
  refine ow_val (val_load_all 0 rfl rfl Tryd.isAgg23 Tryd.sizeOf23 (by show (List.map vU8 (nd 4 awX awY)).length = _; rw [List.length_map]; exact (nd_len _ _ _ (by decide)))) rfl ?_   -- 61
  refine ow_guard_yes rfl rfl rfl ?_
  refine ow_val ((val_eql_u8s rfl rfl Tryd.eqGuardType23 Tryd.underlying23 Tryd.underlying5 Tryd.sizeOf5 Tryd.isAgg5 (nd_len _ _ _ (by decide)) (nd_len _ _ _ (by decide))).to (congrArg Value.bool (show _ = true by simp [txt]))) rfl ?_   -- 62
  refine ow_val (val_pick_true rfl rfl) rfl ?_   -- 63
  refine ow_val (val_move rfl) rfl ?_   -- 64
  refine ow_guard_yes rfl rfl rfl ?_
  refine ow_val (val_load_all 2 rfl rfl Tryd.isAgg23 Tryd.sizeOf23 (by show (List.map vU8 (nd 4 awY awX)).length = _; rw [List.length_map]; exact (nd_len _ _ _ (by decide)))) rfl ?_   -- 65
  refine ow_guard_yes rfl rfl rfl ?_
  refine ow_val (val_build' (cs := zeros32.map vU8) rfl (by kernel_rfl)) rfl ?_   -- 66
  refine ow_guard_yes rfl rfl rfl ?_
  refine ow_val ((val_neq_u8s rfl rfl Tryd.eqGuardType23 Tryd.underlying23 Tryd.underlying5 Tryd.sizeOf5 Tryd.isAgg5 (nd_len _ _ _ (by decide)) zeros32_len).to (congrArg Value.bool (show (!_) = true by rw [decide_eq_false aw_ne]; rfl))) rfl ?_   -- 67
  refine ow_val (val_pick_true rfl rfl) rfl ?_   -- 68
  refine ow_val (val_move rfl) rfl ?_   -- 69
  refine ow_guard_yes rfl rfl rfl ?_
  refine ow_val (val_load_all 10 rfl rfl Tryd.isAgg23 Tryd.sizeOf23 (by show (List.map vU8 awX).length = _; rw [List.length_map]; exact awX_len)) rfl ?_   -- 70
  refine ow_guard_yes rfl rfl rfl ?_
  refine ow_val (val_load_all 9 rfl rfl Tryd.isAgg23 Tryd.sizeOf23 (by show (List.map vU8 awY).length = _; rw [List.length_map]; exact awY_len)) rfl ?_   -- 71
  refine ow_guard_yes rfl rfl rfl ?_
  refine ow_make (acts_buildSlice (cs := [awY.map vU8].flatten) Tryd.underlying25 Tryd.sizeOf23 zD rfl rfl (fill_aggs [awY.map vU8] (by decide) rfl (by simp only [List.forall_mem_cons, List.length_map]; exact ⟨awY_len, fun _ h => by cases h⟩))) rfl (fun b72 hb72 => ?_)   -- 72
  refine ow_guard_yes rfl rfl rfl ?_
  refine ow_val (val_load_all 1 rfl rfl Tryd.isAgg23 Tryd.sizeOf23 (by show (List.map vU8 (nd 4 awX awY)).length = _; rw [List.length_map]; exact (nd_len _ _ _ (by decide)))) rfl ?_   -- 73
  refine ow_guard_yes rfl rfl rfl ?_
  refine ow_call_pure (v := vInt ((10 : Nat) : Int)) (callsTo Tryd.func16 rfl (by kernel_rfl) rfl) rfl (fun w hm => (by have h := mincl_any (4 : Int) awX awX_len 1 2 (nd 4 awX awY) (nd_len _ _ _ (by decide)) w (hK.mem0 hm) (some ⟨b72, 0, none⟩) 1 1 ([awY]) rfl (by simp only [List.forall_mem_cons]; exact ⟨awY_len, fun _ h => by cases h⟩) (Rd.blk (hm.at (i := 0) rfl)) (by decide) (by decide) (by decide); rw [awI] at h; exact h)) ?_   -- 74
  refine ow_guard_yes rfl rfl rfl ?_
  refine ow_val ((val_eql_int rfl rfl).to (v' := .bool true) (congrArg Value.bool (decide_eq_true (by simp)))) rfl ?_   -- 75
  refine ow_val (val_pick_true rfl rfl) rfl ?_   -- 76
  refine ow_val (val_assign rfl) rfl ?_   -- 0
  refine ow_nil (into ?_)
  exact sw_ret (fun w hm => ret_one _ rfl rfl ⟨rfl, hm.forgetAll⟩)

theorem mcheckRootOfs_any (v0 : Int) (leaf : List UInt8) (hll : leaf.length = 32) (i n : UInt64) (root : List UInt8) (hrl : root.length = 32) (w : World) (hK : KW w) (a : Option Addr) (c : Nat) (proof : List (List UInt8)) (hpl : ∀ d ∈ proof, d.length = 32) (hr : Rd w a (proof.flatMap fun d => d.map vU8)) (hc : proof.length ≤ c) (hl : proof.length < 9223372036854775808) (hb : (proof.length + 2) * 32 ≤ 140737488355328) : Calls Tryd.prog 3 #[.agg (askC v0 leaf i n (.slice a proof.length c) root).toArray] w fun e w' => ∃ v, e = .returned v ∧ v = .bool true ∧ Mem w [] [] w' := by
  refine calls_of_sw (vs := [.agg (askC v0 leaf i n (.slice a proof.length c) root).toArray]) Tryd.func3 rfl Tryd.ntmps3 rfl (SW.begin ?_)
  refine sw_seq ?_
  refine sw_region ?_
  refine ow_new (acts_box rfl) rfl (fun b1 hb1 => ?_)   -- 1
  refine ow_val (val_assign rfl) rfl ?_   -- 2
  refine ow_nil (into ?_)
  refine sw_seq ?_
  refine sw_region_tree (Mem w [] [some (b1, blk (askC v0 leaf i n (.slice a proof.length c) root) 27)]) [] (.one 0 0 (.one 2 0 (.one 4 0 (.one 6 0 (.one 8 0 (.one 1 1 (.one 3 1 (.one 5 1 (.one 7 1 (.one 9 1 (.alt 10 (.alt 11 (.one 12 0 (.one 13 0 (.one 14 0 (.one 15 2 (.one 16 2 (.one 17 0 .done)))))) (.alt 15 (.one 11 2 (.one 12 0 (.one 13 0 (.one 14 0 (.one 16 2 (.one 17 0 .done)))))) .stop)) (.alt 15 (.one 10 2 (.one 11 2 (.one 12 0 (.one 13 0 (.one 14 0 (.one 16 2 (.one 17 0 .done))))))) .stop)))))))))))) (by kernel_rfl) (by kernel_rfl) (fun _ _ _ h => h) (fun _ h => h.only (.cons_cons _ (List.nil_sublist _))) (fun _ h => h.drawn _) ?_
  refine lt_pure rfl trivial (val_fieldAddr (m := 0) (e := 0) rfl Tryd.underlying27 rfl rfl Tryd.sizeOf3 rfl) rfl ?_   -- 8
  refine lt_pure rfl trivial (val_fieldAddr (m := 31) (e := 1) rfl Tryd.underlying27 rfl rfl Tryd.sizeOf23 rfl) rfl ?_   -- 10
  refine lt_pure rfl trivial (val_fieldAddr (m := 0) (e := 33) rfl Tryd.underlying27 rfl rfl Tryd.sizeOf24 rfl) rfl ?_   -- 12
  refine lt_pure rfl trivial (val_fieldAddr (m := 0) (e := 34) rfl Tryd.underlying27 rfl rfl Tryd.sizeOf24 rfl) rfl ?_   -- 14
  refine lt_pure rfl trivial (val_fieldAddr (m := 0) (e := 35) rfl Tryd.underlying27 rfl rfl Tryd.sizeOf25 rfl) rfl ?_   -- 16
  refine lt_held rfl trivial (val_load_at 0 rfl rfl Tryd.isAgg3 rfl) rfl ?_   -- 9
  refine lt_held rfl trivial (val_load_part 0 rfl rfl Tryd.isAgg23 Tryd.sizeOf23 (by show (List.map vU8 leaf).length = _; rw [List.length_map]; exact hll) (ask_leaf hll)) rfl ?_   -- 11
  refine lt_held rfl trivial (val_load_at 0 rfl rfl Tryd.isAgg24 (ask_33 hll)) rfl ?_   -- 13
  refine lt_held rfl trivial (val_load_at 0 rfl rfl Tryd.isAgg24 (ask_34 hll)) rfl ?_   -- 15
  refine lt_held rfl trivial (val_load_at 0 rfl rfl Tryd.isAgg25 (ask_35 hll)) rfl ?_   -- 17
  refine lt_alt ?_ ?_
  · -- first 10
    refine lt_call_row (E := 23) (size := 32) (k := proof.length) (xs := (proof.flatMap fun d => d.map vU8)) rfl trivial (callsTo Tryd.func13 rfl (by kernel_rfl) rfl) rfl (fun w hm => twin_any w a proof.length c proof rfl hpl (hr.mem hm) (by omega) (by omega) (by omega)) (fun _ _ _ h => h.only (.cons _ (.cons_cons _ (List.nil_sublist _)))) (fun a18 c18 e18 hr18 => ?_)   -- 18
    refine lt_alt ?_ ?_
    · -- first 11
      refine lt_call_pure rfl trivial (callsTo Tryd.func12 rfl (by kernel_rfl) rfl) rfl (fun w hm => mroot_any v0 leaf hll i n w (hK.mem0 hm) a18 proof.length c18 proof rfl hpl (hr18.rdAt hm (i := 0) rfl) hr18.le (by omega) (by omega)) (fun _ _ h => h.only (.cons _ (.cons_cons _ (List.nil_sublist _)))) ?_   -- 19
      refine lt_pure rfl trivial (val_move rfl) rfl ?_   -- 7
      refine lt_pure rfl trivial (val_extract rfl rfl) rfl ?_   -- 20
      refine lt_pure rfl trivial (val_extract rfl rfl) rfl ?_   -- 21
      refine lt_make (fun b => .pointer (some ⟨b, 0, none⟩)) rfl trivial (acts_alloc zD) rfl (fun _ _ _ h => h.only (.cons _ (.cons _ (.cons_cons _ (List.nil_sublist _))))) (fun b3 hb3 => ?_)   -- 3
      refine lt_do rfl trivial (does_store_all 0 rfl rfl rfl (one_u8s _) Tryd.sizeOf23 (by show (List.map vU8 ((rootO v0 leaf i n proof).1)).length = _; rw [List.length_map]; exact (rootO_len hll)) (by show (List.map vU8 zeros32).length = _; rw [List.length_map]; exact zeros32_len)) (fun _ _ _ _ h => h.only (.cons _ (.cons _ (.cons_cons _ (List.nil_sublist _))))) (fun _ _ => ?_)
      refine lt_pure rfl trivial (val_assign rfl) rfl ?_   -- 4
      refine lt_done (into ?_)
      refine sw_seq ?_
      refine sw_region ?_
      refine ow_val (val_fieldAddr (m := 0) (e := 0) rfl Tryd.underlying27 rfl rfl Tryd.sizeOf3 rfl) rfl ?_   -- 23
      refine ow_val (val_load_at 2 rfl rfl Tryd.isAgg3 rfl) rfl ?_   -- 24
      refine ow_val (val_fieldAddr (m := 31) (e := 1) rfl Tryd.underlying27 rfl rfl Tryd.sizeOf23 rfl) rfl ?_   -- 25
      refine ow_val (val_load_part 2 rfl rfl Tryd.isAgg23 Tryd.sizeOf23 (by show (List.map vU8 leaf).length = _; rw [List.length_map]; exact hll) (ask_leaf hll)) rfl ?_   -- 26
      refine ow_val (val_fieldAddr (m := 0) (e := 33) rfl Tryd.underlying27 rfl rfl Tryd.sizeOf24 rfl) rfl ?_   -- 27
      refine ow_val (val_load_at 2 rfl rfl Tryd.isAgg24 (ask_33 hll)) rfl ?_   -- 28
      refine ow_val (val_fieldAddr (m := 0) (e := 34) rfl Tryd.underlying27 rfl rfl Tryd.sizeOf24 rfl) rfl ?_   -- 29
      refine ow_val (val_load_at 2 rfl rfl Tryd.isAgg24 (ask_34 hll)) rfl ?_   -- 30
      refine ow_val (val_fieldAddr (m := 0) (e := 35) rfl Tryd.underlying27 rfl rfl Tryd.sizeOf25 rfl) rfl ?_   -- 31
      refine ow_val (val_load_at 2 rfl rfl Tryd.isAgg25 (ask_35 hll)) rfl ?_   -- 32
      refine ow_call_pure (callsTo Tryd.func14 rfl (by kernel_rfl) rfl) rfl (fun w hm => rroot_any v0 leaf hll i n w (hK.mem0 hm) a proof.length c proof rfl hpl (hr.mem hm) (by omega) (by omega) (by omega)) ?_   -- 33
      refine ow_val (val_move rfl) rfl ?_   -- 22
      refine ow_val (val_extract rfl rfl) rfl ?_   -- 34
      refine ow_val (val_extract rfl rfl) rfl ?_   -- 35
      refine ow_new (acts_alloc zD) rfl (fun b5 hb5 => ?_)   -- 5
      refine ow_do_eq (does_store_all 0 rfl rfl rfl (one_u8s _) Tryd.sizeOf23 (by show (List.map vU8 ((rootO v0 leaf i n proof).1)).length = _; rw [List.length_map]; exact (rootO_len hll)) (by show (List.map vU8 zeros32).length = _; rw [List.length_map]; exact zeros32_len)) ?_
      refine ow_val (val_assign rfl) rfl ?_   -- 6
      refine ow_nil (into ?_)
      refine sw_seq ?_
      refine sw_region ?_
      refine ow_call_pure (v := .bool true) (callsTo Tryd.func15 rfl (by kernel_rfl) rfl) rfl (fun w hm => awake_any w (hK.mem0 hm)) ?_   -- 36
      refine ow_val (val_move rfl) rfl ?_   -- 37
      refine ow_guard_yes rfl rfl rfl ?_
      refine ow_val (val_load_all 1 rfl rfl Tryd.isAgg23 Tryd.sizeOf23 (by show (List.map vU8 ((rootO v0 leaf i n proof).1)).length = _; rw [List.length_map]; exact (rootO_len hll))) rfl ?_   -- 38
      refine ow_guard_yes rfl rfl rfl ?_
      refine ow_val (val_load_all 0 rfl rfl Tryd.isAgg23 Tryd.sizeOf23 (by show (List.map vU8 ((rootO v0 leaf i n proof).1)).length = _; rw [List.length_map]; exact (rootO_len hll))) rfl ?_   -- 39
      refine ow_guard_yes rfl rfl rfl ?_
      refine ow_val ((val_eql_u8s rfl rfl Tryd.eqGuardType23 Tryd.underlying23 Tryd.underlying5 Tryd.sizeOf5 Tryd.isAgg5 (rootO_len hll) (rootO_len hll)).to (congrArg Value.bool (show _ = true by simp [txt]))) rfl ?_   -- 40
      refine ow_val (val_pick_true rfl rfl) rfl ?_   -- 41
      refine ow_val (val_move rfl) rfl ?_   -- 42
      refine ow_guard_yes rfl rfl rfl ?_
      refine ow_val (val_move rfl) rfl ?_   -- 43
      refine ow_guard_yes rfl rfl rfl ?_
      refine ow_val (val_move rfl) rfl ?_   -- 44
      refine ow_guard_yes rfl rfl rfl ?_
      refine ow_val ((val_eql_int rfl rfl).to (v' := .bool true) (congrArg Value.bool (decide_eq_true rfl))) rfl ?_   -- 45
      refine ow_val (val_pick_true rfl rfl) rfl ?_   -- 46
      refine ow_val (val_assign rfl) rfl ?_   -- 2
      refine ow_nil (into ?_)
      refine sw_ret (fun w hm => ?_)
      try dsimp only [thenP, blockP, Nat.beq, cond]
      exact ret_one _ rfl rfl ⟨rfl, hm.forgetAll⟩
    refine lt_alt ?_ ?_
    · -- first 15
      refine lt_make (fun b => .pointer (some ⟨b, 0, none⟩)) rfl trivial (acts_alloc zD) rfl (fun _ _ _ h => h.only (.cons _ (.cons _ (.cons_cons _ (List.nil_sublist _))))) (fun b3 hb3 => ?_)   -- 3
      refine lt_call_pure rfl trivial (callsTo Tryd.func12 rfl (by kernel_rfl) rfl) rfl (fun w hm => mroot_any v0 leaf hll i n w (hK.mem0 hm) a18 proof.length c18 proof rfl hpl (hr18.rdAt hm (i := 1) rfl) hr18.le (by omega) (by omega)) (fun _ _ h => h.only (.cons _ (.cons _ (.cons_cons _ (List.nil_sublist _))))) ?_   -- 19
      refine lt_pure rfl trivial (val_move rfl) rfl ?_   -- 7
      refine lt_pure rfl trivial (val_extract rfl rfl) rfl ?_   -- 20
      refine lt_pure rfl trivial (val_extract rfl rfl) rfl ?_   -- 21
      refine lt_do rfl trivial (does_store_all 0 rfl rfl rfl (one_u8s _) Tryd.sizeOf23 (by show (List.map vU8 ((rootO v0 leaf i n proof).1)).length = _; rw [List.length_map]; exact (rootO_len hll)) (by show (List.map vU8 zeros32).length = _; rw [List.length_map]; exact zeros32_len)) (fun _ _ _ _ h => h.only (.cons _ (.cons _ (.cons_cons _ (List.nil_sublist _))))) (fun _ _ => ?_)
      refine lt_pure rfl trivial (val_assign rfl) rfl ?_   -- 4
      refine lt_done (into ?_)
      refine sw_seq ?_
      refine sw_region ?_
      refine ow_val (val_fieldAddr (m := 0) (e := 0) rfl Tryd.underlying27 rfl rfl Tryd.sizeOf3 rfl) rfl ?_   -- 23
      refine ow_val (val_load_at 2 rfl rfl Tryd.isAgg3 rfl) rfl ?_   -- 24
      refine ow_val (val_fieldAddr (m := 31) (e := 1) rfl Tryd.underlying27 rfl rfl Tryd.sizeOf23 rfl) rfl ?_   -- 25
      refine ow_val (val_load_part 2 rfl rfl Tryd.isAgg23 Tryd.sizeOf23 (by show (List.map vU8 leaf).length = _; rw [List.length_map]; exact hll) (ask_leaf hll)) rfl ?_   -- 26
      refine ow_val (val_fieldAddr (m := 0) (e := 33) rfl Tryd.underlying27 rfl rfl Tryd.sizeOf24 rfl) rfl ?_   -- 27
      refine ow_val (val_load_at 2 rfl rfl Tryd.isAgg24 (ask_33 hll)) rfl ?_   -- 28
      refine ow_val (val_fieldAddr (m := 0) (e := 34) rfl Tryd.underlying27 rfl rfl Tryd.sizeOf24 rfl) rfl ?_   -- 29
      refine ow_val (val_load_at 2 rfl rfl Tryd.isAgg24 (ask_34 hll)) rfl ?_   -- 30
      refine ow_val (val_fieldAddr (m := 0) (e := 35) rfl Tryd.underlying27 rfl rfl Tryd.sizeOf25 rfl) rfl ?_   -- 31
      refine ow_val (val_load_at 2 rfl rfl Tryd.isAgg25 (ask_35 hll)) rfl ?_   -- 32
      refine ow_call_pure (callsTo Tryd.func14 rfl (by kernel_rfl) rfl) rfl (fun w hm => rroot_any v0 leaf hll i n w (hK.mem0 hm) a proof.length c proof rfl hpl (hr.mem hm) (by omega) (by omega) (by omega)) ?_   -- 33
      refine ow_val (val_move rfl) rfl ?_   -- 22
      refine ow_val (val_extract rfl rfl) rfl ?_   -- 34
      refine ow_val (val_extract rfl rfl) rfl ?_   -- 35
      refine ow_new (acts_alloc zD) rfl (fun b5 hb5 => ?_)   -- 5
      refine ow_do_eq (does_store_all 0 rfl rfl rfl (one_u8s _) Tryd.sizeOf23 (by show (List.map vU8 ((rootO v0 leaf i n proof).1)).length = _; rw [List.length_map]; exact (rootO_len hll)) (by show (List.map vU8 zeros32).length = _; rw [List.length_map]; exact zeros32_len)) ?_
      refine ow_val (val_assign rfl) rfl ?_   -- 6
      refine ow_nil (into ?_)
      refine sw_seq ?_
      refine sw_region ?_
      refine ow_call_pure (v := .bool true) (callsTo Tryd.func15 rfl (by kernel_rfl) rfl) rfl (fun w hm => awake_any w (hK.mem0 hm)) ?_   -- 36
      refine ow_val (val_move rfl) rfl ?_   -- 37
      refine ow_guard_yes rfl rfl rfl ?_
      refine ow_val (val_load_all 1 rfl rfl Tryd.isAgg23 Tryd.sizeOf23 (by show (List.map vU8 ((rootO v0 leaf i n proof).1)).length = _; rw [List.length_map]; exact (rootO_len hll))) rfl ?_   -- 38
      refine ow_guard_yes rfl rfl rfl ?_
      refine ow_val (val_load_all 0 rfl rfl Tryd.isAgg23 Tryd.sizeOf23 (by show (List.map vU8 ((rootO v0 leaf i n proof).1)).length = _; rw [List.length_map]; exact (rootO_len hll))) rfl ?_   -- 39
      refine ow_guard_yes rfl rfl rfl ?_
      refine ow_val ((val_eql_u8s rfl rfl Tryd.eqGuardType23 Tryd.underlying23 Tryd.underlying5 Tryd.sizeOf5 Tryd.isAgg5 (rootO_len hll) (rootO_len hll)).to (congrArg Value.bool (show _ = true by simp [txt]))) rfl ?_   -- 40
      refine ow_val (val_pick_true rfl rfl) rfl ?_   -- 41
      refine ow_val (val_move rfl) rfl ?_   -- 42
      refine ow_guard_yes rfl rfl rfl ?_
      refine ow_val (val_move rfl) rfl ?_   -- 43
      refine ow_guard_yes rfl rfl rfl ?_
      refine ow_val (val_move rfl) rfl ?_   -- 44
      refine ow_guard_yes rfl rfl rfl ?_
      refine ow_val ((val_eql_int rfl rfl).to (v' := .bool true) (congrArg Value.bool (decide_eq_true rfl))) rfl ?_   -- 45
      refine ow_val (val_pick_true rfl rfl) rfl ?_   -- 46
      refine ow_val (val_assign rfl) rfl ?_   -- 2
      refine ow_nil (into ?_)
      refine sw_ret (fun w hm => ?_)
      try dsimp only [thenP, blockP, Nat.beq, cond]
      exact ret_one _ rfl rfl ⟨rfl, hm.forgetAll⟩
    exact lt_stop
  refine lt_alt ?_ ?_
  · -- first 15
    refine lt_make (fun b => .pointer (some ⟨b, 0, none⟩)) rfl trivial (acts_alloc zD) rfl (fun _ _ _ h => h.only (.cons _ (.cons_cons _ (List.nil_sublist _)))) (fun b3 hb3 => ?_)   -- 3
    refine lt_call_row (E := 23) (size := 32) (k := proof.length) (xs := (proof.flatMap fun d => d.map vU8)) rfl trivial (callsTo Tryd.func13 rfl (by kernel_rfl) rfl) rfl (fun w hm => twin_any w a proof.length c proof rfl hpl (hr.mem hm) (by omega) (by omega) (by omega)) (fun _ _ _ h => h.only (.cons _ (.cons _ (.cons_cons _ (List.nil_sublist _))))) (fun a18 c18 e18 hr18 => ?_)   -- 18
    refine lt_call_pure rfl trivial (callsTo Tryd.func12 rfl (by kernel_rfl) rfl) rfl (fun w hm => mroot_any v0 leaf hll i n w (hK.mem0 hm) a18 proof.length c18 proof rfl hpl (hr18.rdAt hm (i := 0) rfl) hr18.le (by omega) (by omega)) (fun _ _ h => h.only (.cons _ (.cons _ (.cons_cons _ (List.nil_sublist _))))) ?_   -- 19
    refine lt_pure rfl trivial (val_move rfl) rfl ?_   -- 7
    refine lt_pure rfl trivial (val_extract rfl rfl) rfl ?_   -- 20
    refine lt_pure rfl trivial (val_extract rfl rfl) rfl ?_   -- 21
    refine lt_do rfl trivial (does_store_all 1 rfl rfl rfl (one_u8s _) Tryd.sizeOf23 (by show (List.map vU8 ((rootO v0 leaf i n proof).1)).length = _; rw [List.length_map]; exact (rootO_len hll)) (by show (List.map vU8 zeros32).length = _; rw [List.length_map]; exact zeros32_len)) (fun _ _ _ _ h => h.only (.cons _ (.cons _ (.cons_cons _ (List.nil_sublist _))))) (fun _ _ => ?_)
    refine lt_pure rfl trivial (val_assign rfl) rfl ?_   -- 4
    refine lt_done (into ?_)
    refine sw_seq ?_
    refine sw_region ?_
    refine ow_val (val_fieldAddr (m := 0) (e := 0) rfl Tryd.underlying27 rfl rfl Tryd.sizeOf3 rfl) rfl ?_   -- 23
    refine ow_val (val_load_at 2 rfl rfl Tryd.isAgg3 rfl) rfl ?_   -- 24
    refine ow_val (val_fieldAddr (m := 31) (e := 1) rfl Tryd.underlying27 rfl rfl Tryd.sizeOf23 rfl) rfl ?_   -- 25
    refine ow_val (val_load_part 2 rfl rfl Tryd.isAgg23 Tryd.sizeOf23 (by show (List.map vU8 leaf).length = _; rw [List.length_map]; exact hll) (ask_leaf hll)) rfl ?_   -- 26
    refine ow_val (val_fieldAddr (m := 0) (e := 33) rfl Tryd.underlying27 rfl rfl Tryd.sizeOf24 rfl) rfl ?_   -- 27
    refine ow_val (val_load_at 2 rfl rfl Tryd.isAgg24 (ask_33 hll)) rfl ?_   -- 28
    refine ow_val (val_fieldAddr (m := 0) (e := 34) rfl Tryd.underlying27 rfl rfl Tryd.sizeOf24 rfl) rfl ?_   -- 29
    refine ow_val (val_load_at 2 rfl rfl Tryd.isAgg24 (ask_34 hll)) rfl ?_   -- 30
    refine ow_val (val_fieldAddr (m := 0) (e := 35) rfl Tryd.underlying27 rfl rfl Tryd.sizeOf25 rfl) rfl ?_   -- 31
    refine ow_val (val_load_at 2 rfl rfl Tryd.isAgg25 (ask_35 hll)) rfl ?_   -- 32
    refine ow_call_pure (callsTo Tryd.func14 rfl (by kernel_rfl) rfl) rfl (fun w hm => rroot_any v0 leaf hll i n w (hK.mem0 hm) a proof.length c proof rfl hpl (hr.mem hm) (by omega) (by omega) (by omega)) ?_   -- 33
    refine ow_val (val_move rfl) rfl ?_   -- 22
    refine ow_val (val_extract rfl rfl) rfl ?_   -- 34
    refine ow_val (val_extract rfl rfl) rfl ?_   -- 35
    refine ow_new (acts_alloc zD) rfl (fun b5 hb5 => ?_)   -- 5
    refine ow_do_eq (does_store_all 0 rfl rfl rfl (one_u8s _) Tryd.sizeOf23 (by show (List.map vU8 ((rootO v0 leaf i n proof).1)).length = _; rw [List.length_map]; exact (rootO_len hll)) (by show (List.map vU8 zeros32).length = _; rw [List.length_map]; exact zeros32_len)) ?_
    refine ow_val (val_assign rfl) rfl ?_   -- 6
    refine ow_nil (into ?_)
    refine sw_seq ?_
    refine sw_region ?_
    refine ow_call_pure (v := .bool true) (callsTo Tryd.func15 rfl (by kernel_rfl) rfl) rfl (fun w hm => awake_any w (hK.mem0 hm)) ?_   -- 36
    refine ow_val (val_move rfl) rfl ?_   -- 37
    refine ow_guard_yes rfl rfl rfl ?_
    refine ow_val (val_load_all 2 rfl rfl Tryd.isAgg23 Tryd.sizeOf23 (by show (List.map vU8 ((rootO v0 leaf i n proof).1)).length = _; rw [List.length_map]; exact (rootO_len hll))) rfl ?_   -- 38
    refine ow_guard_yes rfl rfl rfl ?_
    refine ow_val (val_load_all 0 rfl rfl Tryd.isAgg23 Tryd.sizeOf23 (by show (List.map vU8 ((rootO v0 leaf i n proof).1)).length = _; rw [List.length_map]; exact (rootO_len hll))) rfl ?_   -- 39
    refine ow_guard_yes rfl rfl rfl ?_
    refine ow_val ((val_eql_u8s rfl rfl Tryd.eqGuardType23 Tryd.underlying23 Tryd.underlying5 Tryd.sizeOf5 Tryd.isAgg5 (rootO_len hll) (rootO_len hll)).to (congrArg Value.bool (show _ = true by simp [txt]))) rfl ?_   -- 40
    refine ow_val (val_pick_true rfl rfl) rfl ?_   -- 41
    refine ow_val (val_move rfl) rfl ?_   -- 42
    refine ow_guard_yes rfl rfl rfl ?_
    refine ow_val (val_move rfl) rfl ?_   -- 43
    refine ow_guard_yes rfl rfl rfl ?_
    refine ow_val (val_move rfl) rfl ?_   -- 44
    refine ow_guard_yes rfl rfl rfl ?_
    refine ow_val ((val_eql_int rfl rfl).to (v' := .bool true) (congrArg Value.bool (decide_eq_true rfl))) rfl ?_   -- 45
    refine ow_val (val_pick_true rfl rfl) rfl ?_   -- 46
    refine ow_val (val_assign rfl) rfl ?_   -- 2
    refine ow_nil (into ?_)
    refine sw_ret (fun w hm => ?_)
    try dsimp only [thenP, blockP, Nat.beq, cond]
    exact ret_one _ rfl rfl ⟨rfl, hm.forgetAll⟩
  exact lt_stop

theorem mcheckInclusions_any (v0 : Int) (leaf : List UInt8) (hll : leaf.length = 32) (i n : UInt64) (root : List UInt8) (hrl : root.length = 32) (w : World) (hK : KW w) (a : Option Addr) (c : Nat) (proof : List (List UInt8)) (hpl : ∀ d ∈ proof, d.length = 32) (hr : Rd w a (proof.flatMap fun d => d.map vU8)) (hc : proof.length ≤ c) (hl : proof.length < 9223372036854775808) (hb : (proof.length + 2) * 32 ≤ 140737488355328) : Calls Tryd.prog 4 #[.agg (askC v0 leaf i n (.slice a proof.length c) root).toArray] w fun e w' => ∃ v, e = .returned v ∧ v = .bool true ∧ Mem w [] [] w' := by
  refine calls_of_sw (vs := [.agg (askC v0 leaf i n (.slice a proof.length c) root).toArray]) Tryd.func4 rfl Tryd.ntmps4 rfl (SW.begin ?_)
  refine sw_seq ?_
  refine sw_region ?_
  refine ow_new (acts_box rfl) rfl (fun b1 hb1 => ?_)   -- 1
  refine ow_val (val_assign rfl) rfl ?_   -- 2
  refine ow_nil (into ?_)
  refine sw_seq ?_
  refine sw_region_tree (Mem w [] [some (b1, blk (askC v0 leaf i n (.slice a proof.length c) root) 27)]) [] (.one 0 0 (.one 2 0 (.one 4 0 (.one 6 0 (.one 8 0 (.one 11 0 (.one 1 1 (.one 3 1 (.one 5 1 (.one 7 1 (.one 9 1 (.one 12 1 (.one 10 2 (.one 13 2 (.one 14 0 .done))))))))))))))) (by kernel_rfl) (by kernel_rfl) (fun _ _ _ h => h) (fun _ h => h.only (.cons_cons _ (List.nil_sublist _))) (fun _ h => h.drawn _) ?_
  refine lt_pure rfl trivial (val_fieldAddr (m := 0) (e := 0) rfl Tryd.underlying27 rfl rfl Tryd.sizeOf3 rfl) rfl ?_   -- 9
  refine lt_pure rfl trivial (val_fieldAddr (m := 31) (e := 1) rfl Tryd.underlying27 rfl rfl Tryd.sizeOf23 rfl) rfl ?_   -- 11
  refine lt_pure rfl trivial (val_fieldAddr (m := 0) (e := 33) rfl Tryd.underlying27 rfl rfl Tryd.sizeOf24 rfl) rfl ?_   -- 13
  refine lt_pure rfl trivial (val_fieldAddr (m := 0) (e := 34) rfl Tryd.underlying27 rfl rfl Tryd.sizeOf24 rfl) rfl ?_   -- 15
  refine lt_pure rfl trivial (val_fieldAddr (m := 0) (e := 35) rfl Tryd.underlying27 rfl rfl Tryd.sizeOf25 rfl) rfl ?_   -- 17
  refine lt_pure rfl trivial (val_fieldAddr (m := 31) (e := 36) rfl Tryd.underlying27 rfl rfl Tryd.sizeOf23 rfl) rfl ?_   -- 20
  refine lt_held rfl trivial (val_load_at 0 rfl rfl Tryd.isAgg3 rfl) rfl ?_   -- 10
  refine lt_held rfl trivial (val_load_part 0 rfl rfl Tryd.isAgg23 Tryd.sizeOf23 (by show (List.map vU8 leaf).length = _; rw [List.length_map]; exact hll) (ask_leaf hll)) rfl ?_   -- 12
  refine lt_held rfl trivial (val_load_at 0 rfl rfl Tryd.isAgg24 (ask_33 hll)) rfl ?_   -- 14
  refine lt_held rfl trivial (val_load_at 0 rfl rfl Tryd.isAgg24 (ask_34 hll)) rfl ?_   -- 16
  refine lt_held rfl trivial (val_load_at 0 rfl rfl Tryd.isAgg25 (ask_35 hll)) rfl ?_   -- 18
  refine lt_held rfl trivial (val_load_part 0 rfl rfl Tryd.isAgg23 Tryd.sizeOf23 (by show (List.map vU8 root).length = _; rw [List.length_map]; exact hrl) (ask_root hll hrl)) rfl ?_   -- 21
  refine lt_call_row (E := 23) (size := 32) (k := proof.length) (xs := (proof.flatMap fun d => d.map vU8)) rfl trivial (callsTo Tryd.func13 rfl (by kernel_rfl) rfl) rfl (fun w hm => twin_any w a proof.length c proof rfl hpl (hr.mem hm) (by omega) (by omega) (by omega)) (fun _ _ _ h => h.only (.cons _ (.cons_cons _ (List.nil_sublist _)))) (fun a19 c19 e19 hr19 => ?_)   -- 19
  refine lt_call_pure rfl trivial (callsTo Tryd.func16 rfl (by kernel_rfl) rfl) rfl (fun w hm => mincl_any v0 leaf hll i n root hrl w (hK.mem0 hm) a19 proof.length c19 proof rfl hpl (hr19.rdAt hm (i := 0) rfl) hr19.le (by omega) (by omega)) (fun _ _ h => h.only (.cons _ (.cons_cons _ (List.nil_sublist _)))) ?_   -- 22
  refine lt_pure rfl trivial (val_assign rfl) rfl ?_   -- 3
  refine lt_done (into ?_)
  refine sw_seq ?_
  refine sw_region ?_
  refine ow_val (val_fieldAddr (m := 0) (e := 0) rfl Tryd.underlying27 rfl rfl Tryd.sizeOf3 rfl) rfl ?_   -- 23
  refine ow_val (val_load_at 1 rfl rfl Tryd.isAgg3 rfl) rfl ?_   -- 24
  refine ow_val (val_fieldAddr (m := 31) (e := 1) rfl Tryd.underlying27 rfl rfl Tryd.sizeOf23 rfl) rfl ?_   -- 25
  refine ow_val (val_load_part 1 rfl rfl Tryd.isAgg23 Tryd.sizeOf23 (by show (List.map vU8 leaf).length = _; rw [List.length_map]; exact hll) (ask_leaf hll)) rfl ?_   -- 26
  refine ow_val (val_fieldAddr (m := 0) (e := 33) rfl Tryd.underlying27 rfl rfl Tryd.sizeOf24 rfl) rfl ?_   -- 27
  refine ow_val (val_load_at 1 rfl rfl Tryd.isAgg24 (ask_33 hll)) rfl ?_   -- 28
  refine ow_val (val_fieldAddr (m := 0) (e := 34) rfl Tryd.underlying27 rfl rfl Tryd.sizeOf24 rfl) rfl ?_   -- 29
  refine ow_val (val_load_at 1 rfl rfl Tryd.isAgg24 (ask_34 hll)) rfl ?_   -- 30
  refine ow_val (val_fieldAddr (m := 0) (e := 35) rfl Tryd.underlying27 rfl rfl Tryd.sizeOf25 rfl) rfl ?_   -- 31
  refine ow_val (val_load_at 1 rfl rfl Tryd.isAgg25 (ask_35 hll)) rfl ?_   -- 32
  refine ow_val (val_fieldAddr (m := 31) (e := 36) rfl Tryd.underlying27 rfl rfl Tryd.sizeOf23 rfl) rfl ?_   -- 33
  refine ow_val (val_load_part 1 rfl rfl Tryd.isAgg23 Tryd.sizeOf23 (by show (List.map vU8 root).length = _; rw [List.length_map]; exact hrl) (ask_root hll hrl)) rfl ?_   -- 34
  refine ow_call_pure (callsTo Tryd.func17 rfl (by kernel_rfl) rfl) rfl (fun w hm => rincl_any v0 leaf hll i n root hrl w (hK.mem0 hm) a proof.length c proof rfl hpl (hr.mem hm) (by omega) (by omega) (by omega)) ?_   -- 35
  refine ow_val (val_assign rfl) rfl ?_   -- 4
  refine ow_nil (into ?_)
  refine sw_seq ?_
  refine sw_region ?_
  refine ow_val (val_fieldAddr (m := 0) (e := 0) rfl Tryd.underlying27 rfl rfl Tryd.sizeOf3 rfl) rfl ?_   -- 37
  refine ow_val (val_load_at 1 rfl rfl Tryd.isAgg3 rfl) rfl ?_   -- 38
  refine ow_val (val_fieldAddr (m := 31) (e := 1) rfl Tryd.underlying27 rfl rfl Tryd.sizeOf23 rfl) rfl ?_   -- 39
  refine ow_val (val_load_part 1 rfl rfl Tryd.isAgg23 Tryd.sizeOf23 (by show (List.map vU8 leaf).length = _; rw [List.length_map]; exact hll) (ask_leaf hll)) rfl ?_   -- 40
  refine ow_val (val_fieldAddr (m := 0) (e := 33) rfl Tryd.underlying27 rfl rfl Tryd.sizeOf24 rfl) rfl ?_   -- 41
  refine ow_val (val_load_at 1 rfl rfl Tryd.isAgg24 (ask_33 hll)) rfl ?_   -- 42
  refine ow_val (val_fieldAddr (m := 0) (e := 34) rfl Tryd.underlying27 rfl rfl Tryd.sizeOf24 rfl) rfl ?_   -- 43
  refine ow_val (val_load_at 1 rfl rfl Tryd.isAgg24 (ask_34 hll)) rfl ?_   -- 44
  refine ow_val (val_fieldAddr (m := 0) (e := 35) rfl Tryd.underlying27 rfl rfl Tryd.sizeOf25 rfl) rfl ?_   -- 45
  refine ow_val (val_load_at 1 rfl rfl Tryd.isAgg25 (ask_35 hll)) rfl ?_   -- 46
  refine ow_call_pure (callsTo Tryd.func14 rfl (by kernel_rfl) rfl) rfl (fun w hm => rroot_any v0 leaf hll i n w (hK.mem0 hm) a proof.length c proof rfl hpl (hr.mem hm) (by omega) (by omega) (by omega)) ?_   -- 47
  refine ow_val (val_move rfl) rfl ?_   -- 36
  refine ow_val (val_extract rfl rfl) rfl ?_   -- 48
  refine ow_val (val_extract rfl rfl) rfl ?_   -- 49
  refine ow_new (acts_alloc zD) rfl (fun b5 hb5 => ?_)   -- 5
  refine ow_do_eq (does_store_all 0 rfl rfl rfl (one_u8s _) Tryd.sizeOf23 (by show (List.map vU8 ((rootO v0 leaf i n proof).1)).length = _; rw [List.length_map]; exact (rootO_len hll)) (by show (List.map vU8 zeros32).length = _; rw [List.length_map]; exact zeros32_len)) ?_
  refine ow_val (val_assign rfl) rfl ?_   -- 6
  refine ow_nil (into ?_)
  refine sw_seq ?_
  refine sw_region_tree (Mem w [] [some (b5, blk (((rootO v0 leaf i n proof).1).map vU8) 23), some (b1, blk (askC v0 leaf i n (.slice a proof.length c) root) 27)]) [] (.one 0 0 (.one 2 0 (.one 4 0 (.one 6 0 (.one 8 0 (.one 1 1 (.one 3 1 (.one 5 1 (.one 7 1 (.one 9 1 (.one 11 1 (.one 10 2 (.one 12 2 (.one 13 0 .done)))))))))))))) (by kernel_rfl) (by kernel_rfl) (fun _ _ _ h => h) (fun _ h => h.only (.cons_cons _ (.cons _ (.cons_cons _ (List.nil_sublist _))))) (fun _ h => h.drawn _) ?_
  refine lt_pure rfl trivial (val_fieldAddr (m := 0) (e := 0) rfl Tryd.underlying27 rfl rfl Tryd.sizeOf3 rfl) rfl ?_   -- 50
  refine lt_pure rfl trivial (val_fieldAddr (m := 31) (e := 1) rfl Tryd.underlying27 rfl rfl Tryd.sizeOf23 rfl) rfl ?_   -- 52
  refine lt_pure rfl trivial (val_fieldAddr (m := 0) (e := 33) rfl Tryd.underlying27 rfl rfl Tryd.sizeOf24 rfl) rfl ?_   -- 54
  refine lt_pure rfl trivial (val_fieldAddr (m := 0) (e := 34) rfl Tryd.underlying27 rfl rfl Tryd.sizeOf24 rfl) rfl ?_   -- 56
  refine lt_pure rfl trivial (val_fieldAddr (m := 0) (e := 35) rfl Tryd.underlying27 rfl rfl Tryd.sizeOf25 rfl) rfl ?_   -- 58
  refine lt_held rfl trivial (val_load_at 1 rfl rfl Tryd.isAgg3 rfl) rfl ?_   -- 51
  refine lt_held rfl trivial (val_load_part 1 rfl rfl Tryd.isAgg23 Tryd.sizeOf23 (by show (List.map vU8 leaf).length = _; rw [List.length_map]; exact hll) (ask_leaf hll)) rfl ?_   -- 53
  refine lt_held rfl trivial (val_load_at 1 rfl rfl Tryd.isAgg24 (ask_33 hll)) rfl ?_   -- 55
  refine lt_held rfl trivial (val_load_at 1 rfl rfl Tryd.isAgg24 (ask_34 hll)) rfl ?_   -- 57
  refine lt_held rfl trivial (val_load_at 1 rfl rfl Tryd.isAgg25 (ask_35 hll)) rfl ?_   -- 59
  refine lt_held rfl trivial (val_load_all 0 rfl rfl Tryd.isAgg23 Tryd.sizeOf23 (by show (List.map vU8 ((rootO v0 leaf i n proof).1)).length = _; rw [List.length_map]; exact (rootO_len hll))) rfl ?_   -- 61
  refine lt_call_row (E := 23) (size := 32) (k := proof.length) (xs := (proof.flatMap fun d => d.map vU8)) rfl trivial (callsTo Tryd.func13 rfl (by kernel_rfl) rfl) rfl (fun w hm => twin_any w a proof.length c proof rfl hpl (hr.mem hm) (by omega) (by omega) (by omega)) (fun _ _ _ h => h.only (.cons _ (.cons_cons _ (.cons _ (.cons_cons _ (List.nil_sublist _)))))) (fun a60 c60 e60 hr60 => ?_)   -- 60
  refine lt_call_pure rfl trivial (callsTo Tryd.func16 rfl (by kernel_rfl) rfl) rfl (fun w hm => mincl_any v0 leaf hll i n ((rootO v0 leaf i n proof).1) (rootO_len hll) w (hK.mem0 hm) a60 proof.length c60 proof rfl hpl (hr60.rdAt hm (i := 0) rfl) hr60.le (by omega) (by omega)) (fun _ _ h => h.only (.cons _ (.cons_cons _ (.cons _ (.cons_cons _ (List.nil_sublist _)))))) ?_   -- 62
  refine lt_pure rfl trivial (val_assign rfl) rfl ?_   -- 7
  refine lt_done (into ?_)
  refine sw_seq ?_
  refine sw_region ?_
  refine ow_val (val_fieldAddr (m := 0) (e := 0) rfl Tryd.underlying27 rfl rfl Tryd.sizeOf3 rfl) rfl ?_   -- 63
  refine ow_val (val_load_at 3 rfl rfl Tryd.isAgg3 rfl) rfl ?_   -- 64
  refine ow_val (val_fieldAddr (m := 31) (e := 1) rfl Tryd.underlying27 rfl rfl Tryd.sizeOf23 rfl) rfl ?_   -- 65
  refine ow_val (val_load_part 3 rfl rfl Tryd.isAgg23 Tryd.sizeOf23 (by show (List.map vU8 leaf).length = _; rw [List.length_map]; exact hll) (ask_leaf hll)) rfl ?_   -- 66
  refine ow_val (val_fieldAddr (m := 0) (e := 33) rfl Tryd.underlying27 rfl rfl Tryd.sizeOf24 rfl) rfl ?_   -- 67
  refine ow_val (val_load_at 3 rfl rfl Tryd.isAgg24 (ask_33 hll)) rfl ?_   -- 68
  refine ow_val (val_fieldAddr (m := 0) (e := 34) rfl Tryd.underlying27 rfl rfl Tryd.sizeOf24 rfl) rfl ?_   -- 69
  refine ow_val (val_load_at 3 rfl rfl Tryd.isAgg24 (ask_34 hll)) rfl ?_   -- 70
  refine ow_val (val_fieldAddr (m := 0) (e := 35) rfl Tryd.underlying27 rfl rfl Tryd.sizeOf25 rfl) rfl ?_   -- 71
  refine ow_val (val_load_at 3 rfl rfl Tryd.isAgg25 (ask_35 hll)) rfl ?_   -- 72
  refine ow_val (val_load_all 1 rfl rfl Tryd.isAgg23 Tryd.sizeOf23 (by show (List.map vU8 ((rootO v0 leaf i n proof).1)).length = _; rw [List.length_map]; exact (rootO_len hll))) rfl ?_   -- 73
  refine ow_call_pure (callsTo Tryd.func17 rfl (by kernel_rfl) rfl) rfl (fun w hm => rincl_any v0 leaf hll i n ((rootO v0 leaf i n proof).1) (rootO_len hll) w (hK.mem0 hm) a proof.length c proof rfl hpl (hr.mem hm) (by omega) (by omega) (by omega)) ?_   -- 74
  refine ow_val (val_assign rfl) rfl ?_   -- 8
  refine ow_nil (into ?_)
  refine sw_seq ?_
  refine sw_region ?_
  refine ow_call_pure (v := .bool true) (callsTo Tryd.func15 rfl (by kernel_rfl) rfl) rfl (fun w hm => awake_any w (hK.mem0 hm)) ?_   -- 75
  refine ow_val (val_move rfl) rfl ?_   -- 76
  refine ow_guard_yes rfl rfl rfl ?_
  refine ow_val (val_move rfl) rfl ?_   -- 77
  refine ow_guard_yes rfl rfl rfl ?_
  refine ow_val (val_move rfl) rfl ?_   -- 78
  refine ow_guard_yes rfl rfl rfl ?_
  refine ow_val ((val_eql_int rfl rfl).to (v' := .bool true) (congrArg Value.bool (decide_eq_true rfl))) rfl ?_   -- 79
  refine ow_val (val_pick_true rfl rfl) rfl ?_   -- 80
  refine ow_val (val_move rfl) rfl ?_   -- 81
  refine ow_guard_yes rfl rfl rfl ?_
  refine ow_val (val_move rfl) rfl ?_   -- 82
  refine ow_guard_yes rfl rfl rfl ?_
  refine ow_val (val_move rfl) rfl ?_   -- 83
  refine ow_guard_yes rfl rfl rfl ?_
  refine ow_val ((val_eql_int rfl rfl).to (v' := .bool true) (congrArg Value.bool (decide_eq_true rfl))) rfl ?_   -- 84
  refine ow_val (val_pick_true rfl rfl) rfl ?_   -- 85
  refine ow_val (val_assign rfl) rfl ?_   -- 2
  refine ow_nil (into ?_)
  exact sw_ret (fun w hm => ret_one _ rfl rfl ⟨rfl, hm.forgetAll⟩)

theorem mcheckRootsOfs_any (v0 : Int) (leaf : List UInt8) (hll : leaf.length = 32) (i n : UInt64) (root : List UInt8) (hrl : root.length = 32) (w : World) (hK : KW w) (a : Option Addr) (c : Nat) (proof : List (List UInt8)) (hpl : ∀ d ∈ proof, d.length = 32) (hr : Rd w a (proof.flatMap fun d => d.map vU8)) (hc : proof.length ≤ c) (hl : proof.length < 9223372036854775808) (hb : (proof.length + 2) * 32 ≤ 140737488355328) : Calls Tryd.prog 5 #[.agg (askC v0 leaf i n (.slice a proof.length c) root).toArray] w fun e w' => ∃ v, e = .returned v ∧ v = .bool true ∧ Mem w [] [] w' := by
  refine calls_of_sw (vs := [.agg (askC v0 leaf i n (.slice a proof.length c) root).toArray]) Tryd.func5 rfl Tryd.ntmps5 rfl (SW.begin ?_)
  refine sw_seq ?_
  refine sw_region ?_
  refine ow_new (acts_box rfl) rfl (fun b1 hb1 => ?_)   -- 1
  refine ow_val (val_assign rfl) rfl ?_   -- 2
  refine ow_nil (into ?_)
  refine sw_seq ?_
  refine sw_region_tree (Mem w [] [some (b1, blk (askC v0 leaf i n (.slice a proof.length c) root) 27)]) [] (.one 0 0 (.one 2 0 (.one 4 0 (.one 6 0 (.one 8 0 (.one 1 1 (.one 3 1 (.one 5 1 (.one 7 1 (.one 9 1 (.alt 10 (.alt 11 (.one 12 0 (.one 13 0 (.one 14 0 (.one 15 0 (.alt 16 (.one 17 2 (.one 18 2 (.one 19 2 (.one 20 0 .done)))) (.alt 17 (.one 16 2 (.one 18 2 (.one 19 2 (.one 20 0 .done)))) .stop)))))) (.alt 16 (.alt 11 (.one 12 0 (.one 13 0 (.one 14 0 (.one 15 0 (.one 17 2 (.one 18 2 (.one 19 2 (.one 20 0 .done)))))))) (.alt 17 (.one 11 2 (.one 12 0 (.one 13 0 (.one 14 0 (.one 15 0 (.one 18 2 (.one 19 2 (.one 20 0 .done)))))))) .stop)) (.alt 17 (.alt 11 (.one 12 0 (.one 13 0 (.one 14 0 (.one 15 0 (.one 16 2 (.one 18 2 (.one 19 2 (.one 20 0 .done)))))))) (.alt 16 (.one 11 2 (.one 12 0 (.one 13 0 (.one 14 0 (.one 15 0 (.one 18 2 (.one 19 2 (.one 20 0 .done)))))))) .stop)) .stop))) (.alt 16 (.alt 10 (.alt 11 (.one 12 0 (.one 13 0 (.one 14 0 (.one 15 0 (.one 17 2 (.one 18 2 (.one 19 2 (.one 20 0 .done)))))))) (.alt 17 (.one 11 2 (.one 12 0 (.one 13 0 (.one 14 0 (.one 15 0 (.one 18 2 (.one 19 2 (.one 20 0 .done)))))))) .stop)) (.alt 17 (.one 10 2 (.one 11 2 (.one 12 0 (.one 13 0 (.one 14 0 (.one 15 0 (.one 18 2 (.one 19 2 (.one 20 0 .done))))))))) .stop)) (.alt 17 (.alt 10 (.alt 11 (.one 12 0 (.one 13 0 (.one 14 0 (.one 15 0 (.one 16 2 (.one 18 2 (.one 19 2 (.one 20 0 .done)))))))) (.alt 16 (.one 11 2 (.one 12 0 (.one 13 0 (.one 14 0 (.one 15 0 (.one 18 2 (.one 19 2 (.one 20 0 .done)))))))) .stop)) (.alt 16 (.one 10 2 (.one 11 2 (.one 12 0 (.one 13 0 (.one 14 0 (.one 15 0 (.one 18 2 (.one 19 2 (.one 20 0 .done))))))))) .stop)) .stop))))))))))))) (by kernel_rfl) (by kernel_rfl) (fun _ _ _ h => h) (fun _ h => h.only (.cons_cons _ (List.nil_sublist _))) (fun _ h => h.drawn _) ?_
  refine lt_pure rfl trivial (val_fieldAddr (m := 0) (e := 0) rfl Tryd.underlying27 rfl rfl Tryd.sizeOf3 rfl) rfl ?_   -- 10
  refine lt_pure rfl trivial (val_fieldAddr (m := 0) (e := 33) rfl Tryd.underlying27 rfl rfl Tryd.sizeOf24 rfl) rfl ?_   -- 12
  refine lt_pure rfl trivial (val_fieldAddr (m := 0) (e := 34) rfl Tryd.underlying27 rfl rfl Tryd.sizeOf24 rfl) rfl ?_   -- 14
  refine lt_pure rfl trivial (val_fieldAddr (m := 31) (e := 1) rfl Tryd.underlying27 rfl rfl Tryd.sizeOf23 rfl) rfl ?_   -- 16
  refine lt_pure rfl trivial (val_fieldAddr (m := 0) (e := 35) rfl Tryd.underlying27 rfl rfl Tryd.sizeOf25 rfl) rfl ?_   -- 18
  refine lt_held rfl trivial (val_load_at 0 rfl rfl Tryd.isAgg3 rfl) rfl ?_   -- 11
  refine lt_held rfl trivial (val_load_at 0 rfl rfl Tryd.isAgg24 (ask_33 hll)) rfl ?_   -- 13
  refine lt_held rfl trivial (val_load_at 0 rfl rfl Tryd.isAgg24 (ask_34 hll)) rfl ?_   -- 15
  refine lt_held rfl trivial (val_load_part 0 rfl rfl Tryd.isAgg23 Tryd.sizeOf23 (by show (List.map vU8 leaf).length = _; rw [List.length_map]; exact hll) (ask_leaf hll)) rfl ?_   -- 17
  refine lt_held rfl trivial (val_load_at 0 rfl rfl Tryd.isAgg25 (ask_35 hll)) rfl ?_   -- 19
  refine lt_alt ?_ ?_
  · -- first 10
    refine lt_call_row (E := 23) (size := 32) (k := proof.length) (xs := (proof.flatMap fun d => d.map vU8)) rfl trivial (callsTo Tryd.func13 rfl (by kernel_rfl) rfl) rfl (fun w hm => twin_any w a proof.length c proof rfl hpl (hr.mem hm) (by omega) (by omega) (by omega)) (fun _ _ _ h => h.only (.cons _ (.cons_cons _ (List.nil_sublist _)))) (fun a20 c20 e20 hr20 => ?_)   -- 20
    refine lt_alt ?_ ?_
    · -- first 11
      refine lt_call_pure rfl trivial (callsTo Tryd.func18 rfl (by kernel_rfl) rfl) rfl (fun w hm => mroots_any v0 leaf hll i n w (hK.mem0 hm) a20 proof.length c20 proof rfl hpl (hr20.rdAt hm (i := 0) rfl) hr20.le (by omega) (by omega)) (fun _ _ h => h.only (.cons _ (.cons_cons _ (List.nil_sublist _)))) ?_   -- 21
      refine lt_pure rfl trivial (val_move rfl) rfl ?_   -- 9
      refine lt_pure rfl trivial (val_extract rfl rfl) rfl ?_   -- 22
      refine lt_pure rfl trivial (val_extract rfl rfl) rfl ?_   -- 23
      refine lt_pure rfl trivial (val_extract rfl rfl) rfl ?_   -- 24
      refine lt_alt ?_ ?_
      · -- first 16
        refine lt_make (fun b => .pointer (some ⟨b, 0, none⟩)) rfl trivial (acts_alloc zD) rfl (fun _ _ _ h => h.only (.cons _ (.cons _ (.cons_cons _ (List.nil_sublist _))))) (fun b3 hb3 => ?_)   -- 3
        refine lt_make (fun b => .pointer (some ⟨b, 0, none⟩)) rfl trivial (acts_alloc zD) rfl (fun _ _ _ h => h.only (.cons _ (.cons _ (.cons _ (.cons_cons _ (List.nil_sublist _)))))) (fun b4 hb4 => ?_)   -- 4
        refine lt_do rfl trivial (does_store_all 1 rfl rfl rfl (one_u8s _) Tryd.sizeOf23 (by show (List.map vU8 ((rootsO v0 i n leaf proof).1.1)).length = _; rw [List.length_map]; exact (rootsO_len hll hpl).1) (by show (List.map vU8 zeros32).length = _; rw [List.length_map]; exact zeros32_len)) (fun _ _ _ _ h => h.only (.cons _ (.cons _ (.cons _ (.cons_cons _ (List.nil_sublist _)))))) (fun _ _ => ?_)
        refine lt_do rfl trivial (does_store_all 0 rfl rfl rfl (one_u8s _) Tryd.sizeOf23 (by show (List.map vU8 ((rootsO v0 i n leaf proof).1.2)).length = _; rw [List.length_map]; exact (rootsO_len hll hpl).2) (by show (List.map vU8 zeros32).length = _; rw [List.length_map]; exact zeros32_len)) (fun _ _ _ _ h => h.only (.cons _ (.cons _ (.cons _ (.cons_cons _ (List.nil_sublist _)))))) (fun _ _ => ?_)
        refine lt_pure rfl trivial (val_assign rfl) rfl ?_   -- 5
        refine lt_done (into ?_)
        refine sw_seq ?_
        refine sw_region ?_
        refine ow_val (val_fieldAddr (m := 0) (e := 0) rfl Tryd.underlying27 rfl rfl Tryd.sizeOf3 rfl) rfl ?_   -- 26
        refine ow_val (val_load_at 3 rfl rfl Tryd.isAgg3 rfl) rfl ?_   -- 27
        refine ow_val (val_fieldAddr (m := 0) (e := 33) rfl Tryd.underlying27 rfl rfl Tryd.sizeOf24 rfl) rfl ?_   -- 28
        refine ow_val (val_load_at 3 rfl rfl Tryd.isAgg24 (ask_33 hll)) rfl ?_   -- 29
        refine ow_val (val_fieldAddr (m := 0) (e := 34) rfl Tryd.underlying27 rfl rfl Tryd.sizeOf24 rfl) rfl ?_   -- 30
        refine ow_val (val_load_at 3 rfl rfl Tryd.isAgg24 (ask_34 hll)) rfl ?_   -- 31
        refine ow_val (val_fieldAddr (m := 31) (e := 1) rfl Tryd.underlying27 rfl rfl Tryd.sizeOf23 rfl) rfl ?_   -- 32
        refine ow_val (val_load_part 3 rfl rfl Tryd.isAgg23 Tryd.sizeOf23 (by show (List.map vU8 leaf).length = _; rw [List.length_map]; exact hll) (ask_leaf hll)) rfl ?_   -- 33
        refine ow_val (val_fieldAddr (m := 0) (e := 35) rfl Tryd.underlying27 rfl rfl Tryd.sizeOf25 rfl) rfl ?_   -- 34
        refine ow_val (val_load_at 3 rfl rfl Tryd.isAgg25 (ask_35 hll)) rfl ?_   -- 35
        refine ow_call_pure (callsTo Tryd.func19 rfl (by kernel_rfl) rfl) rfl (fun w hm => rroots_any v0 leaf hll i n w (hK.mem0 hm) a proof.length c proof rfl hpl (hr.mem hm) (by omega) (by omega) (by omega)) ?_   -- 36
        refine ow_val (val_move rfl) rfl ?_   -- 25
        refine ow_val (val_extract rfl rfl) rfl ?_   -- 37
        refine ow_val (val_extract rfl rfl) rfl ?_   -- 38
        refine ow_val (val_extract rfl rfl) rfl ?_   -- 39
        refine ow_new (acts_alloc zD) rfl (fun b6 hb6 => ?_)   -- 6
        refine ow_new (acts_alloc zD) rfl (fun b7 hb7 => ?_)   -- 7
        refine ow_do_eq (does_store_all 1 rfl rfl rfl (one_u8s _) Tryd.sizeOf23 (by show (List.map vU8 ((rootsO v0 i n leaf proof).1.1)).length = _; rw [List.length_map]; exact (rootsO_len hll hpl).1) (by show (List.map vU8 zeros32).length = _; rw [List.length_map]; exact zeros32_len)) ?_
        refine ow_do_eq (does_store_all 0 rfl rfl rfl (one_u8s _) Tryd.sizeOf23 (by show (List.map vU8 ((rootsO v0 i n leaf proof).1.2)).length = _; rw [List.length_map]; exact (rootsO_len hll hpl).2) (by show (List.map vU8 zeros32).length = _; rw [List.length_map]; exact zeros32_len)) ?_
        refine ow_val (val_assign rfl) rfl ?_   -- 8
        refine ow_nil (into ?_)
        refine sw_seq ?_
        refine sw_region ?_
        refine ow_call_pure (v := .bool true) (callsTo Tryd.func15 rfl (by kernel_rfl) rfl) rfl (fun w hm => awake_any w (hK.mem0 hm)) ?_   -- 40
        refine ow_val (val_move rfl) rfl ?_   -- 41
        refine ow_guard_yes rfl rfl rfl ?_
        refine ow_val (val_load_all 3 rfl rfl Tryd.isAgg23 Tryd.sizeOf23 (by show (List.map vU8 ((rootsO v0 i n leaf proof).1.1)).length = _; rw [List.length_map]; exact (rootsO_len hll hpl).1)) rfl ?_   -- 42
        refine ow_guard_yes rfl rfl rfl ?_
        refine ow_val (val_load_all 1 rfl rfl Tryd.isAgg23 Tryd.sizeOf23 (by show (List.map vU8 ((rootsO v0 i n leaf proof).1.1)).length = _; rw [List.length_map]; exact (rootsO_len hll hpl).1)) rfl ?_   -- 43
        refine ow_guard_yes rfl rfl rfl ?_
        refine ow_val ((val_eql_u8s rfl rfl Tryd.eqGuardType23 Tryd.underlying23 Tryd.underlying5 Tryd.sizeOf5 Tryd.isAgg5 (rootsO_len hll hpl).1 (rootsO_len hll hpl).1).to (congrArg Value.bool (show _ = true by simp [txt]))) rfl ?_   -- 44
        refine ow_val (val_pick_true rfl rfl) rfl ?_   -- 45
        refine ow_val (val_move rfl) rfl ?_   -- 46
        refine ow_guard_yes rfl rfl rfl ?_
        refine ow_val (val_load_all 2 rfl rfl Tryd.isAgg23 Tryd.sizeOf23 (by show (List.map vU8 ((rootsO v0 i n leaf proof).1.2)).length = _; rw [List.length_map]; exact (rootsO_len hll hpl).2)) rfl ?_   -- 47
        refine ow_guard_yes rfl rfl rfl ?_
        refine ow_val (val_load_all 0 rfl rfl Tryd.isAgg23 Tryd.sizeOf23 (by show (List.map vU8 ((rootsO v0 i n leaf proof).1.2)).length = _; rw [List.length_map]; exact (rootsO_len hll hpl).2)) rfl ?_   -- 48
        refine ow_guard_yes rfl rfl rfl ?_
        refine ow_val ((val_eql_u8s rfl rfl Tryd.eqGuardType23 Tryd.underlying23 Tryd.underlying5 Tryd.sizeOf5 Tryd.isAgg5 (rootsO_len hll hpl).2 (rootsO_len hll hpl).2).to (congrArg Value.bool (show _ = true by simp [txt]))) rfl ?_   -- 49
        refine ow_val (val_pick_true rfl rfl) rfl ?_   -- 50
        refine ow_val (val_move rfl) rfl ?_   -- 51
        refine ow_guard_yes rfl rfl rfl ?_
        refine ow_val (val_move rfl) rfl ?_   -- 52
        refine ow_guard_yes rfl rfl rfl ?_
        refine ow_val (val_move rfl) rfl ?_   -- 53
        refine ow_guard_yes rfl rfl rfl ?_
        refine ow_val ((val_eql_int rfl rfl).to (v' := .bool true) (congrArg Value.bool (decide_eq_true rfl))) rfl ?_   -- 54
        refine ow_val (val_pick_true rfl rfl) rfl ?_   -- 55
        refine ow_val (val_assign rfl) rfl ?_   -- 2
        refine ow_nil (into ?_)
        refine sw_ret (fun w hm => ?_)
        try dsimp only [thenP, blockP, Nat.beq, cond]
        exact ret_one _ rfl rfl ⟨rfl, hm.forgetAll⟩
      refine lt_alt ?_ ?_
      · -- first 17
        refine lt_make (fun b => .pointer (some ⟨b, 0, none⟩)) rfl trivial (acts_alloc zD) rfl (fun _ _ _ h => h.only (.cons _ (.cons _ (.cons_cons _ (List.nil_sublist _))))) (fun b4 hb4 => ?_)   -- 4
        refine lt_make (fun b => .pointer (some ⟨b, 0, none⟩)) rfl trivial (acts_alloc zD) rfl (fun _ _ _ h => h.only (.cons _ (.cons _ (.cons _ (.cons_cons _ (List.nil_sublist _)))))) (fun b3 hb3 => ?_)   -- 3
        refine lt_do rfl trivial (does_store_all 0 rfl rfl rfl (one_u8s _) Tryd.sizeOf23 (by show (List.map vU8 ((rootsO v0 i n leaf proof).1.1)).length = _; rw [List.length_map]; exact (rootsO_len hll hpl).1) (by show (List.map vU8 zeros32).length = _; rw [List.length_map]; exact zeros32_len)) (fun _ _ _ _ h => h.only (.cons _ (.cons _ (.cons _ (.cons_cons _ (List.nil_sublist _)))))) (fun _ _ => ?_)
        refine lt_do rfl trivial (does_store_all 1 rfl rfl rfl (one_u8s _) Tryd.sizeOf23 (by show (List.map vU8 ((rootsO v0 i n leaf proof).1.2)).length = _; rw [List.length_map]; exact (rootsO_len hll hpl).2) (by show (List.map vU8 zeros32).length = _; rw [List.length_map]; exact zeros32_len)) (fun _ _ _ _ h => h.only (.cons _ (.cons _ (.cons _ (.cons_cons _ (List.nil_sublist _)))))) (fun _ _ => ?_)
        refine lt_pure rfl trivial (val_assign rfl) rfl ?_   -- 5
        refine lt_done (into ?_)
        refine sw_seq ?_
        refine sw_region ?_
        refine ow_val (val_fieldAddr (m := 0) (e := 0) rfl Tryd.underlying27 rfl rfl Tryd.sizeOf3 rfl) rfl ?_   -- 26
        refine ow_val (val_load_at 3 rfl rfl Tryd.isAgg3 rfl) rfl ?_   -- 27
        refine ow_val (val_fieldAddr (m := 0) (e := 33) rfl Tryd.underlying27 rfl rfl Tryd.sizeOf24 rfl) rfl ?_   -- 28
        refine ow_val (val_load_at 3 rfl rfl Tryd.isAgg24 (ask_33 hll)) rfl ?_   -- 29
        refine ow_val (val_fieldAddr (m := 0) (e := 34) rfl Tryd.underlying27 rfl rfl Tryd.sizeOf24 rfl) rfl ?_   -- 30
        refine ow_val (val_load_at 3 rfl rfl Tryd.isAgg24 (ask_34 hll)) rfl ?_   -- 31
        refine ow_val (val_fieldAddr (m := 31) (e := 1) rfl Tryd.underlying27 rfl rfl Tryd.sizeOf23 rfl) rfl ?_   -- 32
        refine ow_val (val_load_part 3 rfl rfl Tryd.isAgg23 Tryd.sizeOf23 (by show (List.map vU8 leaf).length = _; rw [List.length_map]; exact hll) (ask_leaf hll)) rfl ?_   -- 33
        refine ow_val (val_fieldAddr (m := 0) (e := 35) rfl Tryd.underlying27 rfl rfl Tryd.sizeOf25 rfl) rfl ?_   -- 34
        refine ow_val (val_load_at 3 rfl rfl Tryd.isAgg25 (ask_35 hll)) rfl ?_   -- 35
        refine ow_call_pure (callsTo Tryd.func19 rfl (by kernel_rfl) rfl) rfl (fun w hm => rroots_any v0 leaf hll i n w (hK.mem0 hm) a proof.length c proof rfl hpl (hr.mem hm) (by omega) (by omega) (by omega)) ?_   -- 36
        refine ow_val (val_move rfl) rfl ?_   -- 25
        refine ow_val (val_extract rfl rfl) rfl ?_   -- 37
        refine ow_val (val_extract rfl rfl) rfl ?_   -- 38
        refine ow_val (val_extract rfl rfl) rfl ?_   -- 39
        refine ow_new (acts_alloc zD) rfl (fun b6 hb6 => ?_)   -- 6
        refine ow_new (acts_alloc zD) rfl (fun b7 hb7 => ?_)   -- 7
        refine ow_do_eq (does_store_all 1 rfl rfl rfl (one_u8s _) Tryd.sizeOf23 (by show (List.map vU8 ((rootsO v0 i n leaf proof).1.1)).length = _; rw [List.length_map]; exact (rootsO_len hll hpl).1) (by show (List.map vU8 zeros32).length = _; rw [List.length_map]; exact zeros32_len)) ?_
        refine ow_do_eq (does_store_all 0 rfl rfl rfl (one_u8s _) Tryd.sizeOf23 (by show (List.map vU8 ((rootsO v0 i n leaf proof).1.2)).length = _; rw [List.length_map]; exact (rootsO_len hll hpl).2) (by show (List.map vU8 zeros32).length = _; rw [List.length_map]; exact zeros32_len)) ?_
        refine ow_val (val_assign rfl) rfl ?_   -- 8
        refine ow_nil (into ?_)
        refine sw_seq ?_
        refine sw_region ?_
        refine ow_call_pure (v := .bool true) (callsTo Tryd.func15 rfl (by kernel_rfl) rfl) rfl (fun w hm => awake_any w (hK.mem0 hm)) ?_   -- 40
        refine ow_val (val_move rfl) rfl ?_   -- 41
        refine ow_guard_yes rfl rfl rfl ?_
        refine ow_val (val_load_all 2 rfl rfl Tryd.isAgg23 Tryd.sizeOf23 (by show (List.map vU8 ((rootsO v0 i n leaf proof).1.1)).length = _; rw [List.length_map]; exact (rootsO_len hll hpl).1)) rfl ?_   -- 42
        refine ow_guard_yes rfl rfl rfl ?_
        refine ow_val (val_load_all 1 rfl rfl Tryd.isAgg23 Tryd.sizeOf23 (by show (List.map vU8 ((rootsO v0 i n leaf proof).1.1)).length = _; rw [List.length_map]; exact (rootsO_len hll hpl).1)) rfl ?_   -- 43
        refine ow_guard_yes rfl rfl rfl ?_
        refine ow_val ((val_eql_u8s rfl rfl Tryd.eqGuardType23 Tryd.underlying23 Tryd.underlying5 Tryd.sizeOf5 Tryd.isAgg5 (rootsO_len hll hpl).1 (rootsO_len hll hpl).1).to (congrArg Value.bool (show _ = true by simp [txt]))) rfl ?_   -- 44
        refine ow_val (val_pick_true rfl rfl) rfl ?_   -- 45
        refine ow_val (val_move rfl) rfl ?_   -- 46
        refine ow_guard_yes rfl rfl rfl ?_
        refine ow_val (val_load_all 3 rfl rfl Tryd.isAgg23 Tryd.sizeOf23 (by show (List.map vU8 ((rootsO v0 i n leaf proof).1.2)).length = _; rw [List.length_map]; exact (rootsO_len hll hpl).2)) rfl ?_   -- 47
        refine ow_guard_yes rfl rfl rfl ?_
        refine ow_val (val_load_all 0 rfl rfl Tryd.isAgg23 Tryd.sizeOf23 (by show (List.map vU8 ((rootsO v0 i n leaf proof).1.2)).length = _; rw [List.length_map]; exact (rootsO_len hll hpl).2)) rfl ?_   -- 48
        refine ow_guard_yes rfl rfl rfl ?_
        refine ow_val ((val_eql_u8s rfl rfl Tryd.eqGuardType23 Tryd.underlying23 Tryd.underlying5 Tryd.sizeOf5 Tryd.isAgg5 (rootsO_len hll hpl).2 (rootsO_len hll hpl).2).to (congrArg Value.bool (show _ = true by simp [txt]))) rfl ?_   -- 49
        refine ow_val (val_pick_true rfl rfl) rfl ?_   -- 50
        refine ow_val (val_move rfl) rfl ?_   -- 51
        refine ow_guard_yes rfl rfl rfl ?_
        refine ow_val (val_move rfl) rfl ?_   -- 52
        refine ow_guard_yes rfl rfl rfl ?_
        refine ow_val (val_move rfl) rfl ?_   -- 53
        refine ow_guard_yes rfl rfl rfl ?_
        refine ow_val ((val_eql_int rfl rfl).to (v' := .bool true) (congrArg Value.bool (decide_eq_true rfl))) rfl ?_   -- 54
        refine ow_val (val_pick_true rfl rfl) rfl ?_   -- 55
        refine ow_val (val_assign rfl) rfl ?_   -- 2
        refine ow_nil (into ?_)
        refine sw_ret (fun w hm => ?_)
        try dsimp only [thenP, blockP, Nat.beq, cond]
        exact ret_one _ rfl rfl ⟨rfl, hm.forgetAll⟩
      exact lt_stop
    refine lt_alt ?_ ?_
    · -- first 16
      refine lt_make (fun b => .pointer (some ⟨b, 0, none⟩)) rfl trivial (acts_alloc zD) rfl (fun _ _ _ h => h.only (.cons _ (.cons _ (.cons_cons _ (List.nil_sublist _))))) (fun b3 hb3 => ?_)   -- 3
      refine lt_alt ?_ ?_
      · -- first 11
        refine lt_call_pure rfl trivial (callsTo Tryd.func18 rfl (by kernel_rfl) rfl) rfl (fun w hm => mroots_any v0 leaf hll i n w (hK.mem0 hm) a20 proof.length c20 proof rfl hpl (hr20.rdAt hm (i := 1) rfl) hr20.le (by omega) (by omega)) (fun _ _ h => h.only (.cons _ (.cons _ (.cons_cons _ (List.nil_sublist _))))) ?_   -- 21
        refine lt_pure rfl trivial (val_move rfl) rfl ?_   -- 9
        refine lt_pure rfl trivial (val_extract rfl rfl) rfl ?_   -- 22
        refine lt_pure rfl trivial (val_extract rfl rfl) rfl ?_   -- 23
        refine lt_pure rfl trivial (val_extract rfl rfl) rfl ?_   -- 24
        refine lt_make (fun b => .pointer (some ⟨b, 0, none⟩)) rfl trivial (acts_alloc zD) rfl (fun _ _ _ h => h.only (.cons _ (.cons _ (.cons _ (.cons_cons _ (List.nil_sublist _)))))) (fun b4 hb4 => ?_)   -- 4
        refine lt_do rfl trivial (does_store_all 1 rfl rfl rfl (one_u8s _) Tryd.sizeOf23 (by show (List.map vU8 ((rootsO v0 i n leaf proof).1.1)).length = _; rw [List.length_map]; exact (rootsO_len hll hpl).1) (by show (List.map vU8 zeros32).length = _; rw [List.length_map]; exact zeros32_len)) (fun _ _ _ _ h => h.only (.cons _ (.cons _ (.cons _ (.cons_cons _ (List.nil_sublist _)))))) (fun _ _ => ?_)
        refine lt_do rfl trivial (does_store_all 0 rfl rfl rfl (one_u8s _) Tryd.sizeOf23 (by show (List.map vU8 ((rootsO v0 i n leaf proof).1.2)).length = _; rw [List.length_map]; exact (rootsO_len hll hpl).2) (by show (List.map vU8 zeros32).length = _; rw [List.length_map]; exact zeros32_len)) (fun _ _ _ _ h => h.only (.cons _ (.cons _ (.cons _ (.cons_cons _ (List.nil_sublist _)))))) (fun _ _ => ?_)
        refine lt_pure rfl trivial (val_assign rfl) rfl ?_   -- 5
        refine lt_done (into ?_)
        refine sw_seq ?_
        refine sw_region ?_
        refine ow_val (val_fieldAddr (m := 0) (e := 0) rfl Tryd.underlying27 rfl rfl Tryd.sizeOf3 rfl) rfl ?_   -- 26
        refine ow_val (val_load_at 3 rfl rfl Tryd.isAgg3 rfl) rfl ?_   -- 27
        refine ow_val (val_fieldAddr (m := 0) (e := 33) rfl Tryd.underlying27 rfl rfl Tryd.sizeOf24 rfl) rfl ?_   -- 28
        refine ow_val (val_load_at 3 rfl rfl Tryd.isAgg24 (ask_33 hll)) rfl ?_   -- 29
        refine ow_val (val_fieldAddr (m := 0) (e := 34) rfl Tryd.underlying27 rfl rfl Tryd.sizeOf24 rfl) rfl ?_   -- 30
        refine ow_val (val_load_at 3 rfl rfl Tryd.isAgg24 (ask_34 hll)) rfl ?_   -- 31
        refine ow_val (val_fieldAddr (m := 31) (e := 1) rfl Tryd.underlying27 rfl rfl Tryd.sizeOf23 rfl) rfl ?_   -- 32
        refine ow_val (val_load_part 3 rfl rfl Tryd.isAgg23 Tryd.sizeOf23 (by show (List.map vU8 leaf).length = _; rw [List.length_map]; exact hll) (ask_leaf hll)) rfl ?_   -- 33
        refine ow_val (val_fieldAddr (m := 0) (e := 35) rfl Tryd.underlying27 rfl rfl Tryd.sizeOf25 rfl) rfl ?_   -- 34
        refine ow_val (val_load_at 3 rfl rfl Tryd.isAgg25 (ask_35 hll)) rfl ?_   -- 35
        refine ow_call_pure (callsTo Tryd.func19 rfl (by kernel_rfl) rfl) rfl (fun w hm => rroots_any v0 leaf hll i n w (hK.mem0 hm) a proof.length c proof rfl hpl (hr.mem hm) (by omega) (by omega) (by omega)) ?_   -- 36
        refine ow_val (val_move rfl) rfl ?_   -- 25
        refine ow_val (val_extract rfl rfl) rfl ?_   -- 37
        refine ow_val (val_extract rfl rfl) rfl ?_   -- 38
        refine ow_val (val_extract rfl rfl) rfl ?_   -- 39
        refine ow_new (acts_alloc zD) rfl (fun b6 hb6 => ?_)   -- 6
        refine ow_new (acts_alloc zD) rfl (fun b7 hb7 => ?_)   -- 7
        refine ow_do_eq (does_store_all 1 rfl rfl rfl (one_u8s _) Tryd.sizeOf23 (by show (List.map vU8 ((rootsO v0 i n leaf proof).1.1)).length = _; rw [List.length_map]; exact (rootsO_len hll hpl).1) (by show (List.map vU8 zeros32).length = _; rw [List.length_map]; exact zeros32_len)) ?_
        refine ow_do_eq (does_store_all 0 rfl rfl rfl (one_u8s _) Tryd.sizeOf23 (by show (List.map vU8 ((rootsO v0 i n leaf proof).1.2)).length = _; rw [List.length_map]; exact (rootsO_len hll hpl).2) (by show (List.map vU8 zeros32).length = _; rw [List.length_map]; exact zeros32_len)) ?_
        refine ow_val (val_assign rfl) rfl ?_   -- 8
        refine ow_nil (into ?_)
        refine sw_seq ?_
        refine sw_region ?_
        refine ow_call_pure (v := .bool true) (callsTo Tryd.func15 rfl (by kernel_rfl) rfl) rfl (fun w hm => awake_any w (hK.mem0 hm)) ?_   -- 40
        refine ow_val (val_move rfl) rfl ?_   -- 41
        refine ow_guard_yes rfl rfl rfl ?_
        refine ow_val (val_load_all 3 rfl rfl Tryd.isAgg23 Tryd.sizeOf23 (by show (List.map vU8 ((rootsO v0 i n leaf proof).1.1)).length = _; rw [List.length_map]; exact (rootsO_len hll hpl).1)) rfl ?_   -- 42
        refine ow_guard_yes rfl rfl rfl ?_
        refine ow_val (val_load_all 1 rfl rfl Tryd.isAgg23 Tryd.sizeOf23 (by show (List.map vU8 ((rootsO v0 i n leaf proof).1.1)).length = _; rw [List.length_map]; exact (rootsO_len hll hpl).1)) rfl ?_   -- 43
        refine ow_guard_yes rfl rfl rfl ?_
        refine ow_val ((val_eql_u8s rfl rfl Tryd.eqGuardType23 Tryd.underlying23 Tryd.underlying5 Tryd.sizeOf5 Tryd.isAgg5 (rootsO_len hll hpl).1 (rootsO_len hll hpl).1).to (congrArg Value.bool (show _ = true by simp [txt]))) rfl ?_   -- 44
        refine ow_val (val_pick_true rfl rfl) rfl ?_   -- 45
        refine ow_val (val_move rfl) rfl ?_   -- 46
        refine ow_guard_yes rfl rfl rfl ?_
        refine ow_val (val_load_all 2 rfl rfl Tryd.isAgg23 Tryd.sizeOf23 (by show (List.map vU8 ((rootsO v0 i n leaf proof).1.2)).length = _; rw [List.length_map]; exact (rootsO_len hll hpl).2)) rfl ?_   -- 47
        refine ow_guard_yes rfl rfl rfl ?_
        refine ow_val (val_load_all 0 rfl rfl Tryd.isAgg23 Tryd.sizeOf23 (by show (List.map vU8 ((rootsO v0 i n leaf proof).1.2)).length = _; rw [List.length_map]; exact (rootsO_len hll hpl).2)) rfl ?_   -- 48
        refine ow_guard_yes rfl rfl rfl ?_
        refine ow_val ((val_eql_u8s rfl rfl Tryd.eqGuardType23 Tryd.underlying23 Tryd.underlying5 Tryd.sizeOf5 Tryd.isAgg5 (rootsO_len hll hpl).2 (rootsO_len hll hpl).2).to (congrArg Value.bool (show _ = true by simp [txt]))) rfl ?_   -- 49
        refine ow_val (val_pick_true rfl rfl) rfl ?_   -- 50
        refine ow_val (val_move rfl) rfl ?_   -- 51
        refine ow_guard_yes rfl rfl rfl ?_
        refine ow_val (val_move rfl) rfl ?_   -- 52
        refine ow_guard_yes rfl rfl rfl ?_
        refine ow_val (val_move rfl) rfl ?_   -- 53
        refine ow_guard_yes rfl rfl rfl ?_
        refine ow_val ((val_eql_int rfl rfl).to (v' := .bool true) (congrArg Value.bool (decide_eq_true rfl))) rfl ?_   -- 54
        refine ow_val (val_pick_true rfl rfl) rfl ?_   -- 55
        refine ow_val (val_assign rfl) rfl ?_   -- 2
        refine ow_nil (into ?_)
        refine sw_ret (fun w hm => ?_)
        try dsimp only [thenP, blockP, Nat.beq, cond]
        exact ret_one _ rfl rfl ⟨rfl, hm.forgetAll⟩
      refine lt_alt ?_ ?_
      · -- first 17
        refine lt_make (fun b => .pointer (some ⟨b, 0, none⟩)) rfl trivial (acts_alloc zD) rfl (fun _ _ _ h => h.only (.cons _ (.cons _ (.cons _ (.cons_cons _ (List.nil_sublist _)))))) (fun b4 hb4 => ?_)   -- 4
        refine lt_call_pure rfl trivial (callsTo Tryd.func18 rfl (by kernel_rfl) rfl) rfl (fun w hm => mroots_any v0 leaf hll i n w (hK.mem0 hm) a20 proof.length c20 proof rfl hpl (hr20.rdAt hm (i := 2) rfl) hr20.le (by omega) (by omega)) (fun _ _ h => h.only (.cons _ (.cons _ (.cons _ (.cons_cons _ (List.nil_sublist _)))))) ?_   -- 21
        refine lt_pure rfl trivial (val_move rfl) rfl ?_   -- 9
        refine lt_pure rfl trivial (val_extract rfl rfl) rfl ?_   -- 22
        refine lt_pure rfl trivial (val_extract rfl rfl) rfl ?_   -- 23
        refine lt_pure rfl trivial (val_extract rfl rfl) rfl ?_   -- 24
        refine lt_do rfl trivial (does_store_all 1 rfl rfl rfl (one_u8s _) Tryd.sizeOf23 (by show (List.map vU8 ((rootsO v0 i n leaf proof).1.1)).length = _; rw [List.length_map]; exact (rootsO_len hll hpl).1) (by show (List.map vU8 zeros32).length = _; rw [List.length_map]; exact zeros32_len)) (fun _ _ _ _ h => h.only (.cons _ (.cons _ (.cons _ (.cons_cons _ (List.nil_sublist _)))))) (fun _ _ => ?_)
        refine lt_do rfl trivial (does_store_all 0 rfl rfl rfl (one_u8s _) Tryd.sizeOf23 (by show (List.map vU8 ((rootsO v0 i n leaf proof).1.2)).length = _; rw [List.length_map]; exact (rootsO_len hll hpl).2) (by show (List.map vU8 zeros32).length = _; rw [List.length_map]; exact zeros32_len)) (fun _ _ _ _ h => h.only (.cons _ (.cons _ (.cons _ (.cons_cons _ (List.nil_sublist _)))))) (fun _ _ => ?_)
        refine lt_pure rfl trivial (val_assign rfl) rfl ?_   -- 5
        refine lt_done (into ?_)
        refine sw_seq ?_
        refine sw_region ?_
        refine ow_val (val_fieldAddr (m := 0) (e := 0) rfl Tryd.underlying27 rfl rfl Tryd.sizeOf3 rfl) rfl ?_   -- 26
        refine ow_val (val_load_at 3 rfl rfl Tryd.isAgg3 rfl) rfl ?_   -- 27
        refine ow_val (val_fieldAddr (m := 0) (e := 33) rfl Tryd.underlying27 rfl rfl Tryd.sizeOf24 rfl) rfl ?_   -- 28
        refine ow_val (val_load_at 3 rfl rfl Tryd.isAgg24 (ask_33 hll)) rfl ?_   -- 29
        refine ow_val (val_fieldAddr (m := 0) (e := 34) rfl Tryd.underlying27 rfl rfl Tryd.sizeOf24 rfl) rfl ?_   -- 30
        refine ow_val (val_load_at 3 rfl rfl Tryd.isAgg24 (ask_34 hll)) rfl ?_   -- 31
        refine ow_val (val_fieldAddr (m := 31) (e := 1) rfl Tryd.underlying27 rfl rfl Tryd.sizeOf23 rfl) rfl ?_   -- 32
        refine ow_val (val_load_part 3 rfl rfl Tryd.isAgg23 Tryd.sizeOf23 (by show (List.map vU8 leaf).length = _; rw [List.length_map]; exact hll) (ask_leaf hll)) rfl ?_   -- 33
        refine ow_val (val_fieldAddr (m := 0) (e := 35) rfl Tryd.underlying27 rfl rfl Tryd.sizeOf25 rfl) rfl ?_   -- 34
        refine ow_val (val_load_at 3 rfl rfl Tryd.isAgg25 (ask_35 hll)) rfl ?_   -- 35
        refine ow_call_pure (callsTo Tryd.func19 rfl (by kernel_rfl) rfl) rfl (fun w hm => rroots_any v0 leaf hll i n w (hK.mem0 hm) a proof.length c proof rfl hpl (hr.mem hm) (by omega) (by omega) (by omega)) ?_   -- 36
        refine ow_val (val_move rfl) rfl ?_   -- 25
        refine ow_val (val_extract rfl rfl) rfl ?_   -- 37
        refine ow_val (val_extract rfl rfl) rfl ?_   -- 38
        refine ow_val (val_extract rfl rfl) rfl ?_   -- 39
        refine ow_new (acts_alloc zD) rfl (fun b6 hb6 => ?_)   -- 6
        refine ow_new (acts_alloc zD) rfl (fun b7 hb7 => ?_)   -- 7
        refine ow_do_eq (does_store_all 1 rfl rfl rfl (one_u8s _) Tryd.sizeOf23 (by show (List.map vU8 ((rootsO v0 i n leaf proof).1.1)).length = _; rw [List.length_map]; exact (rootsO_len hll hpl).1) (by show (List.map vU8 zeros32).length = _; rw [List.length_map]; exact zeros32_len)) ?_
        refine ow_do_eq (does_store_all 0 rfl rfl rfl (one_u8s _) Tryd.sizeOf23 (by show (List.map vU8 ((rootsO v0 i n leaf proof).1.2)).length = _; rw [List.length_map]; exact (rootsO_len hll hpl).2) (by show (List.map vU8 zeros32).length = _; rw [List.length_map]; exact zeros32_len)) ?_
        refine ow_val (val_assign rfl) rfl ?_   -- 8
        refine ow_nil (into ?_)
        refine sw_seq ?_
        refine sw_region ?_
        refine ow_call_pure (v := .bool true) (callsTo Tryd.func15 rfl (by kernel_rfl) rfl) rfl (fun w hm => awake_any w (hK.mem0 hm)) ?_   -- 40
        refine ow_val (val_move rfl) rfl ?_   -- 41
        refine ow_guard_yes rfl rfl rfl ?_
        refine ow_val (val_load_all 3 rfl rfl Tryd.isAgg23 Tryd.sizeOf23 (by show (List.map vU8 ((rootsO v0 i n leaf proof).1.1)).length = _; rw [List.length_map]; exact (rootsO_len hll hpl).1)) rfl ?_   -- 42
        refine ow_guard_yes rfl rfl rfl ?_
        refine ow_val (val_load_all 1 rfl rfl Tryd.isAgg23 Tryd.sizeOf23 (by show (List.map vU8 ((rootsO v0 i n leaf proof).1.1)).length = _; rw [List.length_map]; exact (rootsO_len hll hpl).1)) rfl ?_   -- 43
        refine ow_guard_yes rfl rfl rfl ?_
        refine ow_val ((val_eql_u8s rfl rfl Tryd.eqGuardType23 Tryd.underlying23 Tryd.underlying5 Tryd.sizeOf5 Tryd.isAgg5 (rootsO_len hll hpl).1 (rootsO_len hll hpl).1).to (congrArg Value.bool (show _ = true by simp [txt]))) rfl ?_   -- 44
        refine ow_val (val_pick_true rfl rfl) rfl ?_   -- 45
        refine ow_val (val_move rfl) rfl ?_   -- 46
        refine ow_guard_yes rfl rfl rfl ?_
        refine ow_val (val_load_all 2 rfl rfl Tryd.isAgg23 Tryd.sizeOf23 (by show (List.map vU8 ((rootsO v0 i n leaf proof).1.2)).length = _; rw [List.length_map]; exact (rootsO_len hll hpl).2)) rfl ?_   -- 47
        refine ow_guard_yes rfl rfl rfl ?_
        refine ow_val (val_load_all 0 rfl rfl Tryd.isAgg23 Tryd.sizeOf23 (by show (List.map vU8 ((rootsO v0 i n leaf proof).1.2)).length = _; rw [List.length_map]; exact (rootsO_len hll hpl).2)) rfl ?_   -- 48
        refine ow_guard_yes rfl rfl rfl ?_
        refine ow_val ((val_eql_u8s rfl rfl Tryd.eqGuardType23 Tryd.underlying23 Tryd.underlying5 Tryd.sizeOf5 Tryd.isAgg5 (rootsO_len hll hpl).2 (rootsO_len hll hpl).2).to (congrArg Value.bool (show _ = true by simp [txt]))) rfl ?_   -- 49
        refine ow_val (val_pick_true rfl rfl) rfl ?_   -- 50
        refine ow_val (val_move rfl) rfl ?_   -- 51
        refine ow_guard_yes rfl rfl rfl ?_
        refine ow_val (val_move rfl) rfl ?_   -- 52
        refine ow_guard_yes rfl rfl rfl ?_
        refine ow_val (val_move rfl) rfl ?_   -- 53
        refine ow_guard_yes rfl rfl rfl ?_
        refine ow_val ((val_eql_int rfl rfl).to (v' := .bool true) (congrArg Value.bool (decide_eq_true rfl))) rfl ?_   -- 54
        refine ow_val (val_pick_true rfl rfl) rfl ?_   -- 55
        refine ow_val (val_assign rfl) rfl ?_   -- 2
        refine ow_nil (into ?_)
        refine sw_ret (fun w hm => ?_)
        try dsimp only [thenP, blockP, Nat.beq, cond]
        exact ret_one _ rfl rfl ⟨rfl, hm.forgetAll⟩
      exact lt_stop
    refine lt_alt ?_ ?_
    · -- first 17
      refine lt_make (fun b => .pointer (some ⟨b, 0, none⟩)) rfl trivial (acts_alloc zD) rfl (fun _ _ _ h => h.only (.cons _ (.cons _ (.cons_cons _ (List.nil_sublist _))))) (fun b4 hb4 => ?_)   -- 4
      refine lt_alt ?_ ?_
      · -- first 11
        refine lt_call_pure rfl trivial (callsTo Tryd.func18 rfl (by kernel_rfl) rfl) rfl (fun w hm => mroots_any v0 leaf hll i n w (hK.mem0 hm) a20 proof.length c20 proof rfl hpl (hr20.rdAt hm (i := 1) rfl) hr20.le (by omega) (by omega)) (fun _ _ h => h.only (.cons _ (.cons _ (.cons_cons _ (List.nil_sublist _))))) ?_   -- 21
        refine lt_pure rfl trivial (val_move rfl) rfl ?_   -- 9
        refine lt_pure rfl trivial (val_extract rfl rfl) rfl ?_   -- 22
        refine lt_pure rfl trivial (val_extract rfl rfl) rfl ?_   -- 23
        refine lt_pure rfl trivial (val_extract rfl rfl) rfl ?_   -- 24
        refine lt_make (fun b => .pointer (some ⟨b, 0, none⟩)) rfl trivial (acts_alloc zD) rfl (fun _ _ _ h => h.only (.cons _ (.cons _ (.cons _ (.cons_cons _ (List.nil_sublist _)))))) (fun b3 hb3 => ?_)   -- 3
        refine lt_do rfl trivial (does_store_all 0 rfl rfl rfl (one_u8s _) Tryd.sizeOf23 (by show (List.map vU8 ((rootsO v0 i n leaf proof).1.1)).length = _; rw [List.length_map]; exact (rootsO_len hll hpl).1) (by show (List.map vU8 zeros32).length = _; rw [List.length_map]; exact zeros32_len)) (fun _ _ _ _ h => h.only (.cons _ (.cons _ (.cons _ (.cons_cons _ (List.nil_sublist _)))))) (fun _ _ => ?_)
        refine lt_do rfl trivial (does_store_all 1 rfl rfl rfl (one_u8s _) Tryd.sizeOf23 (by show (List.map vU8 ((rootsO v0 i n leaf proof).1.2)).length = _; rw [List.length_map]; exact (rootsO_len hll hpl).2) (by show (List.map vU8 zeros32).length = _; rw [List.length_map]; exact zeros32_len)) (fun _ _ _ _ h => h.only (.cons _ (.cons _ (.cons _ (.cons_cons _ (List.nil_sublist _)))))) (fun _ _ => ?_)
        refine lt_pure rfl trivial (val_assign rfl) rfl ?_   -- 5
        refine lt_done (into ?_)
        refine sw_seq ?_
        refine sw_region ?_
        refine ow_val (val_fieldAddr (m := 0) (e := 0) rfl Tryd.underlying27 rfl rfl Tryd.sizeOf3 rfl) rfl ?_   -- 26
        refine ow_val (val_load_at 3 rfl rfl Tryd.isAgg3 rfl) rfl ?_   -- 27
        refine ow_val (val_fieldAddr (m := 0) (e := 33) rfl Tryd.underlying27 rfl rfl Tryd.sizeOf24 rfl) rfl ?_   -- 28
        refine ow_val (val_load_at 3 rfl rfl Tryd.isAgg24 (ask_33 hll)) rfl ?_   -- 29
        refine ow_val (val_fieldAddr (m := 0) (e := 34) rfl Tryd.underlying27 rfl rfl Tryd.sizeOf24 rfl) rfl ?_   -- 30
        refine ow_val (val_load_at 3 rfl rfl Tryd.isAgg24 (ask_34 hll)) rfl ?_   -- 31
        refine ow_val (val_fieldAddr (m := 31) (e := 1) rfl Tryd.underlying27 rfl rfl Tryd.sizeOf23 rfl) rfl ?_   -- 32
        refine ow_val (val_load_part 3 rfl rfl Tryd.isAgg23 Tryd.sizeOf23 (by show (List.map vU8 leaf).length = _; rw [List.length_map]; exact hll) (ask_leaf hll)) rfl ?_   -- 33
        refine ow_val (val_fieldAddr (m := 0) (e := 35) rfl Tryd.underlying27 rfl rfl Tryd.sizeOf25 rfl) rfl ?_   -- 34
        refine ow_val (val_load_at 3 rfl rfl Tryd.isAgg25 (ask_35 hll)) rfl ?_   -- 35
        refine ow_call_pure (callsTo Tryd.func19 rfl (by kernel_rfl) rfl) rfl (fun w hm => rroots_any v0 leaf hll i n w (hK.mem0 hm) a proof.length c proof rfl hpl (hr.mem hm) (by omega) (by omega) (by omega)) ?_   -- 36
        refine ow_val (val_move rfl) rfl ?_   -- 25
        refine ow_val (val_extract rfl rfl) rfl ?_   -- 37
        refine ow_val (val_extract rfl rfl) rfl ?_   -- 38
        refine ow_val (val_extract rfl rfl) rfl ?_   -- 39
        refine ow_new (acts_alloc zD) rfl (fun b6 hb6 => ?_)   -- 6
        refine ow_new (acts_alloc zD) rfl (fun b7 hb7 => ?_)   -- 7
        refine ow_do_eq (does_store_all 1 rfl rfl rfl (one_u8s _) Tryd.sizeOf23 (by show (List.map vU8 ((rootsO v0 i n leaf proof).1.1)).length = _; rw [List.length_map]; exact (rootsO_len hll hpl).1) (by show (List.map vU8 zeros32).length = _; rw [List.length_map]; exact zeros32_len)) ?_
        refine ow_do_eq (does_store_all 0 rfl rfl rfl (one_u8s _) Tryd.sizeOf23 (by show (List.map vU8 ((rootsO v0 i n leaf proof).1.2)).length = _; rw [List.length_map]; exact (rootsO_len hll hpl).2) (by show (List.map vU8 zeros32).length = _; rw [List.length_map]; exact zeros32_len)) ?_
        refine ow_val (val_assign rfl) rfl ?_   -- 8
        refine ow_nil (into ?_)
        refine sw_seq ?_
        refine sw_region ?_
        refine ow_call_pure (v := .bool true) (callsTo Tryd.func15 rfl (by kernel_rfl) rfl) rfl (fun w hm => awake_any w (hK.mem0 hm)) ?_   -- 40
        refine ow_val (val_move rfl) rfl ?_   -- 41
        refine ow_guard_yes rfl rfl rfl ?_
        refine ow_val (val_load_all 2 rfl rfl Tryd.isAgg23 Tryd.sizeOf23 (by show (List.map vU8 ((rootsO v0 i n leaf proof).1.1)).length = _; rw [List.length_map]; exact (rootsO_len hll hpl).1)) rfl ?_   -- 42
        refine ow_guard_yes rfl rfl rfl ?_
        refine ow_val (val_load_all 1 rfl rfl Tryd.isAgg23 Tryd.sizeOf23 (by show (List.map vU8 ((rootsO v0 i n leaf proof).1.1)).length = _; rw [List.length_map]; exact (rootsO_len hll hpl).1)) rfl ?_   -- 43
        refine ow_guard_yes rfl rfl rfl ?_
        refine ow_val ((val_eql_u8s rfl rfl Tryd.eqGuardType23 Tryd.underlying23 Tryd.underlying5 Tryd.sizeOf5 Tryd.isAgg5 (rootsO_len hll hpl).1 (rootsO_len hll hpl).1).to (congrArg Value.bool (show _ = true by simp [txt]))) rfl ?_   -- 44
        refine ow_val (val_pick_true rfl rfl) rfl ?_   -- 45
        refine ow_val (val_move rfl) rfl ?_   -- 46
        refine ow_guard_yes rfl rfl rfl ?_
        refine ow_val (val_load_all 3 rfl rfl Tryd.isAgg23 Tryd.sizeOf23 (by show (List.map vU8 ((rootsO v0 i n leaf proof).1.2)).length = _; rw [List.length_map]; exact (rootsO_len hll hpl).2)) rfl ?_   -- 47
        refine ow_guard_yes rfl rfl rfl ?_
        refine ow_val (val_load_all 0 rfl rfl Tryd.isAgg23 Tryd.sizeOf23 (by show (List.map vU8 ((rootsO v0 i n leaf proof).1.2)).length = _; rw [List.length_map]; exact (rootsO_len hll hpl).2)) rfl ?_   -- 48
        refine ow_guard_yes rfl rfl rfl ?_
        refine ow_val ((val_eql_u8s rfl rfl Tryd.eqGuardType23 Tryd.underlying23 Tryd.underlying5 Tryd.sizeOf5 Tryd.isAgg5 (rootsO_len hll hpl).2 (rootsO_len hll hpl).2).to (congrArg Value.bool (show _ = true by simp [txt]))) rfl ?_   -- 49
        refine ow_val (val_pick_true rfl rfl) rfl ?_   -- 50
        refine ow_val (val_move rfl) rfl ?_   -- 51
        refine ow_guard_yes rfl rfl rfl ?_
        refine ow_val (val_move rfl) rfl ?_   -- 52
        refine ow_guard_yes rfl rfl rfl ?_
        refine ow_val (val_move rfl) rfl ?_   -- 53
        refine ow_guard_yes rfl rfl rfl ?_
        refine ow_val ((val_eql_int rfl rfl).to (v' := .bool true) (congrArg Value.bool (decide_eq_true rfl))) rfl ?_   -- 54
        refine ow_val (val_pick_true rfl rfl) rfl ?_   -- 55
        refine ow_val (val_assign rfl) rfl ?_   -- 2
        refine ow_nil (into ?_)
        refine sw_ret (fun w hm => ?_)
        try dsimp only [thenP, blockP, Nat.beq, cond]
        exact ret_one _ rfl rfl ⟨rfl, hm.forgetAll⟩
      refine lt_alt ?_ ?_
      · -- first 16
        refine lt_make (fun b => .pointer (some ⟨b, 0, none⟩)) rfl trivial (acts_alloc zD) rfl (fun _ _ _ h => h.only (.cons _ (.cons _ (.cons _ (.cons_cons _ (List.nil_sublist _)))))) (fun b3 hb3 => ?_)   -- 3
        refine lt_call_pure rfl trivial (callsTo Tryd.func18 rfl (by kernel_rfl) rfl) rfl (fun w hm => mroots_any v0 leaf hll i n w (hK.mem0 hm) a20 proof.length c20 proof rfl hpl (hr20.rdAt hm (i := 2) rfl) hr20.le (by omega) (by omega)) (fun _ _ h => h.only (.cons _ (.cons _ (.cons _ (.cons_cons _ (List.nil_sublist _)))))) ?_   -- 21
        refine lt_pure rfl trivial (val_move rfl) rfl ?_   -- 9
        refine lt_pure rfl trivial (val_extract rfl rfl) rfl ?_   -- 22
        refine lt_pure rfl trivial (val_extract rfl rfl) rfl ?_   -- 23
        refine lt_pure rfl trivial (val_extract rfl rfl) rfl ?_   -- 24
        refine lt_do rfl trivial (does_store_all 0 rfl rfl rfl (one_u8s _) Tryd.sizeOf23 (by show (List.map vU8 ((rootsO v0 i n leaf proof).1.1)).length = _; rw [List.length_map]; exact (rootsO_len hll hpl).1) (by show (List.map vU8 zeros32).length = _; rw [List.length_map]; exact zeros32_len)) (fun _ _ _ _ h => h.only (.cons _ (.cons _ (.cons _ (.cons_cons _ (List.nil_sublist _)))))) (fun _ _ => ?_)
        refine lt_do rfl trivial (does_store_all 1 rfl rfl rfl (one_u8s _) Tryd.sizeOf23 (by show (List.map vU8 ((rootsO v0 i n leaf proof).1.2)).length = _; rw [List.length_map]; exact (rootsO_len hll hpl).2) (by show (List.map vU8 zeros32).length = _; rw [List.length_map]; exact zeros32_len)) (fun _ _ _ _ h => h.only (.cons _ (.cons _ (.cons _ (.cons_cons _ (List.nil_sublist _)))))) (fun _ _ => ?_)
        refine lt_pure rfl trivial (val_assign rfl) rfl ?_   -- 5
        refine lt_done (into ?_)
        refine sw_seq ?_
        refine sw_region ?_
        refine ow_val (val_fieldAddr (m := 0) (e := 0) rfl Tryd.underlying27 rfl rfl Tryd.sizeOf3 rfl) rfl ?_   -- 26
        refine ow_val (val_load_at 3 rfl rfl Tryd.isAgg3 rfl) rfl ?_   -- 27
        refine ow_val (val_fieldAddr (m := 0) (e := 33) rfl Tryd.underlying27 rfl rfl Tryd.sizeOf24 rfl) rfl ?_   -- 28
        refine ow_val (val_load_at 3 rfl rfl Tryd.isAgg24 (ask_33 hll)) rfl ?_   -- 29
        refine ow_val (val_fieldAddr (m := 0) (e := 34) rfl Tryd.underlying27 rfl rfl Tryd.sizeOf24 rfl) rfl ?_   -- 30
        refine ow_val (val_load_at 3 rfl rfl Tryd.isAgg24 (ask_34 hll)) rfl ?_   -- 31
        refine ow_val (val_fieldAddr (m := 31) (e := 1) rfl Tryd.underlying27 rfl rfl Tryd.sizeOf23 rfl) rfl ?_   -- 32
        refine ow_val (val_load_part 3 rfl rfl Tryd.isAgg23 Tryd.sizeOf23 (by show (List.map vU8 leaf).length = _; rw [List.length_map]; exact hll) (ask_leaf hll)) rfl ?_   -- 33
        refine ow_val (val_fieldAddr (m := 0) (e := 35) rfl Tryd.underlying27 rfl rfl Tryd.sizeOf25 rfl) rfl ?_   -- 34
        refine ow_val (val_load_at 3 rfl rfl Tryd.isAgg25 (ask_35 hll)) rfl ?_   -- 35
        refine ow_call_pure (callsTo Tryd.func19 rfl (by kernel_rfl) rfl) rfl (fun w hm => rroots_any v0 leaf hll i n w (hK.mem0 hm) a proof.length c proof rfl hpl (hr.mem hm) (by omega) (by omega) (by omega)) ?_   -- 36
        refine ow_val (val_move rfl) rfl ?_   -- 25
        refine ow_val (val_extract rfl rfl) rfl ?_   -- 37
        refine ow_val (val_extract rfl rfl) rfl ?_   -- 38
        refine ow_val (val_extract rfl rfl) rfl ?_   -- 39
        refine ow_new (acts_alloc zD) rfl (fun b6 hb6 => ?_)   -- 6
        refine ow_new (acts_alloc zD) rfl (fun b7 hb7 => ?_)   -- 7
        refine ow_do_eq (does_store_all 1 rfl rfl rfl (one_u8s _) Tryd.sizeOf23 (by show (List.map vU8 ((rootsO v0 i n leaf proof).1.1)).length = _; rw [List.length_map]; exact (rootsO_len hll hpl).1) (by show (List.map vU8 zeros32).length = _; rw [List.length_map]; exact zeros32_len)) ?_
        refine ow_do_eq (does_store_all 0 rfl rfl rfl (one_u8s _) Tryd.sizeOf23 (by show (List.map vU8 ((rootsO v0 i n leaf proof).1.2)).length = _; rw [List.length_map]; exact (rootsO_len hll hpl).2) (by show (List.map vU8 zeros32).length = _; rw [List.length_map]; exact zeros32_len)) ?_
        refine ow_val (val_assign rfl) rfl ?_   -- 8
        refine ow_nil (into ?_)
        refine sw_seq ?_
        refine sw_region ?_
        refine ow_call_pure (v := .bool true) (callsTo Tryd.func15 rfl (by kernel_rfl) rfl) rfl (fun w hm => awake_any w (hK.mem0 hm)) ?_   -- 40
        refine ow_val (val_move rfl) rfl ?_   -- 41
        refine ow_guard_yes rfl rfl rfl ?_
        refine ow_val (val_load_all 2 rfl rfl Tryd.isAgg23 Tryd.sizeOf23 (by show (List.map vU8 ((rootsO v0 i n leaf proof).1.1)).length = _; rw [List.length_map]; exact (rootsO_len hll hpl).1)) rfl ?_   -- 42
        refine ow_guard_yes rfl rfl rfl ?_
        refine ow_val (val_load_all 1 rfl rfl Tryd.isAgg23 Tryd.sizeOf23 (by show (List.map vU8 ((rootsO v0 i n leaf proof).1.1)).length = _; rw [List.length_map]; exact (rootsO_len hll hpl).1)) rfl ?_   -- 43
        refine ow_guard_yes rfl rfl rfl ?_
        refine ow_val ((val_eql_u8s rfl rfl Tryd.eqGuardType23 Tryd.underlying23 Tryd.underlying5 Tryd.sizeOf5 Tryd.isAgg5 (rootsO_len hll hpl).1 (rootsO_len hll hpl).1).to (congrArg Value.bool (show _ = true by simp [txt]))) rfl ?_   -- 44
        refine ow_val (val_pick_true rfl rfl) rfl ?_   -- 45
        refine ow_val (val_move rfl) rfl ?_   -- 46
        refine ow_guard_yes rfl rfl rfl ?_
        refine ow_val (val_load_all 3 rfl rfl Tryd.isAgg23 Tryd.sizeOf23 (by show (List.map vU8 ((rootsO v0 i n leaf proof).1.2)).length = _; rw [List.length_map]; exact (rootsO_len hll hpl).2)) rfl ?_   -- 47
        refine ow_guard_yes rfl rfl rfl ?_
        refine ow_val (val_load_all 0 rfl rfl Tryd.isAgg23 Tryd.sizeOf23 (by show (List.map vU8 ((rootsO v0 i n leaf proof).1.2)).length = _; rw [List.length_map]; exact (rootsO_len hll hpl).2)) rfl ?_   -- 48
        refine ow_guard_yes rfl rfl rfl ?_
        refine ow_val ((val_eql_u8s rfl rfl Tryd.eqGuardType23 Tryd.underlying23 Tryd.underlying5 Tryd.sizeOf5 Tryd.isAgg5 (rootsO_len hll hpl).2 (rootsO_len hll hpl).2).to (congrArg Value.bool (show _ = true by simp [txt]))) rfl ?_   -- 49
        refine ow_val (val_pick_true rfl rfl) rfl ?_   -- 50
        refine ow_val (val_move rfl) rfl ?_   -- 51
        refine ow_guard_yes rfl rfl rfl ?_
        refine ow_val (val_move rfl) rfl ?_   -- 52
        refine ow_guard_yes rfl rfl rfl ?_
        refine ow_val (val_move rfl) rfl ?_   -- 53
        refine ow_guard_yes rfl rfl rfl ?_
        refine ow_val ((val_eql_int rfl rfl).to (v' := .bool true) (congrArg Value.bool (decide_eq_true rfl))) rfl ?_   -- 54
        refine ow_val (val_pick_true rfl rfl) rfl ?_   -- 55
        refine ow_val (val_assign rfl) rfl ?_   -- 2
        refine ow_nil (into ?_)
        refine sw_ret (fun w hm => ?_)
        try dsimp only [thenP, blockP, Nat.beq, cond]
        exact ret_one _ rfl rfl ⟨rfl, hm.forgetAll⟩
      exact lt_stop
    exact lt_stop
  refine lt_alt ?_ ?_
  · -- first 16
    refine lt_make (fun b => .pointer (some ⟨b, 0, none⟩)) rfl trivial (acts_alloc zD) rfl (fun _ _ _ h => h.only (.cons _ (.cons_cons _ (List.nil_sublist _)))) (fun b3 hb3 => ?_)   -- 3
    refine lt_alt ?_ ?_
    · -- first 10
      refine lt_call_row (E := 23) (size := 32) (k := proof.length) (xs := (proof.flatMap fun d => d.map vU8)) rfl trivial (callsTo Tryd.func13 rfl (by kernel_rfl) rfl) rfl (fun w hm => twin_any w a proof.length c proof rfl hpl (hr.mem hm) (by omega) (by omega) (by omega)) (fun _ _ _ h => h.only (.cons _ (.cons _ (.cons_cons _ (List.nil_sublist _))))) (fun a20 c20 e20 hr20 => ?_)   -- 20
      refine lt_alt ?_ ?_
      · -- first 11
        refine lt_call_pure rfl trivial (callsTo Tryd.func18 rfl (by kernel_rfl) rfl) rfl (fun w hm => mroots_any v0 leaf hll i n w (hK.mem0 hm) a20 proof.length c20 proof rfl hpl (hr20.rdAt hm (i := 0) rfl) hr20.le (by omega) (by omega)) (fun _ _ h => h.only (.cons _ (.cons _ (.cons_cons _ (List.nil_sublist _))))) ?_   -- 21
        refine lt_pure rfl trivial (val_move rfl) rfl ?_   -- 9
        refine lt_pure rfl trivial (val_extract rfl rfl) rfl ?_   -- 22
        refine lt_pure rfl trivial (val_extract rfl rfl) rfl ?_   -- 23
        refine lt_pure rfl trivial (val_extract rfl rfl) rfl ?_   -- 24
        refine lt_make (fun b => .pointer (some ⟨b, 0, none⟩)) rfl trivial (acts_alloc zD) rfl (fun _ _ _ h => h.only (.cons _ (.cons _ (.cons _ (.cons_cons _ (List.nil_sublist _)))))) (fun b4 hb4 => ?_)   -- 4
        refine lt_do rfl trivial (does_store_all 2 rfl rfl rfl (one_u8s _) Tryd.sizeOf23 (by show (List.map vU8 ((rootsO v0 i n leaf proof).1.1)).length = _; rw [List.length_map]; exact (rootsO_len hll hpl).1) (by show (List.map vU8 zeros32).length = _; rw [List.length_map]; exact zeros32_len)) (fun _ _ _ _ h => h.only (.cons _ (.cons _ (.cons _ (.cons_cons _ (List.nil_sublist _)))))) (fun _ _ => ?_)
        refine lt_do rfl trivial (does_store_all 0 rfl rfl rfl (one_u8s _) Tryd.sizeOf23 (by show (List.map vU8 ((rootsO v0 i n leaf proof).1.2)).length = _; rw [List.length_map]; exact (rootsO_len hll hpl).2) (by show (List.map vU8 zeros32).length = _; rw [List.length_map]; exact zeros32_len)) (fun _ _ _ _ h => h.only (.cons _ (.cons _ (.cons _ (.cons_cons _ (List.nil_sublist _)))))) (fun _ _ => ?_)
        refine lt_pure rfl trivial (val_assign rfl) rfl ?_   -- 5
        refine lt_done (into ?_)
        refine sw_seq ?_
        refine sw_region ?_
        refine ow_val (val_fieldAddr (m := 0) (e := 0) rfl Tryd.underlying27 rfl rfl Tryd.sizeOf3 rfl) rfl ?_   -- 26
        refine ow_val (val_load_at 3 rfl rfl Tryd.isAgg3 rfl) rfl ?_   -- 27
        refine ow_val (val_fieldAddr (m := 0) (e := 33) rfl Tryd.underlying27 rfl rfl Tryd.sizeOf24 rfl) rfl ?_   -- 28
        refine ow_val (val_load_at 3 rfl rfl Tryd.isAgg24 (ask_33 hll)) rfl ?_   -- 29
        refine ow_val (val_fieldAddr (m := 0) (e := 34) rfl Tryd.underlying27 rfl rfl Tryd.sizeOf24 rfl) rfl ?_   -- 30
        refine ow_val (val_load_at 3 rfl rfl Tryd.isAgg24 (ask_34 hll)) rfl ?_   -- 31
        refine ow_val (val_fieldAddr (m := 31) (e := 1) rfl Tryd.underlying27 rfl rfl Tryd.sizeOf23 rfl) rfl ?_   -- 32
        refine ow_val (val_load_part 3 rfl rfl Tryd.isAgg23 Tryd.sizeOf23 (by show (List.map vU8 leaf).length = _; rw [List.length_map]; exact hll) (ask_leaf hll)) rfl ?_   -- 33
        refine ow_val (val_fieldAddr (m := 0) (e := 35) rfl Tryd.underlying27 rfl rfl Tryd.sizeOf25 rfl) rfl ?_   -- 34
        refine ow_val (val_load_at 3 rfl rfl Tryd.isAgg25 (ask_35 hll)) rfl ?_   -- 35
        refine ow_call_pure (callsTo Tryd.func19 rfl (by kernel_rfl) rfl) rfl (fun w hm => rroots_any v0 leaf hll i n w (hK.mem0 hm) a proof.length c proof rfl hpl (hr.mem hm) (by omega) (by omega) (by omega)) ?_   -- 36
        refine ow_val (val_move rfl) rfl ?_   -- 25
        refine ow_val (val_extract rfl rfl) rfl ?_   -- 37
        refine ow_val (val_extract rfl rfl) rfl ?_   -- 38
        refine ow_val (val_extract rfl rfl) rfl ?_   -- 39
        refine ow_new (acts_alloc zD) rfl (fun b6 hb6 => ?_)   -- 6
        refine ow_new (acts_alloc zD) rfl (fun b7 hb7 => ?_)   -- 7
        refine ow_do_eq (does_store_all 1 rfl rfl rfl (one_u8s _) Tryd.sizeOf23 (by show (List.map vU8 ((rootsO v0 i n leaf proof).1.1)).length = _; rw [List.length_map]; exact (rootsO_len hll hpl).1) (by show (List.map vU8 zeros32).length = _; rw [List.length_map]; exact zeros32_len)) ?_
        refine ow_do_eq (does_store_all 0 rfl rfl rfl (one_u8s _) Tryd.sizeOf23 (by show (List.map vU8 ((rootsO v0 i n leaf proof).1.2)).length = _; rw [List.length_map]; exact (rootsO_len hll hpl).2) (by show (List.map vU8 zeros32).length = _; rw [List.length_map]; exact zeros32_len)) ?_
        refine ow_val (val_assign rfl) rfl ?_   -- 8
        refine ow_nil (into ?_)
        refine sw_seq ?_
        refine sw_region ?_
        refine ow_call_pure (v := .bool true) (callsTo Tryd.func15 rfl (by kernel_rfl) rfl) rfl (fun w hm => awake_any w (hK.mem0 hm)) ?_   -- 40
        refine ow_val (val_move rfl) rfl ?_   -- 41
        refine ow_guard_yes rfl rfl rfl ?_
        refine ow_val (val_load_all 4 rfl rfl Tryd.isAgg23 Tryd.sizeOf23 (by show (List.map vU8 ((rootsO v0 i n leaf proof).1.1)).length = _; rw [List.length_map]; exact (rootsO_len hll hpl).1)) rfl ?_   -- 42
        refine ow_guard_yes rfl rfl rfl ?_
        refine ow_val (val_load_all 1 rfl rfl Tryd.isAgg23 Tryd.sizeOf23 (by show (List.map vU8 ((rootsO v0 i n leaf proof).1.1)).length = _; rw [List.length_map]; exact (rootsO_len hll hpl).1)) rfl ?_   -- 43
        refine ow_guard_yes rfl rfl rfl ?_
        refine ow_val ((val_eql_u8s rfl rfl Tryd.eqGuardType23 Tryd.underlying23 Tryd.underlying5 Tryd.sizeOf5 Tryd.isAgg5 (rootsO_len hll hpl).1 (rootsO_len hll hpl).1).to (congrArg Value.bool (show _ = true by simp [txt]))) rfl ?_   -- 44
        refine ow_val (val_pick_true rfl rfl) rfl ?_   -- 45
        refine ow_val (val_move rfl) rfl ?_   -- 46
        refine ow_guard_yes rfl rfl rfl ?_
        refine ow_val (val_load_all 2 rfl rfl Tryd.isAgg23 Tryd.sizeOf23 (by show (List.map vU8 ((rootsO v0 i n leaf proof).1.2)).length = _; rw [List.length_map]; exact (rootsO_len hll hpl).2)) rfl ?_   -- 47
        refine ow_guard_yes rfl rfl rfl ?_
        refine ow_val (val_load_all 0 rfl rfl Tryd.isAgg23 Tryd.sizeOf23 (by show (List.map vU8 ((rootsO v0 i n leaf proof).1.2)).length = _; rw [List.length_map]; exact (rootsO_len hll hpl).2)) rfl ?_   -- 48
        refine ow_guard_yes rfl rfl rfl ?_
        refine ow_val ((val_eql_u8s rfl rfl Tryd.eqGuardType23 Tryd.underlying23 Tryd.underlying5 Tryd.sizeOf5 Tryd.isAgg5 (rootsO_len hll hpl).2 (rootsO_len hll hpl).2).to (congrArg Value.bool (show _ = true by simp [txt]))) rfl ?_   -- 49
        refine ow_val (val_pick_true rfl rfl) rfl ?_   -- 50
        refine ow_val (val_move rfl) rfl ?_   -- 51
        refine ow_guard_yes rfl rfl rfl ?_
        refine ow_val (val_move rfl) rfl ?_   -- 52
        refine ow_guard_yes rfl rfl rfl ?_
        refine ow_val (val_move rfl) rfl ?_   -- 53
        refine ow_guard_yes rfl rfl rfl ?_
        refine ow_val ((val_eql_int rfl rfl).to (v' := .bool true) (congrArg Value.bool (decide_eq_true rfl))) rfl ?_   -- 54
        refine ow_val (val_pick_true rfl rfl) rfl ?_   -- 55
        refine ow_val (val_assign rfl) rfl ?_   -- 2
        refine ow_nil (into ?_)
        refine sw_ret (fun w hm => ?_)
        try dsimp only [thenP, blockP, Nat.beq, cond]
        exact ret_one _ rfl rfl ⟨rfl, hm.forgetAll⟩
      refine lt_alt ?_ ?_
      · -- first 17
        refine lt_make (fun b => .pointer (some ⟨b, 0, none⟩)) rfl trivial (acts_alloc zD) rfl (fun _ _ _ h => h.only (.cons _ (.cons _ (.cons _ (.cons_cons _ (List.nil_sublist _)))))) (fun b4 hb4 => ?_)   -- 4
        refine lt_call_pure rfl trivial (callsTo Tryd.func18 rfl (by kernel_rfl) rfl) rfl (fun w hm => mroots_any v0 leaf hll i n w (hK.mem0 hm) a20 proof.length c20 proof rfl hpl (hr20.rdAt hm (i := 1) rfl) hr20.le (by omega) (by omega)) (fun _ _ h => h.only (.cons _ (.cons _ (.cons _ (.cons_cons _ (List.nil_sublist _)))))) ?_   -- 21
        refine lt_pure rfl trivial (val_move rfl) rfl ?_   -- 9
        refine lt_pure rfl trivial (val_extract rfl rfl) rfl ?_   -- 22
        refine lt_pure rfl trivial (val_extract rfl rfl) rfl ?_   -- 23
        refine lt_pure rfl trivial (val_extract rfl rfl) rfl ?_   -- 24
        refine lt_do rfl trivial (does_store_all 2 rfl rfl rfl (one_u8s _) Tryd.sizeOf23 (by show (List.map vU8 ((rootsO v0 i n leaf proof).1.1)).length = _; rw [List.length_map]; exact (rootsO_len hll hpl).1) (by show (List.map vU8 zeros32).length = _; rw [List.length_map]; exact zeros32_len)) (fun _ _ _ _ h => h.only (.cons _ (.cons _ (.cons _ (.cons_cons _ (List.nil_sublist _)))))) (fun _ _ => ?_)
        refine lt_do rfl trivial (does_store_all 0 rfl rfl rfl (one_u8s _) Tryd.sizeOf23 (by show (List.map vU8 ((rootsO v0 i n leaf proof).1.2)).length = _; rw [List.length_map]; exact (rootsO_len hll hpl).2) (by show (List.map vU8 zeros32).length = _; rw [List.length_map]; exact zeros32_len)) (fun _ _ _ _ h => h.only (.cons _ (.cons _ (.cons _ (.cons_cons _ (List.nil_sublist _)))))) (fun _ _ => ?_)
        refine lt_pure rfl trivial (val_assign rfl) rfl ?_   -- 5
        refine lt_done (into ?_)
        refine sw_seq ?_
        refine sw_region ?_
        refine ow_val (val_fieldAddr (m := 0) (e := 0) rfl Tryd.underlying27 rfl rfl Tryd.sizeOf3 rfl) rfl ?_   -- 26
        refine ow_val (val_load_at 3 rfl rfl Tryd.isAgg3 rfl) rfl ?_   -- 27
        refine ow_val (val_fieldAddr (m := 0) (e := 33) rfl Tryd.underlying27 rfl rfl Tryd.sizeOf24 rfl) rfl ?_   -- 28
        refine ow_val (val_load_at 3 rfl rfl Tryd.isAgg24 (ask_33 hll)) rfl ?_   -- 29
        refine ow_val (val_fieldAddr (m := 0) (e := 34) rfl Tryd.underlying27 rfl rfl Tryd.sizeOf24 rfl) rfl ?_   -- 30
        refine ow_val (val_load_at 3 rfl rfl Tryd.isAgg24 (ask_34 hll)) rfl ?_   -- 31
        refine ow_val (val_fieldAddr (m := 31) (e := 1) rfl Tryd.underlying27 rfl rfl Tryd.sizeOf23 rfl) rfl ?_   -- 32
        refine ow_val (val_load_part 3 rfl rfl Tryd.isAgg23 Tryd.sizeOf23 (by show (List.map vU8 leaf).length = _; rw [List.length_map]; exact hll) (ask_leaf hll)) rfl ?_   -- 33
        refine ow_val (val_fieldAddr (m := 0) (e := 35) rfl Tryd.underlying27 rfl rfl Tryd.sizeOf25 rfl) rfl ?_   -- 34
        refine ow_val (val_load_at 3 rfl rfl Tryd.isAgg25 (ask_35 hll)) rfl ?_   -- 35
        refine ow_call_pure (callsTo Tryd.func19 rfl (by kernel_rfl) rfl) rfl (fun w hm => rroots_any v0 leaf hll i n w (hK.mem0 hm) a proof.length c proof rfl hpl (hr.mem hm) (by omega) (by omega) (by omega)) ?_   -- 36
        refine ow_val (val_move rfl) rfl ?_   -- 25
        refine ow_val (val_extract rfl rfl) rfl ?_   -- 37
        refine ow_val (val_extract rfl rfl) rfl ?_   -- 38
        refine ow_val (val_extract rfl rfl) rfl ?_   -- 39
        refine ow_new (acts_alloc zD) rfl (fun b6 hb6 => ?_)   -- 6
        refine ow_new (acts_alloc zD) rfl (fun b7 hb7 => ?_)   -- 7
        refine ow_do_eq (does_store_all 1 rfl rfl rfl (one_u8s _) Tryd.sizeOf23 (by show (List.map vU8 ((rootsO v0 i n leaf proof).1.1)).length = _; rw [List.length_map]; exact (rootsO_len hll hpl).1) (by show (List.map vU8 zeros32).length = _; rw [List.length_map]; exact zeros32_len)) ?_
        refine ow_do_eq (does_store_all 0 rfl rfl rfl (one_u8s _) Tryd.sizeOf23 (by show (List.map vU8 ((rootsO v0 i n leaf proof).1.2)).length = _; rw [List.length_map]; exact (rootsO_len hll hpl).2) (by show (List.map vU8 zeros32).length = _; rw [List.length_map]; exact zeros32_len)) ?_
        refine ow_val (val_assign rfl) rfl ?_   -- 8
        refine ow_nil (into ?_)
        refine sw_seq ?_
        refine sw_region ?_
        refine ow_call_pure (v := .bool true) (callsTo Tryd.func15 rfl (by kernel_rfl) rfl) rfl (fun w hm => awake_any w (hK.mem0 hm)) ?_   -- 40
        refine ow_val (val_move rfl) rfl ?_   -- 41
        refine ow_guard_yes rfl rfl rfl ?_
        refine ow_val (val_load_all 4 rfl rfl Tryd.isAgg23 Tryd.sizeOf23 (by show (List.map vU8 ((rootsO v0 i n leaf proof).1.1)).length = _; rw [List.length_map]; exact (rootsO_len hll hpl).1)) rfl ?_   -- 42
        refine ow_guard_yes rfl rfl rfl ?_
        refine ow_val (val_load_all 1 rfl rfl Tryd.isAgg23 Tryd.sizeOf23 (by show (List.map vU8 ((rootsO v0 i n leaf proof).1.1)).length = _; rw [List.length_map]; exact (rootsO_len hll hpl).1)) rfl ?_   -- 43
        refine ow_guard_yes rfl rfl rfl ?_
        refine ow_val ((val_eql_u8s rfl rfl Tryd.eqGuardType23 Tryd.underlying23 Tryd.underlying5 Tryd.sizeOf5 Tryd.isAgg5 (rootsO_len hll hpl).1 (rootsO_len hll hpl).1).to (congrArg Value.bool (show _ = true by simp [txt]))) rfl ?_   -- 44
        refine ow_val (val_pick_true rfl rfl) rfl ?_   -- 45
        refine ow_val (val_move rfl) rfl ?_   -- 46
        refine ow_guard_yes rfl rfl rfl ?_
        refine ow_val (val_load_all 2 rfl rfl Tryd.isAgg23 Tryd.sizeOf23 (by show (List.map vU8 ((rootsO v0 i n leaf proof).1.2)).length = _; rw [List.length_map]; exact (rootsO_len hll hpl).2)) rfl ?_   -- 47
        refine ow_guard_yes rfl rfl rfl ?_
        refine ow_val (val_load_all 0 rfl rfl Tryd.isAgg23 Tryd.sizeOf23 (by show (List.map vU8 ((rootsO v0 i n leaf proof).1.2)).length = _; rw [List.length_map]; exact (rootsO_len hll hpl).2)) rfl ?_   -- 48
        refine ow_guard_yes rfl rfl rfl ?_
        refine ow_val ((val_eql_u8s rfl rfl Tryd.eqGuardType23 Tryd.underlying23 Tryd.underlying5 Tryd.sizeOf5 Tryd.isAgg5 (rootsO_len hll hpl).2 (rootsO_len hll hpl).2).to (congrArg Value.bool (show _ = true by simp [txt]))) rfl ?_   -- 49
        refine ow_val (val_pick_true rfl rfl) rfl ?_   -- 50
        refine ow_val (val_move rfl) rfl ?_   -- 51
        refine ow_guard_yes rfl rfl rfl ?_
        refine ow_val (val_move rfl) rfl ?_   -- 52
        refine ow_guard_yes rfl rfl rfl ?_
        refine ow_val (val_move rfl) rfl ?_   -- 53
        refine ow_guard_yes rfl rfl rfl ?_
        refine ow_val ((val_eql_int rfl rfl).to (v' := .bool true) (congrArg Value.bool (decide_eq_true rfl))) rfl ?_   -- 54
        refine ow_val (val_pick_true rfl rfl) rfl ?_   -- 55
        refine ow_val (val_assign rfl) rfl ?_   -- 2
        refine ow_nil (into ?_)
        refine sw_ret (fun w hm => ?_)
        try dsimp only [thenP, blockP, Nat.beq, cond]
        exact ret_one _ rfl rfl ⟨rfl, hm.forgetAll⟩
      exact lt_stop
    refine lt_alt ?_ ?_
    · -- first 17
      refine lt_make (fun b => .pointer (some ⟨b, 0, none⟩)) rfl trivial (acts_alloc zD) rfl (fun _ _ _ h => h.only (.cons _ (.cons _ (.cons_cons _ (List.nil_sublist _))))) (fun b4 hb4 => ?_)   -- 4
      refine lt_call_row (E := 23) (size := 32) (k := proof.length) (xs := (proof.flatMap fun d => d.map vU8)) rfl trivial (callsTo Tryd.func13 rfl (by kernel_rfl) rfl) rfl (fun w hm => twin_any w a proof.length c proof rfl hpl (hr.mem hm) (by omega) (by omega) (by omega)) (fun _ _ _ h => h.only (.cons _ (.cons _ (.cons _ (.cons_cons _ (List.nil_sublist _)))))) (fun a20 c20 e20 hr20 => ?_)   -- 20
      refine lt_call_pure rfl trivial (callsTo Tryd.func18 rfl (by kernel_rfl) rfl) rfl (fun w hm => mroots_any v0 leaf hll i n w (hK.mem0 hm) a20 proof.length c20 proof rfl hpl (hr20.rdAt hm (i := 0) rfl) hr20.le (by omega) (by omega)) (fun _ _ h => h.only (.cons _ (.cons _ (.cons _ (.cons_cons _ (List.nil_sublist _)))))) ?_   -- 21
      refine lt_pure rfl trivial (val_move rfl) rfl ?_   -- 9
      refine lt_pure rfl trivial (val_extract rfl rfl) rfl ?_   -- 22
      refine lt_pure rfl trivial (val_extract rfl rfl) rfl ?_   -- 23
      refine lt_pure rfl trivial (val_extract rfl rfl) rfl ?_   -- 24
      refine lt_do rfl trivial (does_store_all 2 rfl rfl rfl (one_u8s _) Tryd.sizeOf23 (by show (List.map vU8 ((rootsO v0 i n leaf proof).1.1)).length = _; rw [List.length_map]; exact (rootsO_len hll hpl).1) (by show (List.map vU8 zeros32).length = _; rw [List.length_map]; exact zeros32_len)) (fun _ _ _ _ h => h.only (.cons _ (.cons _ (.cons _ (.cons_cons _ (List.nil_sublist _)))))) (fun _ _ => ?_)
      refine lt_do rfl trivial (does_store_all 1 rfl rfl rfl (one_u8s _) Tryd.sizeOf23 (by show (List.map vU8 ((rootsO v0 i n leaf proof).1.2)).length = _; rw [List.length_map]; exact (rootsO_len hll hpl).2) (by show (List.map vU8 zeros32).length = _; rw [List.length_map]; exact zeros32_len)) (fun _ _ _ _ h => h.only (.cons _ (.cons _ (.cons _ (.cons_cons _ (List.nil_sublist _)))))) (fun _ _ => ?_)
      refine lt_pure rfl trivial (val_assign rfl) rfl ?_   -- 5
      refine lt_done (into ?_)
      refine sw_seq ?_
      refine sw_region ?_
      refine ow_val (val_fieldAddr (m := 0) (e := 0) rfl Tryd.underlying27 rfl rfl Tryd.sizeOf3 rfl) rfl ?_   -- 26
      refine ow_val (val_load_at 3 rfl rfl Tryd.isAgg3 rfl) rfl ?_   -- 27
      refine ow_val (val_fieldAddr (m := 0) (e := 33) rfl Tryd.underlying27 rfl rfl Tryd.sizeOf24 rfl) rfl ?_   -- 28
      refine ow_val (val_load_at 3 rfl rfl Tryd.isAgg24 (ask_33 hll)) rfl ?_   -- 29
      refine ow_val (val_fieldAddr (m := 0) (e := 34) rfl Tryd.underlying27 rfl rfl Tryd.sizeOf24 rfl) rfl ?_   -- 30
      refine ow_val (val_load_at 3 rfl rfl Tryd.isAgg24 (ask_34 hll)) rfl ?_   -- 31
      refine ow_val (val_fieldAddr (m := 31) (e := 1) rfl Tryd.underlying27 rfl rfl Tryd.sizeOf23 rfl) rfl ?_   -- 32
      refine ow_val (val_load_part 3 rfl rfl Tryd.isAgg23 Tryd.sizeOf23 (by show (List.map vU8 leaf).length = _; rw [List.length_map]; exact hll) (ask_leaf hll)) rfl ?_   -- 33
      refine ow_val (val_fieldAddr (m := 0) (e := 35) rfl Tryd.underlying27 rfl rfl Tryd.sizeOf25 rfl) rfl ?_   -- 34
      refine ow_val (val_load_at 3 rfl rfl Tryd.isAgg25 (ask_35 hll)) rfl ?_   -- 35
      refine ow_call_pure (callsTo Tryd.func19 rfl (by kernel_rfl) rfl) rfl (fun w hm => rroots_any v0 leaf hll i n w (hK.mem0 hm) a proof.length c proof rfl hpl (hr.mem hm) (by omega) (by omega) (by omega)) ?_   -- 36
      refine ow_val (val_move rfl) rfl ?_   -- 25
      refine ow_val (val_extract rfl rfl) rfl ?_   -- 37
      refine ow_val (val_extract rfl rfl) rfl ?_   -- 38
      refine ow_val (val_extract rfl rfl) rfl ?_   -- 39
      refine ow_new (acts_alloc zD) rfl (fun b6 hb6 => ?_)   -- 6
      refine ow_new (acts_alloc zD) rfl (fun b7 hb7 => ?_)   -- 7
      refine ow_do_eq (does_store_all 1 rfl rfl rfl (one_u8s _) Tryd.sizeOf23 (by show (List.map vU8 ((rootsO v0 i n leaf proof).1.1)).length = _; rw [List.length_map]; exact (rootsO_len hll hpl).1) (by show (List.map vU8 zeros32).length = _; rw [List.length_map]; exact zeros32_len)) ?_
      refine ow_do_eq (does_store_all 0 rfl rfl rfl (one_u8s _) Tryd.sizeOf23 (by show (List.map vU8 ((rootsO v0 i n leaf proof).1.2)).length = _; rw [List.length_map]; exact (rootsO_len hll hpl).2) (by show (List.map vU8 zeros32).length = _; rw [List.length_map]; exact zeros32_len)) ?_
      refine ow_val (val_assign rfl) rfl ?_   -- 8
      refine ow_nil (into ?_)
      refine sw_seq ?_
      refine sw_region ?_
      refine ow_call_pure (v := .bool true) (callsTo Tryd.func15 rfl (by kernel_rfl) rfl) rfl (fun w hm => awake_any w (hK.mem0 hm)) ?_   -- 40
      refine ow_val (val_move rfl) rfl ?_   -- 41
      refine ow_guard_yes rfl rfl rfl ?_
      refine ow_val (val_load_all 4 rfl rfl Tryd.isAgg23 Tryd.sizeOf23 (by show (List.map vU8 ((rootsO v0 i n leaf proof).1.1)).length = _; rw [List.length_map]; exact (rootsO_len hll hpl).1)) rfl ?_   -- 42
      refine ow_guard_yes rfl rfl rfl ?_
      refine ow_val (val_load_all 1 rfl rfl Tryd.isAgg23 Tryd.sizeOf23 (by show (List.map vU8 ((rootsO v0 i n leaf proof).1.1)).length = _; rw [List.length_map]; exact (rootsO_len hll hpl).1)) rfl ?_   -- 43
      refine ow_guard_yes rfl rfl rfl ?_
      refine ow_val ((val_eql_u8s rfl rfl Tryd.eqGuardType23 Tryd.underlying23 Tryd.underlying5 Tryd.sizeOf5 Tryd.isAgg5 (rootsO_len hll hpl).1 (rootsO_len hll hpl).1).to (congrArg Value.bool (show _ = true by simp [txt]))) rfl ?_   -- 44
      refine ow_val (val_pick_true rfl rfl) rfl ?_   -- 45
      refine ow_val (val_move rfl) rfl ?_   -- 46
      refine ow_guard_yes rfl rfl rfl ?_
      refine ow_val (val_load_all 3 rfl rfl Tryd.isAgg23 Tryd.sizeOf23 (by show (List.map vU8 ((rootsO v0 i n leaf proof).1.2)).length = _; rw [List.length_map]; exact (rootsO_len hll hpl).2)) rfl ?_   -- 47
      refine ow_guard_yes rfl rfl rfl ?_
      refine ow_val (val_load_all 0 rfl rfl Tryd.isAgg23 Tryd.sizeOf23 (by show (List.map vU8 ((rootsO v0 i n leaf proof).1.2)).length = _; rw [List.length_map]; exact (rootsO_len hll hpl).2)) rfl ?_   -- 48
      refine ow_guard_yes rfl rfl rfl ?_
      refine ow_val ((val_eql_u8s rfl rfl Tryd.eqGuardType23 Tryd.underlying23 Tryd.underlying5 Tryd.sizeOf5 Tryd.isAgg5 (rootsO_len hll hpl).2 (rootsO_len hll hpl).2).to (congrArg Value.bool (show _ = true by simp [txt]))) rfl ?_   -- 49
      refine ow_val (val_pick_true rfl rfl) rfl ?_   -- 50
      refine ow_val (val_move rfl) rfl ?_   -- 51
      refine ow_guard_yes rfl rfl rfl ?_
      refine ow_val (val_move rfl) rfl ?_   -- 52
      refine ow_guard_yes rfl rfl rfl ?_
      refine ow_val (val_move rfl) rfl ?_   -- 53
      refine ow_guard_yes rfl rfl rfl ?_
      refine ow_val ((val_eql_int rfl rfl).to (v' := .bool true) (congrArg Value.bool (decide_eq_true rfl))) rfl ?_   -- 54
      refine ow_val (val_pick_true rfl rfl) rfl ?_   -- 55
      refine ow_val (val_assign rfl) rfl ?_   -- 2
      refine ow_nil (into ?_)
      refine sw_ret (fun w hm => ?_)
      try dsimp only [thenP, blockP, Nat.beq, cond]
      exact ret_one _ rfl rfl ⟨rfl, hm.forgetAll⟩
    exact lt_stop
  refine lt_alt ?_ ?_
  · -- first 17
    refine lt_make (fun b => .pointer (some ⟨b, 0, none⟩)) rfl trivial (acts_alloc zD) rfl (fun _ _ _ h => h.only (.cons _ (.cons_cons _ (List.nil_sublist _)))) (fun b4 hb4 => ?_)   -- 4
    refine lt_alt ?_ ?_
    · -- first 10
      refine lt_call_row (E := 23) (size := 32) (k := proof.length) (xs := (proof.flatMap fun d => d.map vU8)) rfl trivial (callsTo Tryd.func13 rfl (by kernel_rfl) rfl) rfl (fun w hm => twin_any w a proof.length c proof rfl hpl (hr.mem hm) (by omega) (by omega) (by omega)) (fun _ _ _ h => h.only (.cons _ (.cons _ (.cons_cons _ (List.nil_sublist _))))) (fun a20 c20 e20 hr20 => ?_)   -- 20
      refine lt_alt ?_ ?_
      · -- first 11
        refine lt_call_pure rfl trivial (callsTo Tryd.func18 rfl (by kernel_rfl) rfl) rfl (fun w hm => mroots_any v0 leaf hll i n w (hK.mem0 hm) a20 proof.length c20 proof rfl hpl (hr20.rdAt hm (i := 0) rfl) hr20.le (by omega) (by omega)) (fun _ _ h => h.only (.cons _ (.cons _ (.cons_cons _ (List.nil_sublist _))))) ?_   -- 21
        refine lt_pure rfl trivial (val_move rfl) rfl ?_   -- 9
        refine lt_pure rfl trivial (val_extract rfl rfl) rfl ?_   -- 22
        refine lt_pure rfl trivial (val_extract rfl rfl) rfl ?_   -- 23
        refine lt_pure rfl trivial (val_extract rfl rfl) rfl ?_   -- 24
        refine lt_make (fun b => .pointer (some ⟨b, 0, none⟩)) rfl trivial (acts_alloc zD) rfl (fun _ _ _ h => h.only (.cons _ (.cons _ (.cons _ (.cons_cons _ (List.nil_sublist _)))))) (fun b3 hb3 => ?_)   -- 3
        refine lt_do rfl trivial (does_store_all 0 rfl rfl rfl (one_u8s _) Tryd.sizeOf23 (by show (List.map vU8 ((rootsO v0 i n leaf proof).1.1)).length = _; rw [List.length_map]; exact (rootsO_len hll hpl).1) (by show (List.map vU8 zeros32).length = _; rw [List.length_map]; exact zeros32_len)) (fun _ _ _ _ h => h.only (.cons _ (.cons _ (.cons _ (.cons_cons _ (List.nil_sublist _)))))) (fun _ _ => ?_)
        refine lt_do rfl trivial (does_store_all 2 rfl rfl rfl (one_u8s _) Tryd.sizeOf23 (by show (List.map vU8 ((rootsO v0 i n leaf proof).1.2)).length = _; rw [List.length_map]; exact (rootsO_len hll hpl).2) (by show (List.map vU8 zeros32).length = _; rw [List.length_map]; exact zeros32_len)) (fun _ _ _ _ h => h.only (.cons _ (.cons _ (.cons _ (.cons_cons _ (List.nil_sublist _)))))) (fun _ _ => ?_)
        refine lt_pure rfl trivial (val_assign rfl) rfl ?_   -- 5
        refine lt_done (into ?_)
        refine sw_seq ?_
        refine sw_region ?_
        refine ow_val (val_fieldAddr (m := 0) (e := 0) rfl Tryd.underlying27 rfl rfl Tryd.sizeOf3 rfl) rfl ?_   -- 26
        refine ow_val (val_load_at 3 rfl rfl Tryd.isAgg3 rfl) rfl ?_   -- 27
        refine ow_val (val_fieldAddr (m := 0) (e := 33) rfl Tryd.underlying27 rfl rfl Tryd.sizeOf24 rfl) rfl ?_   -- 28
        refine ow_val (val_load_at 3 rfl rfl Tryd.isAgg24 (ask_33 hll)) rfl ?_   -- 29
        refine ow_val (val_fieldAddr (m := 0) (e := 34) rfl Tryd.underlying27 rfl rfl Tryd.sizeOf24 rfl) rfl ?_   -- 30
        refine ow_val (val_load_at 3 rfl rfl Tryd.isAgg24 (ask_34 hll)) rfl ?_   -- 31
        refine ow_val (val_fieldAddr (m := 31) (e := 1) rfl Tryd.underlying27 rfl rfl Tryd.sizeOf23 rfl) rfl ?_   -- 32
        refine ow_val (val_load_part 3 rfl rfl Tryd.isAgg23 Tryd.sizeOf23 (by show (List.map vU8 leaf).length = _; rw [List.length_map]; exact hll) (ask_leaf hll)) rfl ?_   -- 33
        refine ow_val (val_fieldAddr (m := 0) (e := 35) rfl Tryd.underlying27 rfl rfl Tryd.sizeOf25 rfl) rfl ?_   -- 34
        refine ow_val (val_load_at 3 rfl rfl Tryd.isAgg25 (ask_35 hll)) rfl ?_   -- 35
        refine ow_call_pure (callsTo Tryd.func19 rfl (by kernel_rfl) rfl) rfl (fun w hm => rroots_any v0 leaf hll i n w (hK.mem0 hm) a proof.length c proof rfl hpl (hr.mem hm) (by omega) (by omega) (by omega)) ?_   -- 36
        refine ow_val (val_move rfl) rfl ?_   -- 25
        refine ow_val (val_extract rfl rfl) rfl ?_   -- 37
        refine ow_val (val_extract rfl rfl) rfl ?_   -- 38
        refine ow_val (val_extract rfl rfl) rfl ?_   -- 39
        refine ow_new (acts_alloc zD) rfl (fun b6 hb6 => ?_)   -- 6
        refine ow_new (acts_alloc zD) rfl (fun b7 hb7 => ?_)   -- 7
        refine ow_do_eq (does_store_all 1 rfl rfl rfl (one_u8s _) Tryd.sizeOf23 (by show (List.map vU8 ((rootsO v0 i n leaf proof).1.1)).length = _; rw [List.length_map]; exact (rootsO_len hll hpl).1) (by show (List.map vU8 zeros32).length = _; rw [List.length_map]; exact zeros32_len)) ?_
        refine ow_do_eq (does_store_all 0 rfl rfl rfl (one_u8s _) Tryd.sizeOf23 (by show (List.map vU8 ((rootsO v0 i n leaf proof).1.2)).length = _; rw [List.length_map]; exact (rootsO_len hll hpl).2) (by show (List.map vU8 zeros32).length = _; rw [List.length_map]; exact zeros32_len)) ?_
        refine ow_val (val_assign rfl) rfl ?_   -- 8
        refine ow_nil (into ?_)
        refine sw_seq ?_
        refine sw_region ?_
        refine ow_call_pure (v := .bool true) (callsTo Tryd.func15 rfl (by kernel_rfl) rfl) rfl (fun w hm => awake_any w (hK.mem0 hm)) ?_   -- 40
        refine ow_val (val_move rfl) rfl ?_   -- 41
        refine ow_guard_yes rfl rfl rfl ?_
        refine ow_val (val_load_all 2 rfl rfl Tryd.isAgg23 Tryd.sizeOf23 (by show (List.map vU8 ((rootsO v0 i n leaf proof).1.1)).length = _; rw [List.length_map]; exact (rootsO_len hll hpl).1)) rfl ?_   -- 42
        refine ow_guard_yes rfl rfl rfl ?_
        refine ow_val (val_load_all 1 rfl rfl Tryd.isAgg23 Tryd.sizeOf23 (by show (List.map vU8 ((rootsO v0 i n leaf proof).1.1)).length = _; rw [List.length_map]; exact (rootsO_len hll hpl).1)) rfl ?_   -- 43
        refine ow_guard_yes rfl rfl rfl ?_
        refine ow_val ((val_eql_u8s rfl rfl Tryd.eqGuardType23 Tryd.underlying23 Tryd.underlying5 Tryd.sizeOf5 Tryd.isAgg5 (rootsO_len hll hpl).1 (rootsO_len hll hpl).1).to (congrArg Value.bool (show _ = true by simp [txt]))) rfl ?_   -- 44
        refine ow_val (val_pick_true rfl rfl) rfl ?_   -- 45
        refine ow_val (val_move rfl) rfl ?_   -- 46
        refine ow_guard_yes rfl rfl rfl ?_
        refine ow_val (val_load_all 4 rfl rfl Tryd.isAgg23 Tryd.sizeOf23 (by show (List.map vU8 ((rootsO v0 i n leaf proof).1.2)).length = _; rw [List.length_map]; exact (rootsO_len hll hpl).2)) rfl ?_   -- 47
        refine ow_guard_yes rfl rfl rfl ?_
        refine ow_val (val_load_all 0 rfl rfl Tryd.isAgg23 Tryd.sizeOf23 (by show (List.map vU8 ((rootsO v0 i n leaf proof).1.2)).length = _; rw [List.length_map]; exact (rootsO_len hll hpl).2)) rfl ?_   -- 48
        refine ow_guard_yes rfl rfl rfl ?_
        refine ow_val ((val_eql_u8s rfl rfl Tryd.eqGuardType23 Tryd.underlying23 Tryd.underlying5 Tryd.sizeOf5 Tryd.isAgg5 (rootsO_len hll hpl).2 (rootsO_len hll hpl).2).to (congrArg Value.bool (show _ = true by simp [txt]))) rfl ?_   -- 49
        refine ow_val (val_pick_true rfl rfl) rfl ?_   -- 50
        refine ow_val (val_move rfl) rfl ?_   -- 51
        refine ow_guard_yes rfl rfl rfl ?_
        refine ow_val (val_move rfl) rfl ?_   -- 52
        refine ow_guard_yes rfl rfl rfl ?_
        refine ow_val (val_move rfl) rfl ?_   -- 53
        refine ow_guard_yes rfl rfl rfl ?_
        refine ow_val ((val_eql_int rfl rfl).to (v' := .bool true) (congrArg Value.bool (decide_eq_true rfl))) rfl ?_   -- 54
        refine ow_val (val_pick_true rfl rfl) rfl ?_   -- 55
        refine ow_val (val_assign rfl) rfl ?_   -- 2
        refine ow_nil (into ?_)
        refine sw_ret (fun w hm => ?_)
        try dsimp only [thenP, blockP, Nat.beq, cond]
        exact ret_one _ rfl rfl ⟨rfl, hm.forgetAll⟩
      refine lt_alt ?_ ?_
      · -- first 16
        refine lt_make (fun b => .pointer (some ⟨b, 0, none⟩)) rfl trivial (acts_alloc zD) rfl (fun _ _ _ h => h.only (.cons _ (.cons _ (.cons _ (.cons_cons _ (List.nil_sublist _)))))) (fun b3 hb3 => ?_)   -- 3
        refine lt_call_pure rfl trivial (callsTo Tryd.func18 rfl (by kernel_rfl) rfl) rfl (fun w hm => mroots_any v0 leaf hll i n w (hK.mem0 hm) a20 proof.length c20 proof rfl hpl (hr20.rdAt hm (i := 1) rfl) hr20.le (by omega) (by omega)) (fun _ _ h => h.only (.cons _ (.cons _ (.cons _ (.cons_cons _ (List.nil_sublist _)))))) ?_   -- 21
        refine lt_pure rfl trivial (val_move rfl) rfl ?_   -- 9
        refine lt_pure rfl trivial (val_extract rfl rfl) rfl ?_   -- 22
        refine lt_pure rfl trivial (val_extract rfl rfl) rfl ?_   -- 23
        refine lt_pure rfl trivial (val_extract rfl rfl) rfl ?_   -- 24
        refine lt_do rfl trivial (does_store_all 0 rfl rfl rfl (one_u8s _) Tryd.sizeOf23 (by show (List.map vU8 ((rootsO v0 i n leaf proof).1.1)).length = _; rw [List.length_map]; exact (rootsO_len hll hpl).1) (by show (List.map vU8 zeros32).length = _; rw [List.length_map]; exact zeros32_len)) (fun _ _ _ _ h => h.only (.cons _ (.cons _ (.cons _ (.cons_cons _ (List.nil_sublist _)))))) (fun _ _ => ?_)
        refine lt_do rfl trivial (does_store_all 2 rfl rfl rfl (one_u8s _) Tryd.sizeOf23 (by show (List.map vU8 ((rootsO v0 i n leaf proof).1.2)).length = _; rw [List.length_map]; exact (rootsO_len hll hpl).2) (by show (List.map vU8 zeros32).length = _; rw [List.length_map]; exact zeros32_len)) (fun _ _ _ _ h => h.only (.cons _ (.cons _ (.cons _ (.cons_cons _ (List.nil_sublist _)))))) (fun _ _ => ?_)
        refine lt_pure rfl trivial (val_assign rfl) rfl ?_   -- 5
        refine lt_done (into ?_)
        refine sw_seq ?_
        refine sw_region ?_
        refine ow_val (val_fieldAddr (m := 0) (e := 0) rfl Tryd.underlying27 rfl rfl Tryd.sizeOf3 rfl) rfl ?_   -- 26
        refine ow_val (val_load_at 3 rfl rfl Tryd.isAgg3 rfl) rfl ?_   -- 27
        refine ow_val (val_fieldAddr (m := 0) (e := 33) rfl Tryd.underlying27 rfl rfl Tryd.sizeOf24 rfl) rfl ?_   -- 28
        refine ow_val (val_load_at 3 rfl rfl Tryd.isAgg24 (ask_33 hll)) rfl ?_   -- 29
        refine ow_val (val_fieldAddr (m := 0) (e := 34) rfl Tryd.underlying27 rfl rfl Tryd.sizeOf24 rfl) rfl ?_   -- 30
        refine ow_val (val_load_at 3 rfl rfl Tryd.isAgg24 (ask_34 hll)) rfl ?_   -- 31
        refine ow_val (val_fieldAddr (m := 31) (e := 1) rfl Tryd.underlying27 rfl rfl Tryd.sizeOf23 rfl) rfl ?_   -- 32
        refine ow_val (val_load_part 3 rfl rfl Tryd.isAgg23 Tryd.sizeOf23 (by show (List.map vU8 leaf).length = _; rw [List.length_map]; exact hll) (ask_leaf hll)) rfl ?_   -- 33
        refine ow_val (val_fieldAddr (m := 0) (e := 35) rfl Tryd.underlying27 rfl rfl Tryd.sizeOf25 rfl) rfl ?_   -- 34
        refine ow_val (val_load_at 3 rfl rfl Tryd.isAgg25 (ask_35 hll)) rfl ?_   -- 35
        refine ow_call_pure (callsTo Tryd.func19 rfl (by kernel_rfl) rfl) rfl (fun w hm => rroots_any v0 leaf hll i n w (hK.mem0 hm) a proof.length c proof rfl hpl (hr.mem hm) (by omega) (by omega) (by omega)) ?_   -- 36
        refine ow_val (val_move rfl) rfl ?_   -- 25
        refine ow_val (val_extract rfl rfl) rfl ?_   -- 37
        refine ow_val (val_extract rfl rfl) rfl ?_   -- 38
        refine ow_val (val_extract rfl rfl) rfl ?_   -- 39
        refine ow_new (acts_alloc zD) rfl (fun b6 hb6 => ?_)   -- 6
        refine ow_new (acts_alloc zD) rfl (fun b7 hb7 => ?_)   -- 7
        refine ow_do_eq (does_store_all 1 rfl rfl rfl (one_u8s _) Tryd.sizeOf23 (by show (List.map vU8 ((rootsO v0 i n leaf proof).1.1)).length = _; rw [List.length_map]; exact (rootsO_len hll hpl).1) (by show (List.map vU8 zeros32).length = _; rw [List.length_map]; exact zeros32_len)) ?_
        refine ow_do_eq (does_store_all 0 rfl rfl rfl (one_u8s _) Tryd.sizeOf23 (by show (List.map vU8 ((rootsO v0 i n leaf proof).1.2)).length = _; rw [List.length_map]; exact (rootsO_len hll hpl).2) (by show (List.map vU8 zeros32).length = _; rw [List.length_map]; exact zeros32_len)) ?_
        refine ow_val (val_assign rfl) rfl ?_   -- 8
        refine ow_nil (into ?_)
        refine sw_seq ?_
        refine sw_region ?_
        refine ow_call_pure (v := .bool true) (callsTo Tryd.func15 rfl (by kernel_rfl) rfl) rfl (fun w hm => awake_any w (hK.mem0 hm)) ?_   -- 40
        refine ow_val (val_move rfl) rfl ?_   -- 41
        refine ow_guard_yes rfl rfl rfl ?_
        refine ow_val (val_load_all 2 rfl rfl Tryd.isAgg23 Tryd.sizeOf23 (by show (List.map vU8 ((rootsO v0 i n leaf proof).1.1)).length = _; rw [List.length_map]; exact (rootsO_len hll hpl).1)) rfl ?_   -- 42
        refine ow_guard_yes rfl rfl rfl ?_
        refine ow_val (val_load_all 1 rfl rfl Tryd.isAgg23 Tryd.sizeOf23 (by show (List.map vU8 ((rootsO v0 i n leaf proof).1.1)).length = _; rw [List.length_map]; exact (rootsO_len hll hpl).1)) rfl ?_   -- 43
        refine ow_guard_yes rfl rfl rfl ?_
        refine ow_val ((val_eql_u8s rfl rfl Tryd.eqGuardType23 Tryd.underlying23 Tryd.underlying5 Tryd.sizeOf5 Tryd.isAgg5 (rootsO_len hll hpl).1 (rootsO_len hll hpl).1).to (congrArg Value.bool (show _ = true by simp [txt]))) rfl ?_   -- 44
        refine ow_val (val_pick_true rfl rfl) rfl ?_   -- 45
        refine ow_val (val_move rfl) rfl ?_   -- 46
        refine ow_guard_yes rfl rfl rfl ?_
        refine ow_val (val_load_all 4 rfl rfl Tryd.isAgg23 Tryd.sizeOf23 (by show (List.map vU8 ((rootsO v0 i n leaf proof).1.2)).length = _; rw [List.length_map]; exact (rootsO_len hll hpl).2)) rfl ?_   -- 47
        refine ow_guard_yes rfl rfl rfl ?_
        refine ow_val (val_load_all 0 rfl rfl Tryd.isAgg23 Tryd.sizeOf23 (by show (List.map vU8 ((rootsO v0 i n leaf proof).1.2)).length = _; rw [List.length_map]; exact (rootsO_len hll hpl).2)) rfl ?_   -- 48
        refine ow_guard_yes rfl rfl rfl ?_
        refine ow_val ((val_eql_u8s rfl rfl Tryd.eqGuardType23 Tryd.underlying23 Tryd.underlying5 Tryd.sizeOf5 Tryd.isAgg5 (rootsO_len hll hpl).2 (rootsO_len hll hpl).2).to (congrArg Value.bool (show _ = true by simp [txt]))) rfl ?_   -- 49
        refine ow_val (val_pick_true rfl rfl) rfl ?_   -- 50
        refine ow_val (val_move rfl) rfl ?_   -- 51
        refine ow_guard_yes rfl rfl rfl ?_
        refine ow_val (val_move rfl) rfl ?_   -- 52
        refine ow_guard_yes rfl rfl rfl ?_
        refine ow_val (val_move rfl) rfl ?_   -- 53
        refine ow_guard_yes rfl rfl rfl ?_
        refine ow_val ((val_eql_int rfl rfl).to (v' := .bool true) (congrArg Value.bool (decide_eq_true rfl))) rfl ?_   -- 54
        refine ow_val (val_pick_true rfl rfl) rfl ?_   -- 55
        refine ow_val (val_assign rfl) rfl ?_   -- 2
        refine ow_nil (into ?_)
        refine sw_ret (fun w hm => ?_)
        try dsimp only [thenP, blockP, Nat.beq, cond]
        exact ret_one _ rfl rfl ⟨rfl, hm.forgetAll⟩
      exact lt_stop
    refine lt_alt ?_ ?_
    · -- first 16
      refine lt_make (fun b => .pointer (some ⟨b, 0, none⟩)) rfl trivial (acts_alloc zD) rfl (fun _ _ _ h => h.only (.cons _ (.cons _ (.cons_cons _ (List.nil_sublist _))))) (fun b3 hb3 => ?_)   -- 3
      refine lt_call_row (E := 23) (size := 32) (k := proof.length) (xs := (proof.flatMap fun d => d.map vU8)) rfl trivial (callsTo Tryd.func13 rfl (by kernel_rfl) rfl) rfl (fun w hm => twin_any w a proof.length c proof rfl hpl (hr.mem hm) (by omega) (by omega) (by omega)) (fun _ _ _ h => h.only (.cons _ (.cons _ (.cons _ (.cons_cons _ (List.nil_sublist _)))))) (fun a20 c20 e20 hr20 => ?_)   -- 20
      refine lt_call_pure rfl trivial (callsTo Tryd.func18 rfl (by kernel_rfl) rfl) rfl (fun w hm => mroots_any v0 leaf hll i n w (hK.mem0 hm) a20 proof.length c20 proof rfl hpl (hr20.rdAt hm (i := 0) rfl) hr20.le (by omega) (by omega)) (fun _ _ h => h.only (.cons _ (.cons _ (.cons _ (.cons_cons _ (List.nil_sublist _)))))) ?_   -- 21
      refine lt_pure rfl trivial (val_move rfl) rfl ?_   -- 9
      refine lt_pure rfl trivial (val_extract rfl rfl) rfl ?_   -- 22
      refine lt_pure rfl trivial (val_extract rfl rfl) rfl ?_   -- 23
      refine lt_pure rfl trivial (val_extract rfl rfl) rfl ?_   -- 24
      refine lt_do rfl trivial (does_store_all 1 rfl rfl rfl (one_u8s _) Tryd.sizeOf23 (by show (List.map vU8 ((rootsO v0 i n leaf proof).1.1)).length = _; rw [List.length_map]; exact (rootsO_len hll hpl).1) (by show (List.map vU8 zeros32).length = _; rw [List.length_map]; exact zeros32_len)) (fun _ _ _ _ h => h.only (.cons _ (.cons _ (.cons _ (.cons_cons _ (List.nil_sublist _)))))) (fun _ _ => ?_)
      refine lt_do rfl trivial (does_store_all 2 rfl rfl rfl (one_u8s _) Tryd.sizeOf23 (by show (List.map vU8 ((rootsO v0 i n leaf proof).1.2)).length = _; rw [List.length_map]; exact (rootsO_len hll hpl).2) (by show (List.map vU8 zeros32).length = _; rw [List.length_map]; exact zeros32_len)) (fun _ _ _ _ h => h.only (.cons _ (.cons _ (.cons _ (.cons_cons _ (List.nil_sublist _)))))) (fun _ _ => ?_)
      refine lt_pure rfl trivial (val_assign rfl) rfl ?_   -- 5
      refine lt_done (into ?_)
      refine sw_seq ?_
      refine sw_region ?_
      refine ow_val (val_fieldAddr (m := 0) (e := 0) rfl Tryd.underlying27 rfl rfl Tryd.sizeOf3 rfl) rfl ?_   -- 26
      refine ow_val (val_load_at 3 rfl rfl Tryd.isAgg3 rfl) rfl ?_   -- 27
      refine ow_val (val_fieldAddr (m := 0) (e := 33) rfl Tryd.underlying27 rfl rfl Tryd.sizeOf24 rfl) rfl ?_   -- 28
      refine ow_val (val_load_at 3 rfl rfl Tryd.isAgg24 (ask_33 hll)) rfl ?_   -- 29
      refine ow_val (val_fieldAddr (m := 0) (e := 34) rfl Tryd.underlying27 rfl rfl Tryd.sizeOf24 rfl) rfl ?_   -- 30
      refine ow_val (val_load_at 3 rfl rfl Tryd.isAgg24 (ask_34 hll)) rfl ?_   -- 31
      refine ow_val (val_fieldAddr (m := 31) (e := 1) rfl Tryd.underlying27 rfl rfl Tryd.sizeOf23 rfl) rfl ?_   -- 32
      refine ow_val (val_load_part 3 rfl rfl Tryd.isAgg23 Tryd.sizeOf23 (by show (List.map vU8 leaf).length = _; rw [List.length_map]; exact hll) (ask_leaf hll)) rfl ?_   -- 33
      refine ow_val (val_fieldAddr (m := 0) (e := 35) rfl Tryd.underlying27 rfl rfl Tryd.sizeOf25 rfl) rfl ?_   -- 34
      refine ow_val (val_load_at 3 rfl rfl Tryd.isAgg25 (ask_35 hll)) rfl ?_   -- 35
      refine ow_call_pure (callsTo Tryd.func19 rfl (by kernel_rfl) rfl) rfl (fun w hm => rroots_any v0 leaf hll i n w (hK.mem0 hm) a proof.length c proof rfl hpl (hr.mem hm) (by omega) (by omega) (by omega)) ?_   -- 36
      refine ow_val (val_move rfl) rfl ?_   -- 25
      refine ow_val (val_extract rfl rfl) rfl ?_   -- 37
      refine ow_val (val_extract rfl rfl) rfl ?_   -- 38
      refine ow_val (val_extract rfl rfl) rfl ?_   -- 39
      refine ow_new (acts_alloc zD) rfl (fun b6 hb6 => ?_)   -- 6
      refine ow_new (acts_alloc zD) rfl (fun b7 hb7 => ?_)   -- 7
      refine ow_do_eq (does_store_all 1 rfl rfl rfl (one_u8s _) Tryd.sizeOf23 (by show (List.map vU8 ((rootsO v0 i n leaf proof).1.1)).length = _; rw [List.length_map]; exact (rootsO_len hll hpl).1) (by show (List.map vU8 zeros32).length = _; rw [List.length_map]; exact zeros32_len)) ?_
      refine ow_do_eq (does_store_all 0 rfl rfl rfl (one_u8s _) Tryd.sizeOf23 (by show (List.map vU8 ((rootsO v0 i n leaf proof).1.2)).length = _; rw [List.length_map]; exact (rootsO_len hll hpl).2) (by show (List.map vU8 zeros32).length = _; rw [List.length_map]; exact zeros32_len)) ?_
      refine ow_val (val_assign rfl) rfl ?_   -- 8
      refine ow_nil (into ?_)
      refine sw_seq ?_
      refine sw_region ?_
      refine ow_call_pure (v := .bool true) (callsTo Tryd.func15 rfl (by kernel_rfl) rfl) rfl (fun w hm => awake_any w (hK.mem0 hm)) ?_   -- 40
      refine ow_val (val_move rfl) rfl ?_   -- 41
      refine ow_guard_yes rfl rfl rfl ?_
      refine ow_val (val_load_all 3 rfl rfl Tryd.isAgg23 Tryd.sizeOf23 (by show (List.map vU8 ((rootsO v0 i n leaf proof).1.1)).length = _; rw [List.length_map]; exact (rootsO_len hll hpl).1)) rfl ?_   -- 42
      refine ow_guard_yes rfl rfl rfl ?_
      refine ow_val (val_load_all 1 rfl rfl Tryd.isAgg23 Tryd.sizeOf23 (by show (List.map vU8 ((rootsO v0 i n leaf proof).1.1)).length = _; rw [List.length_map]; exact (rootsO_len hll hpl).1)) rfl ?_   -- 43
      refine ow_guard_yes rfl rfl rfl ?_
      refine ow_val ((val_eql_u8s rfl rfl Tryd.eqGuardType23 Tryd.underlying23 Tryd.underlying5 Tryd.sizeOf5 Tryd.isAgg5 (rootsO_len hll hpl).1 (rootsO_len hll hpl).1).to (congrArg Value.bool (show _ = true by simp [txt]))) rfl ?_   -- 44
      refine ow_val (val_pick_true rfl rfl) rfl ?_   -- 45
      refine ow_val (val_move rfl) rfl ?_   -- 46
      refine ow_guard_yes rfl rfl rfl ?_
      refine ow_val (val_load_all 4 rfl rfl Tryd.isAgg23 Tryd.sizeOf23 (by show (List.map vU8 ((rootsO v0 i n leaf proof).1.2)).length = _; rw [List.length_map]; exact (rootsO_len hll hpl).2)) rfl ?_   -- 47
      refine ow_guard_yes rfl rfl rfl ?_
      refine ow_val (val_load_all 0 rfl rfl Tryd.isAgg23 Tryd.sizeOf23 (by show (List.map vU8 ((rootsO v0 i n leaf proof).1.2)).length = _; rw [List.length_map]; exact (rootsO_len hll hpl).2)) rfl ?_   -- 48
      refine ow_guard_yes rfl rfl rfl ?_
      refine ow_val ((val_eql_u8s rfl rfl Tryd.eqGuardType23 Tryd.underlying23 Tryd.underlying5 Tryd.sizeOf5 Tryd.isAgg5 (rootsO_len hll hpl).2 (rootsO_len hll hpl).2).to (congrArg Value.bool (show _ = true by simp [txt]))) rfl ?_   -- 49
      refine ow_val (val_pick_true rfl rfl) rfl ?_   -- 50
      refine ow_val (val_move rfl) rfl ?_   -- 51
      refine ow_guard_yes rfl rfl rfl ?_
      refine ow_val (val_move rfl) rfl ?_   -- 52
      refine ow_guard_yes rfl rfl rfl ?_
      refine ow_val (val_move rfl) rfl ?_   -- 53
      refine ow_guard_yes rfl rfl rfl ?_
      refine ow_val ((val_eql_int rfl rfl).to (v' := .bool true) (congrArg Value.bool (decide_eq_true rfl))) rfl ?_   -- 54
      refine ow_val (val_pick_true rfl rfl) rfl ?_   -- 55
      refine ow_val (val_assign rfl) rfl ?_   -- 2
      refine ow_nil (into ?_)
      refine sw_ret (fun w hm => ?_)
      try dsimp only [thenP, blockP, Nat.beq, cond]
      exact ret_one _ rfl rfl ⟨rfl, hm.forgetAll⟩
    exact lt_stop
  exact lt_stop

theorem mcheckConsistencies_any (v0 : Int) (leaf : List UInt8) (hll : leaf.length = 32) (i n : UInt64) (root : List UInt8) (hrl : root.length = 32) (w : World) (hK : KW w) (a : Option Addr) (c : Nat) (proof : List (List UInt8)) (hpl : ∀ d ∈ proof, d.length = 32) (hr : Rd w a (proof.flatMap fun d => d.map vU8)) (hc : proof.length ≤ c) (hl : proof.length < 9223372036854775808) (hb : (proof.length + 2) * 32 ≤ 140737488355328) : Calls Tryd.prog 8 #[.agg (askC v0 leaf i n (.slice a proof.length c) root).toArray] w fun e w' => ∃ v, e = .returned v ∧ v = .bool true ∧ Mem w [] [] w' := by
  refine calls_of_sw (vs := [.agg (askC v0 leaf i n (.slice a proof.length c) root).toArray]) Tryd.func8 rfl Tryd.ntmps8 rfl (SW.begin ?_)
  refine sw_seq ?_
  refine sw_region ?_
  refine ow_new (acts_box rfl) rfl (fun b1 hb1 => ?_)   -- 1
  refine ow_val (val_assign rfl) rfl ?_   -- 2
  refine ow_nil (into ?_)
  refine sw_seq ?_
  refine sw_region_tree (Mem w [] [some (b1, blk (askC v0 leaf i n (.slice a proof.length c) root) 27)]) [] (.one 0 0 (.one 2 0 (.one 4 0 (.one 6 0 (.one 8 0 (.one 10 0 (.one 1 1 (.one 3 1 (.one 5 1 (.one 7 1 (.one 9 1 (.one 11 1 (.one 12 2 (.one 13 2 (.one 14 0 .done))))))))))))))) (by kernel_rfl) (by kernel_rfl) (fun _ _ _ h => h) (fun _ h => h.only (.cons_cons _ (List.nil_sublist _))) (fun _ h => h.drawn _) ?_
  refine lt_pure rfl trivial (val_fieldAddr (m := 0) (e := 0) rfl Tryd.underlying27 rfl rfl Tryd.sizeOf3 rfl) rfl ?_   -- 10
  refine lt_pure rfl trivial (val_fieldAddr (m := 0) (e := 33) rfl Tryd.underlying27 rfl rfl Tryd.sizeOf24 rfl) rfl ?_   -- 12
  refine lt_pure rfl trivial (val_fieldAddr (m := 0) (e := 34) rfl Tryd.underlying27 rfl rfl Tryd.sizeOf24 rfl) rfl ?_   -- 14
  refine lt_pure rfl trivial (val_fieldAddr (m := 31) (e := 1) rfl Tryd.underlying27 rfl rfl Tryd.sizeOf23 rfl) rfl ?_   -- 16
  refine lt_pure rfl trivial (val_fieldAddr (m := 31) (e := 36) rfl Tryd.underlying27 rfl rfl Tryd.sizeOf23 rfl) rfl ?_   -- 18
  refine lt_pure rfl trivial (val_fieldAddr (m := 0) (e := 35) rfl Tryd.underlying27 rfl rfl Tryd.sizeOf25 rfl) rfl ?_   -- 20
  refine lt_held rfl trivial (val_load_at 0 rfl rfl Tryd.isAgg3 rfl) rfl ?_   -- 11
  refine lt_held rfl trivial (val_load_at 0 rfl rfl Tryd.isAgg24 (ask_33 hll)) rfl ?_   -- 13
  refine lt_held rfl trivial (val_load_at 0 rfl rfl Tryd.isAgg24 (ask_34 hll)) rfl ?_   -- 15
  refine lt_held rfl trivial (val_load_part 0 rfl rfl Tryd.isAgg23 Tryd.sizeOf23 (by show (List.map vU8 leaf).length = _; rw [List.length_map]; exact hll) (ask_leaf hll)) rfl ?_   -- 17
  refine lt_held rfl trivial (val_load_part 0 rfl rfl Tryd.isAgg23 Tryd.sizeOf23 (by show (List.map vU8 root).length = _; rw [List.length_map]; exact hrl) (ask_root hll hrl)) rfl ?_   -- 19
  refine lt_held rfl trivial (val_load_at 0 rfl rfl Tryd.isAgg25 (ask_35 hll)) rfl ?_   -- 21
  refine lt_call_row (E := 23) (size := 32) (k := proof.length) (xs := (proof.flatMap fun d => d.map vU8)) rfl trivial (callsTo Tryd.func13 rfl (by kernel_rfl) rfl) rfl (fun w hm => twin_any w a proof.length c proof rfl hpl (hr.mem hm) (by omega) (by omega) (by omega)) (fun _ _ _ h => h.only (.cons _ (.cons_cons _ (List.nil_sublist _)))) (fun a22 c22 e22 hr22 => ?_)   -- 22
  refine lt_call_pure rfl trivial (callsTo Tryd.func23 rfl (by kernel_rfl) rfl) rfl (fun w hm => mcons_any v0 leaf hll i n root hrl w (hK.mem0 hm) a22 proof.length c22 proof rfl hpl (hr22.rdAt hm (i := 0) rfl) hr22.le (by omega) (by omega)) (fun _ _ h => h.only (.cons _ (.cons_cons _ (List.nil_sublist _)))) ?_   -- 23
  refine lt_pure rfl trivial (val_assign rfl) rfl ?_   -- 3
  refine lt_done (into ?_)
  refine sw_seq ?_
  refine sw_region ?_
  refine ow_val (val_fieldAddr (m := 0) (e := 0) rfl Tryd.underlying27 rfl rfl Tryd.sizeOf3 rfl) rfl ?_   -- 24
  refine ow_val (val_load_at 1 rfl rfl Tryd.isAgg3 rfl) rfl ?_   -- 25
  refine ow_val (val_fieldAddr (m := 0) (e := 33) rfl Tryd.underlying27 rfl rfl Tryd.sizeOf24 rfl) rfl ?_   -- 26
  refine ow_val (val_load_at 1 rfl rfl Tryd.isAgg24 (ask_33 hll)) rfl ?_   -- 27
  refine ow_val (val_fieldAddr (m := 0) (e := 34) rfl Tryd.underlying27 rfl rfl Tryd.sizeOf24 rfl) rfl ?_   -- 28
  refine ow_val (val_load_at 1 rfl rfl Tryd.isAgg24 (ask_34 hll)) rfl ?_   -- 29
  refine ow_val (val_fieldAddr (m := 31) (e := 1) rfl Tryd.underlying27 rfl rfl Tryd.sizeOf23 rfl) rfl ?_   -- 30
  refine ow_val (val_load_part 1 rfl rfl Tryd.isAgg23 Tryd.sizeOf23 (by show (List.map vU8 leaf).length = _; rw [List.length_map]; exact hll) (ask_leaf hll)) rfl ?_   -- 31
  refine ow_val (val_fieldAddr (m := 31) (e := 36) rfl Tryd.underlying27 rfl rfl Tryd.sizeOf23 rfl) rfl ?_   -- 32
  refine ow_val (val_load_part 1 rfl rfl Tryd.isAgg23 Tryd.sizeOf23 (by show (List.map vU8 root).length = _; rw [List.length_map]; exact hrl) (ask_root hll hrl)) rfl ?_   -- 33
  refine ow_val (val_fieldAddr (m := 0) (e := 35) rfl Tryd.underlying27 rfl rfl Tryd.sizeOf25 rfl) rfl ?_   -- 34
  refine ow_val (val_load_at 1 rfl rfl Tryd.isAgg25 (ask_35 hll)) rfl ?_   -- 35
  refine ow_call_pure (callsTo Tryd.func24 rfl (by kernel_rfl) rfl) rfl (fun w hm => rcons_any v0 leaf hll i n root hrl w (hK.mem0 hm) a proof.length c proof rfl hpl (hr.mem hm) (by omega) (by omega) (by omega)) ?_   -- 36
  refine ow_val (val_assign rfl) rfl ?_   -- 4
  refine ow_nil (into ?_)
  refine sw_seq ?_
  refine sw_region ?_
  refine ow_val (val_fieldAddr (m := 0) (e := 0) rfl Tryd.underlying27 rfl rfl Tryd.sizeOf3 rfl) rfl ?_   -- 38
  refine ow_val (val_load_at 1 rfl rfl Tryd.isAgg3 rfl) rfl ?_   -- 39
  refine ow_val (val_fieldAddr (m := 0) (e := 33) rfl Tryd.underlying27 rfl rfl Tryd.sizeOf24 rfl) rfl ?_   -- 40
  refine ow_val (val_load_at 1 rfl rfl Tryd.isAgg24 (ask_33 hll)) rfl ?_   -- 41
  refine ow_val (val_fieldAddr (m := 0) (e := 34) rfl Tryd.underlying27 rfl rfl Tryd.sizeOf24 rfl) rfl ?_   -- 42
  refine ow_val (val_load_at 1 rfl rfl Tryd.isAgg24 (ask_34 hll)) rfl ?_   -- 43
  refine ow_val (val_fieldAddr (m := 31) (e := 1) rfl Tryd.underlying27 rfl rfl Tryd.sizeOf23 rfl) rfl ?_   -- 44
  refine ow_val (val_load_part 1 rfl rfl Tryd.isAgg23 Tryd.sizeOf23 (by show (List.map vU8 leaf).length = _; rw [List.length_map]; exact hll) (ask_leaf hll)) rfl ?_   -- 45
  refine ow_val (val_fieldAddr (m := 0) (e := 35) rfl Tryd.underlying27 rfl rfl Tryd.sizeOf25 rfl) rfl ?_   -- 46
  refine ow_val (val_load_at 1 rfl rfl Tryd.isAgg25 (ask_35 hll)) rfl ?_   -- 47
  refine ow_call_pure (callsTo Tryd.func19 rfl (by kernel_rfl) rfl) rfl (fun w hm => rroots_any v0 leaf hll i n w (hK.mem0 hm) a proof.length c proof rfl hpl (hr.mem hm) (by omega) (by omega) (by omega)) ?_   -- 48
  refine ow_val (val_move rfl) rfl ?_   -- 37
  refine ow_val (val_extract rfl rfl) rfl ?_   -- 49
  refine ow_val (val_extract rfl rfl) rfl ?_   -- 50
  refine ow_val (val_extract rfl rfl) rfl ?_   -- 51
  refine ow_new (acts_alloc zD) rfl (fun b5 hb5 => ?_)   -- 5
  refine ow_new (acts_alloc zD) rfl (fun b6 hb6 => ?_)   -- 6
  refine ow_do_eq (does_store_all 1 rfl rfl rfl (one_u8s _) Tryd.sizeOf23 (by show (List.map vU8 ((rootsO v0 i n leaf proof).1.1)).length = _; rw [List.length_map]; exact (rootsO_len hll hpl).1) (by show (List.map vU8 zeros32).length = _; rw [List.length_map]; exact zeros32_len)) ?_
  refine ow_do_eq (does_store_all 0 rfl rfl rfl (one_u8s _) Tryd.sizeOf23 (by show (List.map vU8 ((rootsO v0 i n leaf proof).1.2)).length = _; rw [List.length_map]; exact (rootsO_len hll hpl).2) (by show (List.map vU8 zeros32).length = _; rw [List.length_map]; exact zeros32_len)) ?_
  refine ow_val (val_assign rfl) rfl ?_   -- 7
  refine ow_nil (into ?_)
  refine sw_seq ?_
  refine sw_region_tree (Mem w [] [some (b6, blk (((rootsO v0 i n leaf proof).1.2).map vU8) 23), some (b5, blk (((rootsO v0 i n leaf proof).1.1).map vU8) 23), some (b1, blk (askC v0 leaf i n (.slice a proof.length c) root) 27)]) [] (.one 0 0 (.one 2 0 (.one 4 0 (.one 8 0 (.one 1 1 (.one 3 1 (.one 5 1 (.one 6 1 (.one 7 1 (.one 9 1 (.one 10 2 (.one 11 2 (.one 12 0 .done))))))))))))) (by kernel_rfl) (by kernel_rfl) (fun _ _ _ h => h) (fun _ h => h.only (.cons_cons _ (.cons_cons _ (.cons _ (.cons_cons _ (List.nil_sublist _)))))) (fun _ h => h.drawn _) ?_
  refine lt_pure rfl trivial (val_fieldAddr (m := 0) (e := 0) rfl Tryd.underlying27 rfl rfl Tryd.sizeOf3 rfl) rfl ?_   -- 52
  refine lt_pure rfl trivial (val_fieldAddr (m := 0) (e := 33) rfl Tryd.underlying27 rfl rfl Tryd.sizeOf24 rfl) rfl ?_   -- 54
  refine lt_pure rfl trivial (val_fieldAddr (m := 0) (e := 34) rfl Tryd.underlying27 rfl rfl Tryd.sizeOf24 rfl) rfl ?_   -- 56
  refine lt_pure rfl trivial (val_fieldAddr (m := 0) (e := 35) rfl Tryd.underlying27 rfl rfl Tryd.sizeOf25 rfl) rfl ?_   -- 60
  refine lt_held rfl trivial (val_load_at 2 rfl rfl Tryd.isAgg3 rfl) rfl ?_   -- 53
  refine lt_held rfl trivial (val_load_at 2 rfl rfl Tryd.isAgg24 (ask_33 hll)) rfl ?_   -- 55
  refine lt_held rfl trivial (val_load_at 2 rfl rfl Tryd.isAgg24 (ask_34 hll)) rfl ?_   -- 57
  refine lt_held rfl trivial (val_load_all 1 rfl rfl Tryd.isAgg23 Tryd.sizeOf23 (by show (List.map vU8 ((rootsO v0 i n leaf proof).1.1)).length = _; rw [List.length_map]; exact (rootsO_len hll hpl).1)) rfl ?_   -- 58
  refine lt_held rfl trivial (val_load_all 0 rfl rfl Tryd.isAgg23 Tryd.sizeOf23 (by show (List.map vU8 ((rootsO v0 i n leaf proof).1.2)).length = _; rw [List.length_map]; exact (rootsO_len hll hpl).2)) rfl ?_   -- 59
  refine lt_held rfl trivial (val_load_at 2 rfl rfl Tryd.isAgg25 (ask_35 hll)) rfl ?_   -- 61
  refine lt_call_row (E := 23) (size := 32) (k := proof.length) (xs := (proof.flatMap fun d => d.map vU8)) rfl trivial (callsTo Tryd.func13 rfl (by kernel_rfl) rfl) rfl (fun w hm => twin_any w a proof.length c proof rfl hpl (hr.mem hm) (by omega) (by omega) (by omega)) (fun _ _ _ h => h.only (.cons _ (.cons_cons _ (.cons_cons _ (.cons _ (.cons_cons _ (List.nil_sublist _))))))) (fun a62 c62 e62 hr62 => ?_)   -- 62
  refine lt_call_pure rfl trivial (callsTo Tryd.func23 rfl (by kernel_rfl) rfl) rfl (fun w hm => mcons_any v0 ((rootsO v0 i n leaf proof).1.1) (rootsO_len hll hpl).1 i n ((rootsO v0 i n leaf proof).1.2) (rootsO_len hll hpl).2 w (hK.mem0 hm) a62 proof.length c62 proof rfl hpl (hr62.rdAt hm (i := 0) rfl) hr62.le (by omega) (by omega)) (fun _ _ h => h.only (.cons _ (.cons_cons _ (.cons_cons _ (.cons _ (.cons_cons _ (List.nil_sublist _))))))) ?_   -- 63
  refine lt_pure rfl trivial (val_assign rfl) rfl ?_   -- 8
  refine lt_done (into ?_)
  refine sw_seq ?_
  refine sw_region ?_
  refine ow_val (val_fieldAddr (m := 0) (e := 0) rfl Tryd.underlying27 rfl rfl Tryd.sizeOf3 rfl) rfl ?_   -- 64
  refine ow_val (val_load_at 4 rfl rfl Tryd.isAgg3 rfl) rfl ?_   -- 65
  refine ow_val (val_fieldAddr (m := 0) (e := 33) rfl Tryd.underlying27 rfl rfl Tryd.sizeOf24 rfl) rfl ?_   -- 66
  refine ow_val (val_load_at 4 rfl rfl Tryd.isAgg24 (ask_33 hll)) rfl ?_   -- 67
  refine ow_val (val_fieldAddr (m := 0) (e := 34) rfl Tryd.underlying27 rfl rfl Tryd.sizeOf24 rfl) rfl ?_   -- 68
  refine ow_val (val_load_at 4 rfl rfl Tryd.isAgg24 (ask_34 hll)) rfl ?_   -- 69
  refine ow_val (val_load_all 2 rfl rfl Tryd.isAgg23 Tryd.sizeOf23 (by show (List.map vU8 ((rootsO v0 i n leaf proof).1.1)).length = _; rw [List.length_map]; exact (rootsO_len hll hpl).1)) rfl ?_   -- 70
  refine ow_val (val_load_all 1 rfl rfl Tryd.isAgg23 Tryd.sizeOf23 (by show (List.map vU8 ((rootsO v0 i n leaf proof).1.2)).length = _; rw [List.length_map]; exact (rootsO_len hll hpl).2)) rfl ?_   -- 71
  refine ow_val (val_fieldAddr (m := 0) (e := 35) rfl Tryd.underlying27 rfl rfl Tryd.sizeOf25 rfl) rfl ?_   -- 72
  refine ow_val (val_load_at 4 rfl rfl Tryd.isAgg25 (ask_35 hll)) rfl ?_   -- 73
  refine ow_call_pure (callsTo Tryd.func24 rfl (by kernel_rfl) rfl) rfl (fun w hm => rcons_any v0 ((rootsO v0 i n leaf proof).1.1) (rootsO_len hll hpl).1 i n ((rootsO v0 i n leaf proof).1.2) (rootsO_len hll hpl).2 w (hK.mem0 hm) a proof.length c proof rfl hpl (hr.mem hm) (by omega) (by omega) (by omega)) ?_   -- 74
  refine ow_val (val_assign rfl) rfl ?_   -- 9
  refine ow_nil (into ?_)
  refine sw_seq ?_
  refine sw_region ?_
  refine ow_call_pure (v := .bool true) (callsTo Tryd.func15 rfl (by kernel_rfl) rfl) rfl (fun w hm => awake_any w (hK.mem0 hm)) ?_   -- 75
  refine ow_val (val_move rfl) rfl ?_   -- 76
  refine ow_guard_yes rfl rfl rfl ?_
  refine ow_val (val_move rfl) rfl ?_   -- 77
  refine ow_guard_yes rfl rfl rfl ?_
  refine ow_val (val_move rfl) rfl ?_   -- 78
  refine ow_guard_yes rfl rfl rfl ?_
  refine ow_val ((val_eql_int rfl rfl).to (v' := .bool true) (congrArg Value.bool (decide_eq_true rfl))) rfl ?_   -- 79
  refine ow_val (val_pick_true rfl rfl) rfl ?_   -- 80
  refine ow_val (val_move rfl) rfl ?_   -- 81
  refine ow_guard_yes rfl rfl rfl ?_
  refine ow_val (val_move rfl) rfl ?_   -- 82
  refine ow_guard_yes rfl rfl rfl ?_
  refine ow_val (val_move rfl) rfl ?_   -- 83
  refine ow_guard_yes rfl rfl rfl ?_
  refine ow_val ((val_eql_int rfl rfl).to (v' := .bool true) (congrArg Value.bool (decide_eq_true rfl))) rfl ?_   -- 84
  refine ow_val (val_pick_true rfl rfl) rfl ?_   -- 85
  refine ow_val (val_assign rfl) rfl ?_   -- 2
  refine ow_nil (into ?_)
  exact sw_ret (fun w hm => ret_one _ rfl rfl ⟨rfl, hm.forgetAll⟩)
end Go.Proofs.YtbhbhdojmacpmaaDoor
