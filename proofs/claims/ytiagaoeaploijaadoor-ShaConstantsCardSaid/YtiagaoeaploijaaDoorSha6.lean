import Derived.Test.YtiagaoeaploijaaDoorSha5
import Derived.Test.YtiagaoeaploijaaDoorProg
set_option linter.unusedVariables false
set_option linter.unusedSimpArgs false
namespace Go.Proofs.YtiagaoeaploijaaDoor
open Go.Sx Go.Ps
theorem shaSums_any (a : Option Addr) (m c : Nat) (p : List UInt8) (hpm : p.length = m) (hc : m ≤ c) (hl : m ≤ 140737488355328) (w : World) (hK : KW w) (hr : Rd w a (p.map vU8)) : Calls Tryd.prog 3 #[.slice a m c] w fun e w' => ∃ v, e = .returned v ∧ v = .bool true ∧ Mem w [] [] w' := by
  refine calls_of_sw (vs := [.slice a m c]) Tryd.func3 rfl Tryd.ntmps3 rfl (SW.begin ?_)
  refine sw_seq ?_
  refine sw_region ?_
  refine ow_val (val_assign rfl) rfl ?_   -- 2
  refine ow_nil (into ?_)
  refine sw_seq ?_
  refine sw_region ?_
  refine ow_call_pure (callsTo Tryd.func13 rfl (by kernel_rfl) rfl) rfl (fun w hm => awake_any w (hK.mem0 hm)) ?_   -- 3
  refine ow_val (val_move rfl) rfl ?_   -- 4
  refine ow_guard_yes rfl rfl rfl ?_
  refine ow_val (val_move rfl) rfl ?_   -- 5
  refine ow_guard_yes rfl rfl rfl ?_
  refine ow_call_blk (fun b => .slice (some ⟨b, 0, none⟩) m m) (callsTo Tryd.func15 rfl (by kernel_rfl) rfl) rfl (fun w hm => twin_any _ _ _ p hpm (by omega) w (hr.mem hm)) (fun b6 hb6 => ?_)   -- 6
  refine ow_guard_yes rfl rfl rfl ?_
  refine ow_call_pure (callsTo Tryd.func14 rfl (by kernel_rfl) rfl) rfl (fun w hm => sum256h_any _ _ _ p hpm w (hK.mem0 hm) (Rd.blk (hm.at (i := 0) rfl)) (by omega) (by omega)) ?_   -- 7
  refine ow_guard_yes rfl rfl rfl ?_
  refine ow_val (val_move rfl) rfl ?_   -- 8
  refine ow_guard_yes rfl rfl rfl ?_
  refine ow_call_pure (callsTo Tryd.func16 rfl (by kernel_rfl) rfl) rfl (fun w hm => refSum_any _ _ _ p hpm (by omega) (by omega) w (hr.mem hm)) ?_   -- 9
  refine ow_guard_yes rfl rfl rfl ?_
  refine ow_val ((val_eql_u8s rfl rfl Tryd.eqGuardType24 Tryd.underlying24 Tryd.underlying5 Tryd.sizeOf5 Tryd.isAgg5 (hash_len _) (hash_len _)).to (congrArg Value.bool (show _ = true by simp [txt]))) rfl ?_   -- 10
  refine ow_val (val_pick_true rfl rfl) rfl ?_   -- 11
  refine ow_val (val_assign rfl) rfl ?_   -- 2
  refine ow_nil (into ?_)
  exact sw_ret (fun w hm => ret_one _ rfl rfl ⟨rfl, hm.forgetAll⟩)

set_option maxRecDepth 10000 in
theorem shaBlocks_any (a : Option Addr) (m c : Nat) (p : List UInt32) (hpm : p.length = m) (hc : m ≤ c) (hl : m ≤ 140737488355328) (a2 : Option Addr) (m2 c2 : Nat) (q : List UInt8) (hqm : q.length = m2) (hc2 : m2 ≤ c2) (hl2 : m2 ≤ 140737488355328) (w : World) (hK : KW w) (hr : Rd w a (p.map vU32)) (hr2 : Rd w a2 (q.map vU8)) : Calls Tryd.prog 4 #[.slice a m c, .slice a2 m2 c2] w fun e w' => ∃ v, e = .returned v ∧ v = .bool true ∧ Mem w [] [] w' := by
  refine calls_of_sw (vs := [.slice a m c, .slice a2 m2 c2]) Tryd.func4 rfl Tryd.ntmps4 rfl (SW.begin ?_)
  refine sw_seq ?_
  refine sw_region ?_
  refine ow_val (val_assign rfl) rfl ?_   -- 4
  refine ow_nil (into ?_)
  refine sw_seq ?_
  refine sw_region ?_
  refine ow_new (acts_alloc z30) rfl (fun b5 hb5 => ?_)   -- 5
  refine ow_nil (into ?_)
  refine sw_seq ?_
  refine sw_region ?_
  refine ow_new (acts_alloc z31) rfl (fun b6 hb6 => ?_)   -- 6
  refine ow_nil (into ?_)
  refine sw_join (σ := List UInt32) (fun h => h.length = 8) (fun _ => [(0, .slice a m c), (1, .slice a2 m2 c2), (5, .pointer (some ⟨b5, 0, none⟩)), (6, .pointer (some ⟨b6, 0, none⟩))]) (fun h => Mem w [] [some (b6, blk ((List.replicate 64 (0 : UInt8)).map vU8) 31), some (b5, blk ((h).map vU32) 30)]) ?_ (fun h hh => ?_)
  · -- part
    refine sw_seq ?_
    refine sw_region ?_
    refine ow_val (val_assign rfl) rfl ?_   -- 7
    refine ow_nil (into ?_)
    refine sw_block ?_
    refine sw_loop (σ := Nat × List UInt32) (fun x => x.1 ≤ 8 ∧ x.2.length = 8) (fun x => [(7, vInt (x.1 : Int)), (0, .slice a m c), (1, .slice a2 m2 c2), (5, .pointer (some ⟨b5, 0, none⟩)), (6, .pointer (some ⟨b6, 0, none⟩))]) (fun x => Mem w [] [some (b6, blk ((List.replicate 64 (0 : UInt8)).map vU8) 31), some (b5, blk ((x.2).map vU32) 30)]) (fun x => 8 - x.1) (0, List.replicate 8 0) ⟨by decide, by simp⟩ ⟨rfl, rfl, rfl, rfl, rfl, trivial⟩ (fun w hm => hm) ?_
    rintro ⟨i, h⟩ ⟨hi, hh⟩
    simp only at hi hh ⊢
    refine sw_seq ?_
    refine sw_seq ?_
    refine sw_region ?_
    refine ow_val (val_move rfl) rfl ?_   -- 9
    by_cases g1 : i < 8
    · -- yes
      refine ow_val ((val_lss_int rfl rfl).to (congrArg Value.bool (decide_eq_true (by omega)))) rfl ?_   -- 10
      refine ow_val (val_move rfl) rfl ?_   -- 11
      refine ow_guard_yes rfl rfl rfl ?_
      refine ow_val (val_move rfl) rfl ?_   -- 12
      refine ow_guard_yes rfl rfl rfl ?_
      refine ow_val (val_move rfl) rfl ?_   -- 13
      refine ow_guard_yes rfl rfl rfl ?_
      refine ow_val (val_len rfl Tryd.underlying28) rfl ?_   -- 14
      by_cases g2 : i < m
      · -- yes
        refine ow_guard_yes rfl rfl rfl ?_
        refine ow_val ((val_lss_int rfl rfl).to (congrArg Value.bool (decide_eq_true (by omega)))) rfl ?_   -- 15
        refine ow_val (val_pick_true rfl rfl) rfl ?_   -- 16
        refine ow_nil (into ?_)
        refine sw_true rfl rfl ?_
        refine sw_skip (into ?_)
        refine sw_seq ?_
        refine sw_block ?_
        refine sw_region ?_
        obtain ⟨ba, oa, rfl⟩ := hr.addr (by simp; omega)
        refine ow_val (val_move rfl) rfl ?_
        refine ow_val (val_move rfl) rfl ?_   -- 20
        refine ow_val (val_move rfl) rfl ?_   -- 21
        refine ow_val (val_indexAddr_slice (i) (oa + i) rfl rfl Tryd.underlying28 Tryd.sizeOf29 (by omega) (by omega) (by omega)) rfl ?_   -- 22
        refine ow_val (val_load rfl Tryd.isAgg29 (fun w' hm => Rd.get (p := p) (k := i) (hr.mem hm) (by omega) (by omega))) rfl ?_   -- 23
        refine ow_val (val_indexAddr (i) (i) rfl rfl Tryd.underlying30 Tryd.sizeOf29 (by omega) (by omega) (by omega)) rfl ?_   -- 24
        refine ow_do (does_store_map (V := vU32) 1 rfl rfl rfl rfl Tryd.sizeOf29 (by omega)) (fun _ _ => ?_)
        refine ow_nil (into ?_)
        refine sw_region ?_
        refine ow_val (val_move rfl) rfl ?_   -- 17
        refine ow_val (val_add_int ((i + 1 : Nat) : Int) rfl rfl (by omega) (by omega)) rfl ?_   -- 18
        refine ow_val (val_assign rfl) rfl ?_   -- 7
        exact ow_nil (fun w hm => ⟨(i + 1, _), ⟨(by dsimp only; omega), by simpa using hh⟩, (by dsimp only; omega), ⟨rfl, rfl, rfl, rfl, rfl, trivial⟩, hm⟩)
      · -- no
        refine ow_guard_yes rfl rfl rfl ?_
        refine ow_val ((val_lss_int rfl rfl).to (congrArg Value.bool (decide_eq_false (by omega)))) rfl ?_   -- 15
        refine ow_val (val_pick_true rfl rfl) rfl ?_   -- 16
        refine ow_nil (into ?_)
        refine sw_false rfl rfl ?_
        exact sw_exit (fun w hm => ⟨h, hh, ⟨rfl, rfl, rfl, rfl, trivial⟩, hm⟩)
    · -- no
      refine ow_val ((val_lss_int rfl rfl).to (congrArg Value.bool (decide_eq_false (by omega)))) rfl ?_   -- 10
      refine ow_val (val_move rfl) rfl ?_   -- 11
      first | refine ow_guard_no rfl rfl rfl rfl rfl ?_ | refine ow_guard_none rfl rfl rfl rfl rfl ?_
      first | refine ow_guard_no rfl rfl rfl rfl rfl ?_ | refine ow_guard_none rfl rfl rfl rfl rfl ?_
      first | refine ow_guard_no rfl rfl rfl rfl rfl ?_ | refine ow_guard_none rfl rfl rfl rfl rfl ?_
      first | refine ow_guard_no rfl rfl rfl rfl rfl ?_ | refine ow_guard_none rfl rfl rfl rfl rfl ?_
      refine ow_val (val_pick_false rfl rfl) rfl ?_   -- 16
      refine ow_nil (into ?_)
      refine sw_false rfl rfl ?_
      exact sw_exit (fun w hm => ⟨h, hh, ⟨rfl, rfl, rfl, rfl, trivial⟩, hm⟩)
  · -- rest
    refine sw_join (σ := List UInt8) (fun bl => bl.length = 64) (fun _ => [(5, .pointer (some ⟨b5, 0, none⟩)), (6, .pointer (some ⟨b6, 0, none⟩))]) (fun bl => Mem w [] [some (b6, blk ((bl).map vU8) 31), some (b5, blk ((h).map vU32) 30)]) ?_ (fun bl hb => ?_)
    · -- part
      refine sw_seq ?_
      refine sw_region ?_
      refine ow_val (val_assign rfl) rfl ?_   -- 8
      refine ow_nil (into ?_)
      refine sw_block ?_
      refine sw_loop (σ := Nat × List UInt8) (fun x => x.1 ≤ 64 ∧ x.2.length = 64) (fun x => [(8, vInt (x.1 : Int)), (0, .slice a m c), (1, .slice a2 m2 c2), (5, .pointer (some ⟨b5, 0, none⟩)), (6, .pointer (some ⟨b6, 0, none⟩))]) (fun x => Mem w [] [some (b6, blk ((x.2).map vU8) 31), some (b5, blk ((h).map vU32) 30)]) (fun x => 64 - x.1) (0, List.replicate 64 0) ⟨by decide, by simp⟩ ⟨rfl, rfl, rfl, rfl, rfl, trivial⟩ (fun w hm => hm) ?_
      rintro ⟨i, bl⟩ ⟨hi, hb⟩
      simp only at hi hb ⊢
      refine sw_seq ?_
      refine sw_seq ?_
      refine sw_region ?_
      refine ow_val (val_move rfl) rfl ?_   -- 25
      by_cases g3 : i < 64
      · -- yes
        refine ow_val ((val_lss_int rfl rfl).to (congrArg Value.bool (decide_eq_true (by omega)))) rfl ?_   -- 26
        refine ow_val (val_move rfl) rfl ?_   -- 27
        refine ow_guard_yes rfl rfl rfl ?_
        refine ow_val (val_move rfl) rfl ?_   -- 28
        refine ow_guard_yes rfl rfl rfl ?_
        refine ow_val (val_move rfl) rfl ?_   -- 29
        refine ow_guard_yes rfl rfl rfl ?_
        refine ow_val (val_len rfl Tryd.underlying22) rfl ?_   -- 30
        by_cases g4 : i < m2
        · -- yes
          refine ow_guard_yes rfl rfl rfl ?_
          refine ow_val ((val_lss_int rfl rfl).to (congrArg Value.bool (decide_eq_true (by omega)))) rfl ?_   -- 31
          refine ow_val (val_pick_true rfl rfl) rfl ?_   -- 32
          refine ow_nil (into ?_)
          refine sw_true rfl rfl ?_
          refine sw_skip (into ?_)
          refine sw_seq ?_
          refine sw_block ?_
          refine sw_region ?_
          obtain ⟨ba, oa, rfl⟩ := hr2.addr (by simp; omega)
          refine ow_val (val_move rfl) rfl ?_
          refine ow_val (val_move rfl) rfl ?_   -- 36
          refine ow_val (val_move rfl) rfl ?_   -- 37
          refine ow_val (val_indexAddr_slice (i) (oa + i) rfl rfl Tryd.underlying22 Tryd.sizeOf5 (by omega) (by omega) (by omega)) rfl ?_   -- 38
          refine ow_val (val_load rfl Tryd.isAgg5 (fun w' hm => Rd.get (p := q) (k := i) (hr2.mem hm) (by omega) (by omega))) rfl ?_   -- 39
          refine ow_val (val_indexAddr (i) (i) rfl rfl Tryd.underlying31 Tryd.sizeOf5 (by omega) (by omega) (by omega)) rfl ?_   -- 40
          refine ow_do (does_store_map (V := vU8) 0 rfl rfl rfl rfl Tryd.sizeOf5 (by omega)) (fun _ _ => ?_)
          refine ow_nil (into ?_)
          refine sw_region ?_
          refine ow_val (val_move rfl) rfl ?_   -- 33
          refine ow_val (val_add_int ((i + 1 : Nat) : Int) rfl rfl (by omega) (by omega)) rfl ?_   -- 34
          refine ow_val (val_assign rfl) rfl ?_   -- 8
          exact ow_nil (fun w hm => ⟨(i + 1, _), ⟨(by dsimp only; omega), by simpa using hb⟩, (by dsimp only; omega), ⟨rfl, rfl, rfl, rfl, rfl, trivial⟩, hm⟩)
        · -- no
          refine ow_guard_yes rfl rfl rfl ?_
          refine ow_val ((val_lss_int rfl rfl).to (congrArg Value.bool (decide_eq_false (by omega)))) rfl ?_   -- 31
          refine ow_val (val_pick_true rfl rfl) rfl ?_   -- 32
          refine ow_nil (into ?_)
          refine sw_false rfl rfl ?_
          exact sw_exit (fun w hm => ⟨bl, hb, ⟨rfl, rfl, trivial⟩, hm⟩)
      · -- no
        refine ow_val ((val_lss_int rfl rfl).to (congrArg Value.bool (decide_eq_false (by omega)))) rfl ?_   -- 26
        refine ow_val (val_move rfl) rfl ?_   -- 27
        first | refine ow_guard_no rfl rfl rfl rfl rfl ?_ | refine ow_guard_none rfl rfl rfl rfl rfl ?_
        first | refine ow_guard_no rfl rfl rfl rfl rfl ?_ | refine ow_guard_none rfl rfl rfl rfl rfl ?_
        first | refine ow_guard_no rfl rfl rfl rfl rfl ?_ | refine ow_guard_none rfl rfl rfl rfl rfl ?_
        first | refine ow_guard_no rfl rfl rfl rfl rfl ?_ | refine ow_guard_none rfl rfl rfl rfl rfl ?_
        refine ow_val (val_pick_false rfl rfl) rfl ?_   -- 32
        refine ow_nil (into ?_)
        refine sw_false rfl rfl ?_
        exact sw_exit (fun w hm => ⟨bl, hb, ⟨rfl, rfl, trivial⟩, hm⟩)
    · -- rest
      refine sw_seq ?_
      refine sw_region_lex _ [] [(0, 2), (1, 0), (2, 1), (3, 1), (5, 1), (6, 1), (4, 2), (7, 2), (8, 0), (9, 0), (10, 0)] (by kernel_rfl) (by kernel_rfl) (fun _ _ _ h => h) (fun _ h => h) (fun _ h => h.drawn _) ?_
      refine lw_call_pure rfl (callsTo Tryd.func13 rfl (by kernel_rfl) rfl) rfl (fun w hm => awake_any w (hK.mem0 hm)) ?_   -- 41
      refine lw_pure rfl (val_move rfl) rfl ?_   -- 42
      refine lwg_held rfl (wg rfl rfl) (val_load_all 1 rfl rfl Tryd.isAgg30 Tryd.sizeOf30 (by simp [hh])) rfl ?_   -- 43
      refine lwg_held rfl (wg rfl rfl) (val_load_all 0 rfl rfl Tryd.isAgg31 Tryd.sizeOf31 (by simp [hb])) rfl ?_   -- 44
      refine lwg_held rfl (wg rfl rfl) (val_load_all 1 rfl rfl Tryd.isAgg30 Tryd.sizeOf30 (by simp [hh])) rfl ?_   -- 46
      refine lwg_held rfl (wg rfl rfl) (val_load_all 0 rfl rfl Tryd.isAgg31 Tryd.sizeOf31 (by simp [hb])) rfl ?_   -- 47
      refine lwg_call_pure rfl (wg rfl rfl) (callsTo Tryd.func17 rfl (by kernel_rfl) rfl) rfl (fun w hm => comp_any h bl hh hb w (hK.mem0 hm)) ?_   -- 45
      refine lwg_call_pure rfl (wg rfl rfl) (callsTo Tryd.func18 rfl (by kernel_rfl) rfl) rfl (fun w hm => docCompress_any h bl hh hb w) ?_   -- 48
      refine lwg_pure rfl (wg rfl rfl) ((val_eql_u32s rfl rfl Tryd.eqGuardType30 Tryd.underlying30 Tryd.underlying29 Tryd.sizeOf29 Tryd.isAgg29 (by rw [compress_len, hh]) (by rw [compress_len, hh])).to (congrArg Value.bool (show _ = true by simp))) rfl ?_   -- 49
      refine lw_pure rfl (val_pick_true rfl rfl) rfl ?_   -- 50
      refine lw_pure rfl (val_assign rfl) rfl ?_   -- 4
      refine lw_nil (into ?_)
      refine sw_ret (fun w hm => ?_)
      try dsimp only [thenP, blockP, Nat.beq, cond]
      exact ret_one _ rfl rfl ⟨rfl, hm.forgetAll⟩
end Go.Proofs.YtiagaoeaploijaaDoor
