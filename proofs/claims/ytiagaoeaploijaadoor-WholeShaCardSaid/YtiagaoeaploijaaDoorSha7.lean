import Derived.Test.YtiagaoeaploijaaDoorSha6
import Derived.Test.YtiagaoeaploijaaDoorProg
namespace Go.Proofs.YtiagaoeaploijaaDoor
open Go.Sx Go.Ps
theorem shaPieces_any (a : Option Addr) (m c : Nat) (p : List UInt8) (hpm : p.length = m) (hc : m ≤ c) (hl : m ≤ 140737488355328) (a2 : Option Addr) (mc c2 : Nat) (q : List Int) (hqm : q.length = mc) (hl2 : mc ≤ 9223372036854775807) (hin : ∀ z ∈ q, -9223372036854775808 ≤ z ∧ z ≤ 9223372036854775807) (w : World) (hK : KW w) (hr : Rd w a (p.map vU8)) (hr2 : Rd w a2 (q.map vInt)) : Calls Tryd.prog 7 #[.slice a m c, .slice a2 mc c2] w fun e w' => ∃ v, e = .returned v ∧ v = .bool true ∧ Mem w [] [] w' := by
  refine calls_of_sw (vs := [.slice a m c, .slice a2 mc c2]) Tryd.func7 rfl Tryd.ntmps7 rfl (SW.begin ?_)
  refine sw_seq ?_
  refine sw_region ?_
  refine ow_val (val_assign rfl) rfl ?_   -- 4
  refine ow_nil (into ?_)
  refine sw_seq ?_
  refine sw_seq ?_
  refine sw_region ?_
  refine ow_call_pure (callsTo Tryd.func13 rfl (by kernel_rfl) rfl) rfl (fun w hm => awake_any w (hK.mem0 hm)) ?_   -- 10
  refine ow_val (val_not rfl) rfl ?_   -- 11
  refine ow_nil (into ?_)
  refine sw_false rfl rfl ?_
  refine sw_skip (into ?_)
  refine sw_seq ?_
  refine sw_region ?_
  refine ow_call_blk (fun b => .pointer (some ⟨b, 0, none⟩)) (callsTo Tryd.func26 rfl (by kernel_rfl) rfl) rfl (fun w hm => newS_any w) (fun b12 hb12 => ?_)   -- 12
  refine ow_val (val_assign rfl) rfl ?_   -- 5
  refine ow_nil (into ?_)
  refine sw_seq ?_
  refine sw_region ?_
  refine ow_val (val_assign rfl) rfl ?_   -- 6
  refine ow_nil (into ?_)
  refine sw_seq ?_
  refine sw_seq ?_
  refine sw_region ?_
  refine ow_val (val_move rfl) rfl ?_   -- 13
  refine ow_val (val_len rfl Tryd.underlying41) rfl ?_   -- 14
  refine ow_val (val_move rfl) rfl ?_   -- 15
  refine ow_nil (into ?_)
  refine sw_block ?_
  refine sw_loop (σ := Nat × Nat × Option (List UInt8)) (fun x => x.1 ≤ mc ∧ x.2.1 ≤ m ∧ txt x.2.2 = p.take x.2.1) (fun x => [(15, vInt (x.1 : Int)), (14, vInt (mc : Int)), (13, .slice a2 mc c2), (6, vInt (x.2.1 : Int)), (0, .slice a m c), (5, .pointer (some ⟨b12, 0, none⟩))]) (fun x => Mem w [] [some (b12, blk (shCells (stc x.2.2)) 52)]) (fun x => mc - x.1) (0, 0, none) ⟨Nat.zero_le _, Nat.zero_le _, rfl⟩ ⟨rfl, rfl, rfl, rfl, rfl, rfl, trivial⟩ (fun w hm => hm) ?_
  rintro ⟨i, done, o⟩ ⟨hi, hd, ho⟩
  simp only at hi hd ho ⊢
  refine sw_seq ?_
  refine sw_region ?_
  refine ow_val (val_lss_int rfl rfl) rfl ?_   -- 16
  refine ow_nil (into ?_)
  refine sw_seq ?_
  refine sw_if rfl (fun hc1 => ?_) (fun hc1 => ?_)
  · -- then
    refine sw_skip (into ?_)
    refine sw_seq ?_
    refine sw_block ?_
    refine sw_seq ?_
    refine sw_region ?_
    obtain ⟨bq, oq, rfl⟩ := hr2.addr (by simp; omega)
    obtain ⟨ci, hci⟩ : ∃ ci, q.getD i default = ci := ⟨_, rfl⟩
    have hcb : -9223372036854775808 ≤ ci ∧ ci ≤ 9223372036854775807 := by
      have h1 : i < q.length := by omega
      have h2 : q.getD i default = q[i] := by simp [List.getD_eq_getElem?_getD, h1]
      rw [← hci, h2]; exact hin _ (List.getElem_mem _)
    refine ow_val (val_indexAddr_slice (i) (oq + i) rfl rfl Tryd.underlying41 Tryd.sizeOf3 (by omega) (by omega) (by omega)) rfl ?_
    refine ow_val ((val_load rfl Tryd.isAgg3 (fun w' hm => Rd.get (p := q) (k := i) (hr2.mem hm) (by omega) (by omega))).to (v' := vInt ci) (congrArg vInt hci)) rfl ?_   -- 18
    refine ow_val (val_assign rfl) rfl ?_   -- 8
    refine ow_nil (into ?_)
    refine sw_seq ?_
    refine sw_region ?_
    refine ow_val (val_assign rfl) rfl ?_   -- 9
    refine ow_nil (into ?_)
    refine sw_join (σ := Nat) (fun k => k ≤ m - done) (fun k => [(9, vInt (k : Int)), (8, vInt ci), (15, vInt (i : Int)), (14, vInt (mc : Int)), (13, .slice (some ⟨bq, oq, none⟩) mc c2), (6, vInt (done : Int)), (0, .slice a m c), (5, .pointer (some ⟨b12, 0, none⟩))]) (fun _ => Mem w [] [some (b12, blk (shCells (stc o)) 52)]) ?_ (fun k hk => ?_)
    · -- part
      refine sw_seq ?_
      refine sw_region ?_
      refine ow_val (val_move rfl) rfl ?_   -- 19
      refine ow_val (val_gtr_int rfl rfl) rfl ?_   -- 20
      refine ow_nil (into ?_)
      refine sw_if rfl (fun hc2 => ?_) (fun hc2 => ?_)
      · -- then
        refine sw_region ?_
        refine ow_val (val_move rfl) rfl ?_   -- 21
        refine ow_val (val_move rfl) rfl ?_   -- 22
        refine ow_val (val_len rfl Tryd.underlying22) rfl ?_   -- 23
        refine ow_val (val_move rfl) rfl ?_   -- 24
        refine ow_val (val_sub_int ((m - done : Nat) : Int) rfl rfl (by omega) (by omega)) rfl ?_   -- 25
        refine ow_val ((val_min rfl rfl).to (v' := vInt ((min ci.toNat (m - done) : Nat) : Int)) (congrArg vInt (by omega))) rfl ?_   -- 26
        refine ow_val (val_assign rfl) rfl ?_   -- 9
        exact ow_nil (fun w hm => ⟨min ci.toNat (m - done), (by omega), ⟨rfl, rfl, rfl, rfl, rfl, rfl, rfl, rfl, trivial⟩, hm⟩)
      · -- else
        exact sw_skip (fun w hm => ⟨0, (by omega), ⟨rfl, rfl, rfl, rfl, rfl, rfl, rfl, rfl, trivial⟩, hm⟩)
    · -- rest
      refine sw_seq ?_
      refine sw_region ?_
      refine ow_val (val_move rfl) rfl ?_   -- 27
      refine ow_val (val_move rfl) rfl ?_   -- 28
      refine ow_val (val_move rfl) rfl ?_   -- 29
      refine ow_val (val_move rfl) rfl ?_   -- 30
      refine ow_val (val_move rfl) rfl ?_   -- 31
      refine ow_val (val_add_int ((done + k : Nat) : Int) rfl rfl (by omega) (by omega)) rfl ?_   -- 32
      refine ow_val (val_slice_cut done (done + k) rfl rfl rfl Tryd.underlying22 Tryd.sizeOf5 rfl rfl (by omega) (by omega)) rfl ?_   -- 33
      refine ow_call_blk (fun b => .slice (some ⟨b, 0, none⟩) (done + k - done) (done + k - done)) (callsTo Tryd.func15 rfl (by kernel_rfl) rfl) rfl (fun w hm => twin_any _ _ _ ((p.drop done).take k) (by simp; omega) (by omega) w (((hr.mem hm).cut (by omega)).take1 k)) (fun b34 hb34 => ?_)   -- 34
      refine ow_call_turn 1 rfl (callsTo Tryd.func27 rfl (by kernel_rfl) rfl) rfl (fun w hm => writeS_any b12 o _ _ _ ((p.drop done).take k) (by simp; omega) w (hm.at (i := 1) rfl) (hK.mem0 hm) (by have := hK.pos; simp only [List.mem_singleton]; omega) (Rd.blk (hm.at (i := 0) rfl)) (fun _ b' o' e => by simp only [Option.some.injEq, Addr.mk.injEq, and_true] at e; rw [← e.1]; simpa using hm.ne (i := 0) (j := 1) rfl rfl (by omega)) (by omega) (by omega)) ?_   -- 35
      refine ow_nil (into ?_)
      refine sw_join (σ := Nat × Option (List UInt8)) (fun x => x.1 ≤ m ∧ txt x.2 = p.take x.1) (fun x => [(8, vInt ci), (15, vInt (i : Int)), (14, vInt (mc : Int)), (13, .slice (some ⟨bq, oq, none⟩) mc c2), (6, vInt (x.1 : Int)), (0, .slice a m c), (5, .pointer (some ⟨b12, 0, none⟩))]) (fun x => Mem w [] [some (b12, blk (shCells (stc x.2)) 52)]) ?_ ?_
      · -- part
        refine sw_region ?_
        refine ow_val (val_move rfl) rfl ?_   -- 36
        refine ow_val (val_move rfl) rfl ?_   -- 37
        refine ow_val (val_add_int ((done + k : Nat) : Int) rfl rfl (by omega) (by omega)) rfl ?_   -- 38
        refine ow_val (val_assign rfl) rfl ?_   -- 6
        exact ow_nil (fun w hm => ⟨(done + k, _), ⟨(by dsimp only; omega), (by show txt o ++ _ = _; rw [ho]; exact List.take_add.symm)⟩, ⟨rfl, rfl, rfl, rfl, rfl, rfl, rfl, trivial⟩, hm.forget⟩)
      · -- rest
        rintro ⟨d, o'⟩ ⟨hd', ho'⟩
        simp only at hd' ho' ⊢
        refine sw_seq ?_
        by_cases hev : ci.tmod 2 = 0
        · -- yes
          refine sw_region_lex _ [] [(0, 0), (1, 0), (2, 0), (3, 0), (4, 0), (6, 0), (7, 0), (8, 0), (5, 2), (9, 2), (10, 0), (11, 0)] (by kernel_rfl) (by kernel_rfl) (fun _ _ _ h => h) (fun _ h => h) (fun _ h => h.drawn _) ?_
          refine lw_pure rfl (val_move rfl) rfl ?_   -- 39
          refine lw_pure rfl (val_rem_int rfl rfl (by decide)) rfl ?_   -- 40
          refine lw_pure rfl ((val_eql_int rfl rfl).to (congrArg Value.bool (decide_eq_true (hev)))) rfl ?_   -- 41
          refine lw_pure rfl (val_move rfl) rfl ?_   -- 42
          refine lwg_pure rfl (wg rfl rfl) (val_move rfl) rfl ?_   -- 43
          refine lwg_pure rfl (wg rfl rfl) (val_move rfl) rfl ?_   -- 45
          refine lwg_pure rfl (wg rfl rfl) (val_move rfl) rfl ?_   -- 46
          refine lwg_pure rfl (wg rfl rfl) (val_slice_hi d rfl rfl Tryd.underlying22 Tryd.sizeOf5 rfl (by omega)) rfl ?_   -- 47
          refine lwg_call_pure (v := .agg ((shaOf (p.take d)).map vU8).toArray) rfl (wg rfl rfl) (callsTo Tryd.func28 rfl (by kernel_rfl) rfl) rfl (fun w hm => (by rw [← ho']; exact sumS_any b12 o' w (hm.at (i := 0) rfl) (hK.mem0 hm))) ?_   -- 44
          refine lwg_call_pure rfl (wg rfl rfl) (callsTo Tryd.func16 rfl (by kernel_rfl) rfl) rfl (fun w hm => refSum_any _ _ _ (p.take d) (by simp; omega) (by omega) (by omega) w ((hr.mem hm).take1 d)) ?_   -- 48
          refine lwg_pure rfl (wg rfl rfl) ((val_neq_u8s rfl rfl Tryd.eqGuardType24 Tryd.underlying24 Tryd.underlying5 Tryd.sizeOf5 Tryd.isAgg5 (hash_len _) (hash_len _)).to (congrArg Value.bool (show _ = false by simp [txt]))) rfl ?_   -- 49
          refine lw_pure rfl (val_pick_true rfl rfl) rfl ?_   -- 50
          refine lw_nil (into ?_)
          refine sw_false rfl rfl ?_
          refine sw_skip (into ?_)
          refine sw_region ?_
          refine ow_val (val_add_int ((i + 1 : Nat) : Int) rfl rfl (by omega) (by omega)) rfl ?_   -- 51
          refine ow_val (val_move rfl) rfl ?_   -- 15
          exact ow_nil (fun w hm => ⟨(i + 1, d, o'), ⟨(by dsimp only; omega), hd', ho'⟩, (by dsimp only; omega), ⟨rfl, rfl, rfl, rfl, rfl, rfl, trivial⟩, hm⟩)
        · -- no
          refine sw_region_lex _ [] [(0, 0), (1, 0), (2, 0), (3, 0), (4, 0), (5, 0), (6, 0), (7, 0), (8, 0), (9, 0), (10, 0), (11, 0)] (by kernel_rfl) (by kernel_rfl) (fun _ _ _ h => h) (fun _ h => h) (fun _ h => h.drawn _) ?_
          refine lw_pure rfl (val_move rfl) rfl ?_   -- 39
          refine lw_pure rfl (val_rem_int rfl rfl (by decide)) rfl ?_   -- 40
          refine lw_pure rfl ((val_eql_int rfl rfl).to (congrArg Value.bool (decide_eq_false (hev)))) rfl ?_   -- 41
          refine lw_pure rfl (val_move rfl) rfl ?_   -- 42
          first | refine lwg_no rfl (ng1 rfl rfl) rfl ?_ | refine lwg_no rfl (ng2 rfl rfl) rfl ?_   -- 43
          first | refine lwg_no rfl (ng1 rfl rfl) rfl ?_ | refine lwg_no rfl (ng2 rfl rfl) rfl ?_   -- 44
          first | refine lwg_no rfl (ng1 rfl rfl) rfl ?_ | refine lwg_no rfl (ng2 rfl rfl) rfl ?_   -- 45
          first | refine lwg_no rfl (ng1 rfl rfl) rfl ?_ | refine lwg_no rfl (ng2 rfl rfl) rfl ?_   -- 46
          first | refine lwg_no rfl (ng1 rfl rfl) rfl ?_ | refine lwg_no rfl (ng2 rfl rfl) rfl ?_   -- 47
          first | refine lwg_no rfl (ng1 rfl rfl) rfl ?_ | refine lwg_no rfl (ng2 rfl rfl) rfl ?_   -- 48
          first | refine lwg_no rfl (ng1 rfl rfl) rfl ?_ | refine lwg_no rfl (ng2 rfl rfl) rfl ?_   -- 49
          refine lw_pure rfl (val_pick_false rfl rfl) rfl ?_   -- 50
          refine lw_nil (into ?_)
          refine sw_false rfl rfl ?_
          refine sw_skip (into ?_)
          refine sw_region ?_
          refine ow_val (val_add_int ((i + 1 : Nat) : Int) rfl rfl (by omega) (by omega)) rfl ?_   -- 51
          refine ow_val (val_move rfl) rfl ?_   -- 15
          exact ow_nil (fun w hm => ⟨(i + 1, d, o'), ⟨(by dsimp only; omega), hd', ho'⟩, (by dsimp only; omega), ⟨rfl, rfl, rfl, rfl, rfl, rfl, trivial⟩, hm⟩)
  · -- else
    refine sw_exit (into ?_)
    refine sw_join (σ := Option (List UInt8)) (fun o => txt o = p) (fun _ => [(0, .slice a m c), (5, .pointer (some ⟨b12, 0, none⟩))]) (fun x => Mem w [] [some (b12, blk (shCells (stc x)) 52)]) ?_ (fun o' ho' => ?_)
    · -- part
      refine sw_region ?_
      refine ow_val (val_move rfl) rfl ?_   -- 52
      refine ow_val (val_move rfl) rfl ?_   -- 53
      refine ow_val (val_move rfl) rfl ?_   -- 54
      refine ow_val (val_slice_from done rfl rfl Tryd.underlying22 Tryd.sizeOf5 rfl (by omega) hc) rfl ?_   -- 55
      refine ow_call_blk (fun b => .slice (some ⟨b, 0, none⟩) (m - done) (m - done)) (callsTo Tryd.func15 rfl (by kernel_rfl) rfl) rfl (fun w hm => twin_any _ _ _ (p.drop done) (by simp [hpm]) (by omega) w ((hr.mem hm).cut (by omega))) (fun b56 hb56 => ?_)   -- 56
      refine ow_call_turn 1 rfl (callsTo Tryd.func27 rfl (by kernel_rfl) rfl) rfl (fun w hm => writeS_any b12 o _ _ _ (p.drop done) (by simp [hpm]) w (hm.at (i := 1) rfl) (hK.mem0 hm) (by have := hK.pos; simp only [List.mem_singleton]; omega) (Rd.blk (hm.at (i := 0) rfl)) (fun _ b' o' e => by simp only [Option.some.injEq, Addr.mk.injEq, and_true] at e; rw [← e.1]; simpa using hm.ne (i := 0) (j := 1) rfl rfl (by omega)) (by omega) (by omega)) ?_   -- 57
      exact ow_nil (fun w hm => ⟨_, (by show txt o ++ _ = _; rw [ho]; exact List.take_append_drop _ _), ⟨rfl, rfl, trivial⟩, hm.forget⟩)
    · -- rest
      refine sw_seq ?_
      refine sw_region ?_
      refine ow_val (val_move rfl) rfl ?_   -- 58
      refine ow_call_pure (v := .agg ((shaOf p).map vU8).toArray) (callsTo Tryd.func28 rfl (by kernel_rfl) rfl) rfl (fun w hm => (by rw [← ho']; exact sumS_any b12 o' w (hm.at (i := 0) rfl) (hK.mem0 hm))) ?_   -- 59
      refine ow_val (val_move rfl) rfl ?_   -- 60
      refine ow_call_pure (callsTo Tryd.func16 rfl (by kernel_rfl) rfl) rfl (fun w hm => refSum_any _ _ _ p hpm (by omega) (by omega) w (hr.mem hm)) ?_   -- 61
      refine ow_val ((val_eql_u8s rfl rfl Tryd.eqGuardType24 Tryd.underlying24 Tryd.underlying5 Tryd.sizeOf5 Tryd.isAgg5 (hash_len _) (hash_len _)).to (congrArg Value.bool (show _ = true by simp [txt]))) rfl ?_   -- 62
      refine ow_val (val_move rfl) rfl ?_   -- 63
      refine ow_guard_yes rfl rfl rfl ?_
      refine ow_val (val_move rfl) rfl ?_   -- 64
      refine ow_guard_yes rfl rfl rfl ?_
      refine ow_call_pure (v := .agg ((shaOf p).map vU8).toArray) (callsTo Tryd.func28 rfl (by kernel_rfl) rfl) rfl (fun w hm => (by rw [← ho']; exact sumS_any b12 o' w (hm.at (i := 0) rfl) (hK.mem0 hm))) ?_   -- 65
      refine ow_guard_yes rfl rfl rfl ?_
      refine ow_val (val_move rfl) rfl ?_   -- 66
      refine ow_guard_yes rfl rfl rfl ?_
      refine ow_call_blk (fun b => .slice (some ⟨b, 0, none⟩) m m) (callsTo Tryd.func15 rfl (by kernel_rfl) rfl) rfl (fun w hm => twin_any _ _ _ p hpm (by omega) w (hr.mem hm)) (fun b67 hb67 => ?_)   -- 67
      refine ow_guard_yes rfl rfl rfl ?_
      refine ow_call_pure (callsTo Tryd.func14 rfl (by kernel_rfl) rfl) rfl (fun w hm => sum256h_any _ _ _ p hpm w (hK.mem0 hm) (Rd.blk (hm.at (i := 0) rfl)) (by omega) (by omega)) ?_   -- 68
      refine ow_guard_yes rfl rfl rfl ?_
      refine ow_val ((val_eql_u8s rfl rfl Tryd.eqGuardType24 Tryd.underlying24 Tryd.underlying5 Tryd.sizeOf5 Tryd.isAgg5 (hash_len _) (hash_len _)).to (congrArg Value.bool (show _ = true by simp [txt]))) rfl ?_   -- 69
      refine ow_val (val_pick_true rfl rfl) rfl ?_   -- 70
      refine ow_val (val_assign rfl) rfl ?_   -- 4
      refine ow_nil (into ?_)
      exact sw_ret (fun w hm => ret_one _ rfl rfl ⟨rfl, hm.forgetAll⟩)
end Go.Proofs.YtiagaoeaploijaaDoor
