import Derived.Test.YtiagaoeaploijaaDoorSha8
import Derived.Test.YtiagaoeaploijaaDoorProg
namespace Go.Proofs.YtiagaoeaploijaaDoor
open Go.Sx Go.Ps
set_option maxRecDepth 10000 in
theorem shaCopies_any (a0 : Option Addr) (m0 c0 : Nat) (p : List UInt8) (hpm0 : p.length = m0) (hc0 : m0 ≤ c0) (hl0 : m0 ≤ 1048576) (a1 : Option Addr) (m1 c1 : Nat) (q : List UInt8) (hpm1 : q.length = m1) (hc1 : m1 ≤ c1) (hl1 : m1 ≤ 1048576) (a2 : Option Addr) (m2 c2 : Nat) (r : List UInt8) (hpm2 : r.length = m2) (hc2 : m2 ≤ c2) (hl2 : m2 ≤ 1048576) (w : World) (hK : KW w) (hr0 : Rd w a0 (p.map vU8)) (hr1 : Rd w a1 (q.map vU8)) (hr2 : Rd w a2 (r.map vU8)) : Calls Tryd.prog 10 #[.slice a0 m0 c0, .slice a1 m1 c1, .slice a2 m2 c2] w fun e w' => ∃ v, e = .returned v ∧ v = .bool true ∧ Mem w [] [] w' := by
  obtain ⟨ti, hi, hz, hsz, hby⟩ := info_parts iu8
  refine calls_of_sw (vs := [.slice a0 m0 c0, .slice a1 m1 c1, .slice a2 m2 c2]) Tryd.func10 rfl Tryd.ntmps10 rfl (SW.begin ?_)
  refine sw_seq ?_
  refine sw_region ?_
  refine ow_val (val_assign rfl) rfl ?_   -- 6
  refine ow_nil (into ?_)
  refine sw_seq ?_
  refine sw_seq ?_
  refine sw_region ?_
  refine ow_call_pure (callsTo Tryd.func13 rfl (by kernel_rfl) rfl) rfl (fun w hm => awake_any w (hK.mem0 hm)) ?_   -- 12
  refine ow_val (val_not rfl) rfl ?_   -- 13
  refine ow_nil (into ?_)
  refine sw_false rfl rfl ?_
  refine sw_skip (into ?_)
  refine sw_seq ?_
  refine sw_region ?_
  refine ow_call_blk (fun b => .pointer (some ⟨b, 0, none⟩)) (callsTo Tryd.func26 rfl (by kernel_rfl) rfl) rfl (fun w hm => newS_any w) (fun b14 hb14 => ?_)   -- 14
  refine ow_val (val_assign rfl) rfl ?_   -- 7
  refine ow_nil (into ?_)
  refine sw_seq ?_
  refine sw_region ?_
  refine ow_val (val_move rfl) rfl ?_   -- 15
  refine ow_val (val_move rfl) rfl ?_   -- 16
  refine ow_call_blk (fun b => .slice (some ⟨b, 0, none⟩) m0 m0) (callsTo Tryd.func15 rfl (by kernel_rfl) rfl) rfl (fun w hm => twin_any _ _ _ p hpm0 (by omega) w (hr0.mem hm)) (fun b17 hb17 => ?_)   -- 17
  refine ow_call_turn 1 rfl (callsTo Tryd.func27 rfl (by kernel_rfl) rfl) rfl (fun w hm => writeS_any b14 none _ _ _ p hpm0 w (hm.at (i := 1) rfl) (hK.mem0 hm) (by have := hK.pos; simp only [List.mem_singleton]; omega) (Rd.blk (hm.at (i := 0) rfl)) (fun _ b' o' e => by simp only [Option.some.injEq, Addr.mk.injEq, and_true] at e; rw [← e.1]; simpa using hm.ne (i := 0) (j := 1) rfl rfl (by omega)) (by omega) (by omega)) ?_   -- 18
  refine ow_nil (into ?_)
  refine sw_seq ?_
  refine sw_region ?_
  refine ow_val (val_move rfl) rfl ?_   -- 19
  refine ow_call_blk (fun b => .pointer (some ⟨b, 0, none⟩)) (callsTo Tryd.func31 rfl (by kernel_rfl) rfl) rfl (fun w hm => copyS_any b14 (some p) w (hm.at (i := 1) rfl)) (fun b20 hb20 => ?_)   -- 20
  refine ow_val (val_assign rfl) rfl ?_   -- 8
  refine ow_nil (into ?_)
  refine sw_seq ?_
  refine sw_seq ?_
  refine sw_region ?_
  refine ow_val (val_move rfl) rfl ?_   -- 21
  refine ow_val (val_eql_nilptr Tryd.underlying42 rfl rfl) rfl ?_   -- 22
  refine ow_nil (into ?_)
  refine sw_false rfl rfl ?_
  refine sw_skip (into ?_)
  refine sw_seq ?_
  refine sw_region ?_
  refine ow_val (val_move rfl) rfl ?_   -- 23
  refine ow_val (val_move rfl) rfl ?_   -- 24
  refine ow_call_blk (fun b => .slice (some ⟨b, 0, none⟩) m1 m1) (callsTo Tryd.func15 rfl (by kernel_rfl) rfl) rfl (fun w hm => twin_any _ _ _ q hpm1 (by omega) w (hr1.mem hm)) (fun b25 hb25 => ?_)   -- 25
  refine ow_call_turn 3 rfl (callsTo Tryd.func27 rfl (by kernel_rfl) rfl) rfl (fun w hm => writeS_any b14 (some p) _ _ _ q hpm1 w (hm.at (i := 3) rfl) (hK.mem0 hm) (by have := hK.pos; simp only [List.mem_singleton]; omega) (Rd.blk (hm.at (i := 0) rfl)) (fun _ b' o' e => by simp only [Option.some.injEq, Addr.mk.injEq, and_true] at e; rw [← e.1]; simpa using hm.ne (i := 0) (j := 3) rfl rfl (by omega)) (by omega) (by omega)) ?_   -- 26
  refine ow_nil (into ?_)
  refine sw_seq ?_
  refine sw_region ?_
  refine ow_val (val_move rfl) rfl ?_   -- 27
  refine ow_call_blk (fun b => .pointer (some ⟨b, 0, none⟩)) (callsTo Tryd.func31 rfl (by kernel_rfl) rfl) rfl (fun w hm => copyS_any b14 (some (p ++ q)) w (hm.at (i := 3) rfl)) (fun b28 hb28 => ?_)   -- 28
  refine ow_val (val_assign rfl) rfl ?_   -- 9
  refine ow_nil (into ?_)
  refine sw_seq ?_
  refine sw_seq ?_
  refine sw_region ?_
  refine ow_val (val_move rfl) rfl ?_   -- 29
  refine ow_val (val_eql_nilptr Tryd.underlying42 rfl rfl) rfl ?_   -- 30
  refine ow_nil (into ?_)
  refine sw_false rfl rfl ?_
  refine sw_skip (into ?_)
  refine sw_seq ?_
  refine sw_region ?_
  refine ow_val (val_move rfl) rfl ?_   -- 31
  refine ow_val (val_move rfl) rfl ?_   -- 32
  refine ow_call_blk (fun b => .slice (some ⟨b, 0, none⟩) m2 m2) (callsTo Tryd.func15 rfl (by kernel_rfl) rfl) rfl (fun w hm => twin_any _ _ _ r hpm2 (by omega) w (hr2.mem hm)) (fun b33 hb33 => ?_)   -- 33
  refine ow_call_turn 3 rfl (callsTo Tryd.func27 rfl (by kernel_rfl) rfl) rfl (fun w hm => writeS_any b20 (some p) _ _ _ r hpm2 w (hm.at (i := 3) rfl) (hK.mem0 hm) (by have := hK.pos; simp only [List.mem_singleton]; omega) (Rd.blk (hm.at (i := 0) rfl)) (fun _ b' o' e => by simp only [Option.some.injEq, Addr.mk.injEq, and_true] at e; rw [← e.1]; simpa using hm.ne (i := 0) (j := 3) rfl rfl (by omega)) (by omega) (by omega)) ?_   -- 34
  refine ow_nil (into ?_)
  refine sw_seq ?_
  refine sw_region ?_
  refine ow_val (val_move rfl) rfl ?_   -- 35
  refine ow_call_blk (fun b => .slice (some ⟨b, 0, none⟩) m0 m0) (callsTo Tryd.func15 rfl (by kernel_rfl) rfl) rfl (fun w hm => twin_any _ _ _ p hpm0 (by omega) w (hr0.mem hm)) (fun b36 hb36 => ?_)   -- 36
  refine ow_val (val_move rfl) rfl ?_   -- 37
  refine ow_append' (k := m0 + m1) (acts_append (size := 1) (bytes := 1) 0 rfl rfl rfl (RowE.full (by rw [List.length_map, Nat.mul_one]; exact hpm0) (by omega)) rfl Tryd.underlying22 hi hz hsz hby rfl (by decide) (fun w hm => (hr1.mem hm)) (by rw [List.length_map, Nat.mul_one]; exact hpm1) (one_u8s _) (by omega) (by omega)) rfl (fun a38 c38 e38 hr38 => ?_)   -- 38
  have hr38' : RowE (.slice a38 (m0 + m1) c38) 5 1 (m0 + m1) (((p ++ q) : List UInt8).map vU8) e38 := hr38.cong rfl rfl (by rw [List.map_append (l₁ := p)])
  have hc38 := hr38'.le
  refine ow_val (val_move rfl) rfl ?_   -- 39
  refine ow_call_blk (fun b => .slice (some ⟨b, 0, none⟩) m0 m0) (callsTo Tryd.func15 rfl (by kernel_rfl) rfl) rfl (fun w hm => twin_any _ _ _ p hpm0 (by omega) w (hr0.mem hm)) (fun b40 hb40 => ?_)   -- 40
  refine ow_val (val_move rfl) rfl ?_   -- 41
  refine ow_append' (k := m0 + m2) (acts_append (size := 1) (bytes := 1) 0 rfl rfl rfl (RowE.full (by rw [List.length_map, Nat.mul_one]; exact hpm0) (by omega)) rfl Tryd.underlying22 hi hz hsz hby rfl (by decide) (fun w hm => (hr2.mem hm)) (by rw [List.length_map, Nat.mul_one]; exact hpm2) (one_u8s _) (by omega) (by omega)) rfl (fun a42 c42 e42 hr42 => ?_)   -- 42
  have hr42' : RowE (.slice a42 (m0 + m2) c42) 5 1 (m0 + m2) (((p ++ r) : List UInt8).map vU8) e42 := hr42.cong rfl rfl (by rw [List.map_append (l₁ := p)])
  have hc42 := hr42'.le
  refine ow_val (val_assign rfl) rfl ?_   -- 10
  refine ow_val (val_assign rfl) rfl ?_   -- 11
  refine ow_nil (into ?_)
  refine sw_seq ?_
  refine sw_seq ?_
  refine sw_region ?_
  refine ow_val (val_move rfl) rfl ?_   -- 43
  refine ow_call_pure (callsTo Tryd.func28 rfl (by kernel_rfl) rfl) rfl (fun w hm => sumS_any b14 (some (p ++ q)) w (hm.at (i := 7) rfl) (hK.mem0 hm)) ?_   -- 44
  refine ow_val (val_move rfl) rfl ?_   -- 45
  refine ow_call_pure (callsTo Tryd.func16 rfl (by kernel_rfl) rfl) rfl (fun w hm => refSum_any _ _ _ (p ++ q) (by simp only [List.length_append]; omega) (by omega) (by omega) w (hr38'.rdAt hm (i := 1) rfl)) ?_   -- 46
  refine ow_val ((val_neq_u8s rfl rfl Tryd.eqGuardType24 Tryd.underlying24 Tryd.underlying5 Tryd.sizeOf5 Tryd.isAgg5 (hash_len _) (hash_len _)).to (congrArg Value.bool (show _ = false by simp [txt]))) rfl ?_   -- 47
  refine ow_val (val_move rfl) rfl ?_   -- 48
  refine ow_guard_yes rfl rfl rfl ?_
  refine ow_val (val_move rfl) rfl ?_   -- 49
  refine ow_guard_yes rfl rfl rfl ?_
  refine ow_call_pure (callsTo Tryd.func28 rfl (by kernel_rfl) rfl) rfl (fun w hm => sumS_any b20 (some (p ++ r)) w (hm.at (i := 5) rfl) (hK.mem0 hm)) ?_   -- 50
  refine ow_guard_yes rfl rfl rfl ?_
  refine ow_val (val_move rfl) rfl ?_   -- 51
  refine ow_guard_yes rfl rfl rfl ?_
  refine ow_call_pure (callsTo Tryd.func16 rfl (by kernel_rfl) rfl) rfl (fun w hm => refSum_any _ _ _ (p ++ r) (by simp only [List.length_append]; omega) (by omega) (by omega) w (hr42'.rdAt hm (i := 0) rfl)) ?_   -- 52
  refine ow_guard_yes rfl rfl rfl ?_
  refine ow_val ((val_neq_u8s rfl rfl Tryd.eqGuardType24 Tryd.underlying24 Tryd.underlying5 Tryd.sizeOf5 Tryd.isAgg5 (hash_len _) (hash_len _)).to (congrArg Value.bool (show _ = false by simp [txt]))) rfl ?_   -- 53
  refine ow_val (val_pick_false rfl rfl) rfl ?_   -- 54
  refine ow_val (val_move rfl) rfl ?_   -- 55
  refine ow_guard_yes rfl rfl rfl ?_
  refine ow_val (val_move rfl) rfl ?_   -- 56
  refine ow_guard_yes rfl rfl rfl ?_
  refine ow_call_pure (callsTo Tryd.func28 rfl (by kernel_rfl) rfl) rfl (fun w hm => sumS_any b28 (some (p ++ q)) w (hm.at (i := 3) rfl) (hK.mem0 hm)) ?_   -- 57
  refine ow_guard_yes rfl rfl rfl ?_
  refine ow_val (val_move rfl) rfl ?_   -- 58
  refine ow_guard_yes rfl rfl rfl ?_
  refine ow_call_pure (callsTo Tryd.func16 rfl (by kernel_rfl) rfl) rfl (fun w hm => refSum_any _ _ _ (p ++ q) (by simp only [List.length_append]; omega) (by omega) (by omega) w (hr38'.rdAt hm (i := 1) rfl)) ?_   -- 59
  refine ow_guard_yes rfl rfl rfl ?_
  refine ow_val ((val_neq_u8s rfl rfl Tryd.eqGuardType24 Tryd.underlying24 Tryd.underlying5 Tryd.sizeOf5 Tryd.isAgg5 (hash_len _) (hash_len _)).to (congrArg Value.bool (show _ = false by simp [txt]))) rfl ?_   -- 60
  refine ow_val (val_pick_false rfl rfl) rfl ?_   -- 61
  refine ow_nil (into ?_)
  refine sw_false rfl rfl ?_
  refine sw_skip (into ?_)
  refine sw_seq ?_
  refine sw_region ?_
  refine ow_val (val_move rfl) rfl ?_   -- 62
  refine ow_val (val_move rfl) rfl ?_   -- 63
  refine ow_call_blk (fun b => .slice (some ⟨b, 0, none⟩) m2 m2) (callsTo Tryd.func15 rfl (by kernel_rfl) rfl) rfl (fun w hm => twin_any _ _ _ r hpm2 (by omega) w (hr2.mem hm)) (fun b64 hb64 => ?_)   -- 64
  refine ow_call_turn 4 rfl (callsTo Tryd.func27 rfl (by kernel_rfl) rfl) rfl (fun w hm => writeS_any b28 (some (p ++ q)) _ _ _ r hpm2 w (hm.at (i := 4) rfl) (hK.mem0 hm) (by have := hK.pos; simp only [List.mem_singleton]; omega) (Rd.blk (hm.at (i := 0) rfl)) (fun _ b' o' e => by simp only [Option.some.injEq, Addr.mk.injEq, and_true] at e; rw [← e.1]; simpa using hm.ne (i := 0) (j := 4) rfl rfl (by omega)) (by omega) (by omega)) ?_   -- 65
  refine ow_nil (into ?_)
  refine sw_seq ?_
  refine sw_region ?_
  refine ow_val (val_move rfl) rfl ?_   -- 66
  refine ow_val (val_move rfl) rfl ?_   -- 67
  refine ow_call_blk (fun b => .slice (some ⟨b, 0, none⟩) m0 m0) (callsTo Tryd.func15 rfl (by kernel_rfl) rfl) rfl (fun w hm => twin_any _ _ _ p hpm0 (by omega) w (hr0.mem hm)) (fun b68 hb68 => ?_)   -- 68
  refine ow_call_turn 9 rfl (callsTo Tryd.func27 rfl (by kernel_rfl) rfl) rfl (fun w hm => writeS_any b14 (some (p ++ q)) _ _ _ p hpm0 w (hm.at (i := 9) rfl) (hK.mem0 hm) (by have := hK.pos; simp only [List.mem_singleton]; omega) (Rd.blk (hm.at (i := 0) rfl)) (fun _ b' o' e => by simp only [Option.some.injEq, Addr.mk.injEq, and_true] at e; rw [← e.1]; simpa using hm.ne (i := 0) (j := 9) rfl rfl (by omega)) (by omega) (by omega)) ?_   -- 69
  refine ow_nil (into ?_)
  refine sw_seq ?_
  refine sw_region ?_
  refine ow_val (val_move rfl) rfl ?_   -- 70
  refine ow_call_pure (callsTo Tryd.func28 rfl (by kernel_rfl) rfl) rfl (fun w hm => sumS_any b28 (some ((p ++ q) ++ r)) w (hm.at (i := 5) rfl) (hK.mem0 hm)) ?_   -- 71
  refine ow_val (val_move rfl) rfl ?_   -- 72
  refine ow_val (val_move rfl) rfl ?_   -- 73
  refine ow_append2 (k := m0 + m1 + m2) (acts_append2 (size := 1) (bytes := 1) 3 rfl rfl rfl hr38' Tryd.underlying22 hi hz hsz hby rfl (by decide) (fun w hm => (hr2.mem hm)) (by rw [List.length_map, Nat.mul_one]; exact hpm2) (one_u8s _) (by omega) (by omega)) rfl (fun a74 c74 x74 y74 hc74 hA74 hB74 => ?_)   -- 74
  rw [← List.map_append] at hA74
  refine ow_call_pure (callsTo Tryd.func16 rfl (by kernel_rfl) rfl) rfl (fun w hm => refSum_any _ _ _ ((p ++ q) ++ r) (by simp only [List.length_append]; omega) (by omega) (by omega) w (hA74 _ (hm.only (.cons_cons _ (.cons _ (.cons _ (.cons _ (.cons_cons _ (List.nil_sublist _))))))))) ?_   -- 75
  refine ow_val ((val_eql_u8s rfl rfl Tryd.eqGuardType24 Tryd.underlying24 Tryd.underlying5 Tryd.sizeOf5 Tryd.isAgg5 (hash_len _) (hash_len _)).to (congrArg Value.bool (show _ = true by simp [txt]))) rfl ?_   -- 76
  refine ow_val (val_move rfl) rfl ?_   -- 77
  refine ow_guard_yes rfl rfl rfl ?_
  refine ow_val (val_move rfl) rfl ?_   -- 78
  refine ow_guard_yes rfl rfl rfl ?_
  refine ow_call_pure (callsTo Tryd.func28 rfl (by kernel_rfl) rfl) rfl (fun w hm => sumS_any b14 (some ((p ++ q) ++ p)) w (hm.at (i := 10) rfl) (hK.mem0 hm)) ?_   -- 79
  refine ow_guard_yes rfl rfl rfl ?_
  refine ow_val (val_move rfl) rfl ?_   -- 80
  refine ow_guard_yes rfl rfl rfl ?_
  refine ow_call_blk (fun b => .slice (some ⟨b, 0, none⟩) (m0 + m1) (m0 + m1)) (callsTo Tryd.func15 rfl (by kernel_rfl) rfl) rfl (fun w hm => twin_any _ _ _ (p ++ q) (by simp only [List.length_append]; omega) (by omega) w (hB74 _ (hm.only (.cons_cons _ (.cons _ (.cons _ (.cons _ (.cons_cons _ (List.nil_sublist _))))))))) (fun b81 hb81 => ?_)   -- 81
  refine ow_guard_yes rfl rfl rfl ?_
  refine ow_val (val_move rfl) rfl ?_   -- 82
  refine ow_guard_yes rfl rfl rfl ?_
  refine ow_append' (k := m0 + m1 + m0) (acts_append (size := 1) (bytes := 1) 0 rfl rfl rfl (RowE.full (by rw [List.length_map, Nat.mul_one]; exact (by simp only [List.length_append]; omega)) (by omega)) rfl Tryd.underlying22 hi hz hsz hby rfl (by decide) (fun w hm => (hr0.mem hm)) (by rw [List.length_map, Nat.mul_one]; exact hpm0) (one_u8s _) (by omega) (by omega)) rfl (fun a83 c83 e83 hr83 => ?_)   -- 83
  have hr83' : RowE (.slice a83 (m0 + m1 + m0) c83) 5 1 (m0 + m1 + m0) ((((p ++ q) ++ p) : List UInt8).map vU8) e83 := hr83.cong rfl rfl (by rw [List.map_append (l₁ := (p ++ q))])
  have hc83 := hr83'.le
  refine ow_guard_yes rfl rfl rfl ?_
  refine ow_call_pure (callsTo Tryd.func16 rfl (by kernel_rfl) rfl) rfl (fun w hm => refSum_any _ _ _ ((p ++ q) ++ p) (by simp only [List.length_append]; omega) (by omega) (by omega) w (hr83'.rdAt hm (i := 0) rfl)) ?_   -- 84
  refine ow_guard_yes rfl rfl rfl ?_
  refine ow_val ((val_eql_u8s rfl rfl Tryd.eqGuardType24 Tryd.underlying24 Tryd.underlying5 Tryd.sizeOf5 Tryd.isAgg5 (hash_len _) (hash_len _)).to (congrArg Value.bool (show _ = true by simp [txt]))) rfl ?_   -- 85
  refine ow_val (val_pick_true rfl rfl) rfl ?_   -- 86
  refine ow_val (val_move rfl) rfl ?_   -- 87
  refine ow_guard_yes rfl rfl rfl ?_
  refine ow_val (val_move rfl) rfl ?_   -- 88
  refine ow_guard_yes rfl rfl rfl ?_
  refine ow_call_pure (callsTo Tryd.func28 rfl (by kernel_rfl) rfl) rfl (fun w hm => sumS_any b20 (some (p ++ r)) w (hm.at (i := 9) rfl) (hK.mem0 hm)) ?_   -- 89
  refine ow_guard_yes rfl rfl rfl ?_
  refine ow_val (val_move rfl) rfl ?_   -- 90
  refine ow_guard_yes rfl rfl rfl ?_
  refine ow_call_pure (callsTo Tryd.func16 rfl (by kernel_rfl) rfl) rfl (fun w hm => refSum_any _ _ _ (p ++ r) (by simp only [List.length_append]; omega) (by omega) (by omega) w (hr42'.rdAt hm (i := 4) rfl)) ?_   -- 91
  refine ow_guard_yes rfl rfl rfl ?_
  refine ow_val ((val_eql_u8s rfl rfl Tryd.eqGuardType24 Tryd.underlying24 Tryd.underlying5 Tryd.sizeOf5 Tryd.isAgg5 (hash_len _) (hash_len _)).to (congrArg Value.bool (show _ = true by simp [txt]))) rfl ?_   -- 92
  refine ow_val (val_pick_true rfl rfl) rfl ?_   -- 93
  refine ow_val (val_assign rfl) rfl ?_   -- 6
  refine ow_nil (into ?_)
  exact sw_ret (fun w hm => ret_one _ rfl rfl ⟨rfl, hm.forgetAll⟩)

theorem write_nil (a : Option Addr) (m c : Nat) (w : World) : Calls Tryd.prog 27 #[.pointer none, .slice a m c] w fun e w' => ∃ v, e = .returned v ∧ v = .tuple #[] ∧ Mem w [] [] w' := by
  refine calls_of_sw (vs := [.pointer none, .slice a m c]) Tryd.func27 rfl Tryd.ntmps27 rfl (SW.begin ?_)
  refine sw_seq ?_
  refine sw_seq ?_
  refine sw_region ?_
  refine ow_val (val_move rfl) rfl ?_   -- 6
  refine ow_val (val_eql_nilptr Tryd.underlying42 rfl rfl) rfl ?_   -- 7
  refine ow_nil (into ?_)
  refine sw_true rfl rfl ?_
  refine sw_ret (fun w hm => ?_)
  try dsimp only [thenP, blockP, Nat.beq, cond]
  exact ret_none rfl ⟨rfl, hm⟩

theorem sum_nil (w : World) : Calls Tryd.prog 28 #[.pointer none] w fun e w' => ∃ v, e = .returned v ∧ v = .agg ((List.replicate 32 (0 : UInt8)).map vU8).toArray ∧ Mem w [] [] w' := by
  refine calls_of_sw (vs := [.pointer none]) Tryd.func28 rfl Tryd.ntmps28 rfl (SW.begin ?_)
  refine sw_seq ?_
  refine sw_region ?_
  refine ow_new (acts_alloc z24) rfl (fun b2 hb2 => ?_)   -- 2
  refine ow_nil (into ?_)
  refine sw_seq ?_
  refine sw_region ?_
  refine ow_new (acts_alloc z24) rfl (fun b3 hb3 => ?_)   -- 3
  refine ow_nil (into ?_)
  refine sw_seq ?_
  refine sw_seq ?_
  refine sw_region ?_
  refine ow_val (val_move rfl) rfl ?_   -- 8
  refine ow_val (val_eql_nilptr Tryd.underlying42 rfl rfl) rfl ?_   -- 9
  refine ow_nil (into ?_)
  refine sw_true rfl rfl ?_
  refine sw_seq ?_
  refine sw_region ?_
  refine ow_val (val_load_all 0 rfl rfl Tryd.isAgg24 Tryd.sizeOf24 rfl) rfl ?_   -- 10
  refine ow_do_eq (does_store_all 1 rfl rfl rfl (one_u8s _) Tryd.sizeOf24 rfl (by first | rfl | simp)) ?_
  refine ow_nil (into ?_)
  refine sw_ret (fun w hm => ?_)
  try dsimp only [thenP, blockP, Nat.beq, cond]
  exact ret_cell 1 rfl rfl hm rfl Tryd.isAgg24 Tryd.sizeOf24 rfl ⟨rfl, hm.forgetAll⟩

theorem copy_nil (w : World) : Calls Tryd.prog 31 #[.pointer none] w fun e w' => ∃ v, e = .returned v ∧ v = .pointer none ∧ Mem w [] [] w' := by
  refine calls_of_sw (vs := [.pointer none]) Tryd.func31 rfl Tryd.ntmps31 rfl (SW.begin ?_)
  refine sw_seq ?_
  refine sw_region ?_
  refine ow_val (val_assign rfl) rfl ?_   -- 2
  refine ow_nil (into ?_)
  refine sw_seq ?_
  refine sw_seq ?_
  refine sw_region ?_
  refine ow_val (val_move rfl) rfl ?_   -- 4
  refine ow_val (val_eql_nilptr Tryd.underlying42 rfl rfl) rfl ?_   -- 5
  refine ow_nil (into ?_)
  refine sw_true rfl rfl ?_
  refine sw_seq ?_
  refine sw_region ?_
  refine ow_val (val_assign rfl) rfl ?_   -- 2
  refine ow_nil (into ?_)
  refine sw_ret (fun w hm => ?_)
  try dsimp only [thenP, blockP, Nat.beq, cond]
  exact ret_one _ rfl rfl ⟨rfl, hm⟩

set_option maxRecDepth 10000 in
theorem shaNil_any (w : World) (hK : KW w) : Calls Tryd.prog 11 #[] w fun e w' => ∃ v, e = .returned v ∧ v = .bool true ∧ Mem w [] [] w' := by
  obtain ⟨ab, hab⟩ : ∃ ab : List UInt8, ab = [97, 98] := ⟨_, rfl⟩
  obtain ⟨cc, hcc⟩ : ∃ cc : List UInt8, cc = [99] := ⟨_, rfl⟩
  have hab2 : ab.length = 2 := by rw [hab]; rfl
  have hcc2 : cc.length = 1 := by rw [hcc]; rfl
  have habc : shaOf (ab ++ cc) = abcL := by rw [hab, hcc, ← sum256_hash]; exact hash_abc
  refine calls_of_sw (vs := []) Tryd.func11 rfl Tryd.ntmps11 rfl (SW.begin ?_)
  refine sw_seq ?_
  refine sw_region ?_
  refine ow_val (val_assign rfl) rfl ?_   -- 0
  refine ow_nil (into ?_)
  refine sw_seq ?_
  refine sw_seq ?_
  refine sw_region ?_
  refine ow_call_pure (callsTo Tryd.func13 rfl (by kernel_rfl) rfl) rfl (fun w hm => awake_any w (hK.mem0 hm)) ?_   -- 4
  refine ow_val (val_not rfl) rfl ?_   -- 5
  refine ow_nil (into ?_)
  refine sw_false rfl rfl ?_
  refine sw_skip (into ?_)
  refine sw_seq ?_
  refine sw_region ?_
  refine ow_new (acts_alloc z52) rfl (fun b1 hb1 => ?_)   -- 1
  refine ow_nil (into ?_)
  refine sw_seq ?_
  refine sw_seq ?_
  refine sw_region ?_
  refine ow_call_pure (callsTo Tryd.func28 rfl (by kernel_rfl) rfl) rfl (fun w hm => sumS_any b1 none w (hm.at (i := 0) rfl) (hK.mem0 hm)) ?_   -- 6
  refine ow_call_pure (callsTo Tryd.func16 rfl (by kernel_rfl) rfl) rfl (fun w hm => refSum_any none 0 0 [] rfl (by decide) (by decide) w (Rd.nil _ _)) ?_   -- 7
  refine ow_val ((val_neq_u8s rfl rfl Tryd.eqGuardType24 Tryd.underlying24 Tryd.underlying5 Tryd.sizeOf5 Tryd.isAgg5 (hash_len _) (hash_len _)).to (congrArg Value.bool (show _ = false by simp [txt]))) rfl ?_   -- 8
  refine ow_nil (into ?_)
  refine sw_false rfl rfl ?_
  refine sw_skip (into ?_)
  refine sw_seq ?_
  refine sw_region ?_
  refine ow_make (acts_buildSlice (cs := ab.map vU8) Tryd.underlying22 Tryd.sizeOf5 Tryd.zeroValue5 rfl rfl (by rw [hab]; kernel_rfl)) rfl (fun b9 hb9 => ?_)   -- 9
  refine ow_act_eq (acts_convert_bytes 0 rfl rfl Tryd.underlying22 Tryd.underlying5) rfl ?_   -- 10
  refine ow_call_turn 1 rfl (callsTo Tryd.func27 rfl (by kernel_rfl) rfl) rfl (fun w hm => writeS_any b1 none _ _ _ ab hab2 w (hm.at (i := 1) rfl) (hK.mem0 hm) (by have := hK.pos; simp only [List.mem_singleton]; omega) (Rd.mrk (hm.at (i := 0) rfl)) (fun _ b' o' e => by simp only [Option.some.injEq, Addr.mk.injEq, and_true] at e; rw [← e.1]; simpa using hm.ne (i := 0) (j := 1) rfl rfl (by omega)) (by omega) (by omega)) ?_   -- 11
  refine ow_nil (into ?_)
  refine sw_seq ?_
  refine sw_region ?_
  refine ow_call_blk (fun b => .pointer (some ⟨b, 0, none⟩)) (callsTo Tryd.func31 rfl (by kernel_rfl) rfl) rfl (fun w hm => copyS_any b1 (some ab) w (hm.at (i := 1) rfl)) (fun b12 hb12 => ?_)   -- 12
  refine ow_val (val_assign rfl) rfl ?_   -- 2
  refine ow_nil (into ?_)
  refine sw_seq ?_
  refine sw_region ?_
  refine ow_make (acts_buildSlice (cs := cc.map vU8) Tryd.underlying22 Tryd.sizeOf5 Tryd.zeroValue5 rfl rfl (by rw [hcc]; kernel_rfl)) rfl (fun b13 hb13 => ?_)   -- 13
  refine ow_act_eq (acts_convert_bytes 0 rfl rfl Tryd.underlying22 Tryd.underlying5) rfl ?_   -- 14
  refine ow_call_turn 3 rfl (callsTo Tryd.func27 rfl (by kernel_rfl) rfl) rfl (fun w hm => writeS_any b1 (some ab) _ _ _ cc hcc2 w (hm.at (i := 3) rfl) (hK.mem0 hm) (by have := hK.pos; simp only [List.mem_singleton]; omega) (Rd.mrk (hm.at (i := 0) rfl)) (fun _ b' o' e => by simp only [Option.some.injEq, Addr.mk.injEq, and_true] at e; rw [← e.1]; simpa using hm.ne (i := 0) (j := 3) rfl rfl (by omega)) (by omega) (by omega)) ?_   -- 15
  refine ow_nil (into ?_)
  refine sw_seq ?_
  refine sw_seq ?_
  refine sw_region ?_
  refine ow_val (val_move rfl) rfl ?_   -- 16
  refine ow_val (val_eql_nilptr Tryd.underlying42 rfl rfl) rfl ?_   -- 17
  refine ow_val (val_move rfl) rfl ?_   -- 18
  refine ow_guard_yes rfl rfl rfl ?_
  refine ow_call_pure (callsTo Tryd.func28 rfl (by kernel_rfl) rfl) rfl (fun w hm => sumS_any b1 (some (ab ++ cc)) w (hm.at (i := 3) rfl) (hK.mem0 hm)) ?_   -- 19
  refine ow_guard_yes rfl rfl rfl ?_
  refine ow_call_pure (callsTo Tryd.func32 rfl (by kernel_rfl) rfl) rfl (fun w hm => abc_any w) ?_   -- 20
  refine ow_guard_yes rfl rfl rfl ?_
  refine ow_val ((val_neq_u8s rfl rfl Tryd.eqGuardType24 Tryd.underlying24 Tryd.underlying5 Tryd.sizeOf5 Tryd.isAgg5 (hash_len _) rfl).to (congrArg Value.bool (show _ = false by simp [txt, habc]))) rfl ?_   -- 21
  refine ow_val (val_pick_false rfl rfl) rfl ?_   -- 22
  refine ow_val (val_move rfl) rfl ?_   -- 23
  refine ow_guard_yes rfl rfl rfl ?_
  refine ow_val (val_move rfl) rfl ?_   -- 24
  refine ow_guard_yes rfl rfl rfl ?_
  refine ow_call_pure (callsTo Tryd.func28 rfl (by kernel_rfl) rfl) rfl (fun w hm => sumS_any b12 (some ab) w (hm.at (i := 1) rfl) (hK.mem0 hm)) ?_   -- 25
  refine ow_guard_yes rfl rfl rfl ?_
  refine ow_make (acts_buildSlice (cs := ab.map vU8) Tryd.underlying22 Tryd.sizeOf5 Tryd.zeroValue5 rfl rfl (by rw [hab]; kernel_rfl)) rfl (fun b26 hb26 => ?_)   -- 26
  refine ow_guard_yes rfl rfl rfl ?_
  refine ow_act_eq (acts_convert_bytes 0 rfl rfl Tryd.underlying22 Tryd.underlying5) rfl ?_   -- 27
  refine ow_guard_yes rfl rfl rfl ?_
  refine ow_call_pure (callsTo Tryd.func16 rfl (by kernel_rfl) rfl) rfl (fun w hm => refSum_any _ _ _ ab hab2 (by omega) (by omega) w (Rd.mrk (hm.at (i := 0) rfl))) ?_   -- 28
  refine ow_guard_yes rfl rfl rfl ?_
  refine ow_val ((val_neq_u8s rfl rfl Tryd.eqGuardType24 Tryd.underlying24 Tryd.underlying5 Tryd.sizeOf5 Tryd.isAgg5 (hash_len _) (hash_len _)).to (congrArg Value.bool (show _ = false by simp [txt]))) rfl ?_   -- 29
  refine ow_val (val_pick_false rfl rfl) rfl ?_   -- 30
  refine ow_nil (into ?_)
  refine sw_false rfl rfl ?_
  refine sw_skip (into ?_)
  refine sw_seq ?_
  refine sw_region ?_
  refine ow_val (val_assign rfl) rfl ?_   -- 3
  refine ow_nil (into ?_)
  refine sw_seq ?_
  refine sw_region ?_
  refine ow_val (val_move rfl) rfl ?_   -- 31
  refine ow_make (acts_buildSlice (cs := ([97, 98, 99] : List UInt8).map vU8) Tryd.underlying22 Tryd.sizeOf5 Tryd.zeroValue5 rfl rfl (by kernel_rfl)) rfl (fun b32 hb32 => ?_)   -- 32
  refine ow_act_eq (acts_convert_bytes 0 rfl rfl Tryd.underlying22 Tryd.underlying5) rfl ?_   -- 33
  refine ow_call_pure (callsTo Tryd.func27 rfl (by kernel_rfl) rfl) rfl (fun w hm => write_nil _ _ _ w) ?_   -- 34
  refine ow_nil (into ?_)
  refine sw_seq ?_
  refine sw_region ?_
  refine ow_val (val_move rfl) rfl ?_   -- 35
  refine ow_call_pure (callsTo Tryd.func28 rfl (by kernel_rfl) rfl) rfl (fun w hm => sum_nil w) ?_   -- 36
  refine ow_val (val_build' (cs := (List.replicate 32 (0 : UInt8)).map vU8) rfl (by kernel_rfl)) rfl ?_   -- 37
  refine ow_val ((val_eql_u8s rfl rfl Tryd.eqGuardType24 Tryd.underlying24 Tryd.underlying5 Tryd.sizeOf5 Tryd.isAgg5 rfl rfl).to (congrArg Value.bool (show _ = true by simp))) rfl ?_   -- 38
  refine ow_val (val_move rfl) rfl ?_   -- 39
  refine ow_guard_yes rfl rfl rfl ?_
  refine ow_val (val_move rfl) rfl ?_   -- 40
  refine ow_guard_yes rfl rfl rfl ?_
  refine ow_call_pure (callsTo Tryd.func31 rfl (by kernel_rfl) rfl) rfl (fun w hm => copy_nil w) ?_   -- 41
  refine ow_guard_yes rfl rfl rfl ?_
  refine ow_val (val_eql_nilptr Tryd.underlying42 rfl rfl) rfl ?_   -- 42
  refine ow_val (val_pick_true rfl rfl) rfl ?_   -- 43
  refine ow_val (val_assign rfl) rfl ?_   -- 0
  refine ow_nil (into ?_)
  exact sw_ret (fun w hm => ret_one _ rfl rfl ⟨rfl, hm.forgetAll⟩)
end Go.Proofs.YtiagaoeaploijaaDoor
