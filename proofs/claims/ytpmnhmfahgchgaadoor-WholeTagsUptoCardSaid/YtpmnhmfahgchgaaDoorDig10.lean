import Derived.Test.YtpmnhmfahgchgaaDoorDig9
import Derived.Test.YtpmnhmfahgchgaaDoorNod
import Derived.Test.YtpmnhmfahgchgaaDoorSxW
import Derived.Test.YtpmnhmfahgchgaaDoorProg
set_option linter.unusedVariables false
set_option linter.unusedSimpArgs false
namespace Go.Proofs.YtpmnhmfahgchgaaDoor
open Go.Sx Go.Ps
theorem tw_any (w8 : UInt8) (w : World) : Calls Tryd.prog 39 #[vU8 w8] w fun e w' => ∃ v, e = .returned v ∧ v = vInt ((1 + w8.toNat % 32 : Nat) : Int) ∧ Mem w [] [] w' := by
  refine calls_of_sw (vs := [vU8 w8]) Tryd.func39 rfl Tryd.ntmps39 rfl (SW.begin ?_)
  refine sw_seq ?_
  refine sw_region ?_
  refine ow_val (val_assign rfl) rfl ?_   -- 2
  refine ow_nil (into ?_)
  refine sw_seq ?_
  refine sw_region ?_
  refine ow_val (val_move rfl) rfl ?_   -- 3
  refine ow_val (val_conv_u8_i64 Tryd.underlying5 Tryd.underlying3 rfl) rfl ?_   -- 4
  refine ow_val (val_rem_nn ((w8.toNat % 32 : Nat) : Int) rfl rfl (by omega) (by omega) (by omega)) rfl ?_   -- 5
  refine ow_val (val_add_int ((1 + w8.toNat % 32 : Nat) : Int) rfl rfl (by omega) (by omega)) rfl ?_   -- 6
  refine ow_val (val_assign rfl) rfl ?_   -- 2
  refine ow_nil (into ?_)
  exact sw_ret (fun w hm => ret_one _ rfl rfl ⟨rfl, hm⟩)

theorem tcut_any (k : Nat) (h2 : k ≤ 32) (d : List UInt8) (hd : d.length = 32) (w : World) : Calls Tryd.prog 79 #[vInt (k : Int), .agg ((d).map vU8).toArray] w fun e w' => ∃ v, e = .returned v ∧ v = .agg ((cutw k d).map vU8).toArray ∧ Mem w [] [] w' := by
  refine calls_of_sw (vs := [vInt (k : Int), .agg ((d).map vU8).toArray]) Tryd.func79 rfl Tryd.ntmps79 rfl (SW.begin ?_)
  refine sw_seq ?_
  refine sw_region ?_
  refine ow_new (acts_box rfl) rfl (fun b3 hb3 => ?_)   -- 3
  refine ow_new (acts_alloc zD) rfl (fun b4 hb4 => ?_)   -- 4
  refine ow_nil (into ?_)
  refine sw_seq ?_
  refine sw_seq ?_
  refine sw_region ?_
  refine ow_val (val_move rfl) rfl ?_   -- 6
  refine ow_val (val_assign rfl) rfl ?_   -- 5
  refine ow_nil (into ?_)
  refine sw_block ?_
  refine sw_loop (σ := Nat) (fun j => k + j ≤ 32) (fun j => [(5, vInt ((k + j : Nat) : Int)), (4, .pointer (some ⟨b4, 0, none⟩)), (3, .pointer (some ⟨b3, 0, none⟩))]) (fun j => Mem w [] [some (b4, blk (zeros32.map vU8) 27), some (b3, blk ((cutFrom d k j).map vU8) 27)]) (fun j => 32 - j) 0 (by omega) ⟨rfl, rfl, rfl, trivial⟩ (fun w hm => hm) ?_
  intro j hj
  refine sw_seq ?_
  refine sw_seq ?_
  refine sw_region ?_
  refine ow_val (val_move rfl) rfl ?_   -- 7
  refine ow_val (val_lss_int rfl rfl) rfl ?_   -- 8
  refine ow_nil (into ?_)
  refine sw_if rfl (fun h0 => ?_) (fun h0 => ?_)
  · -- then
    refine sw_skip (into ?_)
    refine sw_seq ?_
    refine sw_block ?_
    refine sw_region ?_
    refine ow_val (val_move rfl) rfl ?_   -- 11
    refine ow_val (val_indexAddr (k + j) (k + j) rfl rfl Tryd.underlying27 Tryd.sizeOf5 (by omega) (by omega) (by omega)) rfl ?_   -- 12
    refine ow_do (does_store_map (V := vU8) 1 rfl rfl rfl rfl Tryd.sizeOf5 (by rw [cutFrom_len, hd]; omega)) (fun _ _ => ?_)
    refine ow_nil (into ?_)
    refine sw_region ?_
    refine ow_val (val_move rfl) rfl ?_   -- 9
    refine ow_val (val_add_int ((k + j + 1 : Nat) : Int) rfl rfl (by omega) (by omega)) rfl ?_   -- 10
    refine ow_val (val_assign rfl) rfl ?_   -- 5
    exact ow_nil (fun w hm => ⟨j + 1, by omega, by omega, ⟨rfl, rfl, rfl, trivial⟩, hm⟩)
  · -- else
    obtain rfl : j = 32 - k := by omega
    rw [cutFrom_all _ k hd h2]
    refine sw_exit (into ?_)
    refine sw_seq ?_
    refine sw_region ?_
    refine ow_val (val_load_all 1 rfl rfl Tryd.isAgg27 Tryd.sizeOf27 (by show (List.map vU8 (cutw k d)).length = _; rw [List.length_map]; exact (cutw_len hd h2))) rfl ?_   -- 13
    refine ow_do_eq (does_store_all 0 rfl rfl rfl (one_u8s _) Tryd.sizeOf27 (by show (List.map vU8 (cutw k d)).length = _; rw [List.length_map]; exact (cutw_len hd h2)) (by show (List.map vU8 zeros32).length = _; rw [List.length_map]; exact zeros32_len)) ?_
    refine ow_nil (into ?_)
    exact sw_ret (fun w hm => ret_cell 0 rfl rfl hm rfl Tryd.isAgg27 Tryd.sizeOf27 (by rw [List.length_map]; exact cutw_len hd h2) ⟨rfl, hm.forgetAll⟩)

theorem tw_is {w8 : UInt8} {k : Nat} (hk : 1 + w8.toNat % 32 = k) (w : World) : Calls Tryd.prog 39 #[vU8 w8] w fun e w' => ∃ v, e = .returned v ∧ v = vInt (k : Int) ∧ Mem w [] [] w' := by subst hk; exact tw_any w8 w
theorem iD : (Tryd.prog.info? 27).map (fun i => (i.zero, i.size, i.bytes)) = some (some (.agg (zeros32.map vU8).toArray), 32, 32) := by kernel_rfl
theorem zR (w : World) : (zeroValue 48).run Tryd.prog w = .ok (.agg (rootC 0 zeros32 zeros32).toArray) w := by kernel_rfl
theorem one_root (s : UInt64) (l m : List UInt8) : ∀ v ∈ rootC s l m, v.oneCell' = true := by
  intro v hv
  simp only [rootC, List.mem_cons, List.mem_append] at hv
  rcases hv with rfl | h | h
  · rfl
  · exact one_u8s _ v h
  · exact one_u8s _ v h
theorem built_root {P : Program} {T : TypeId} (h : layT P T = some (65, [(0, 1), (1, 32), (33, 32)])) (s : UInt64) (a b : List UInt8) (ha : a.length = 32) (hb : b.length = 32) :
    P.built T [(0, vU64 s), (1, .agg (a.map vU8).toArray), (2, .agg (b.map vU8).toArray)] = some (rootC s a b).toArray :=
  built_struct h [vU64 s, .agg (a.map vU8).toArray, .agg (b.map vU8).toArray] (by simp [layOf, Value.cells, vU64, ha, hb]) (by simp [Value.cells, vU64, ha, hb]) (by simp [Value.cells, vU64, rootC])

theorem tsame_any (w : World) (a1 : Option Addr) (m1 c1 : Nat) (p : List UInt8) (hp : p.length = m1) (hr1 : Rd w a1 (p.map vU8)) (a2 : Option Addr) (m2 c2 : Nat) (q : List UInt8) (hq : q.length = m2) (hr2 : Rd w a2 (q.map vU8)) : Calls Tryd.prog 41 #[.slice a1 m1 c1, .slice a2 m2 c2] w fun e w' => ∃ v, e = .returned v ∧ v = .bool (decide (p = q)) ∧ Mem w [] [] w' := by
  refine calls_of_sw (vs := [.slice a1 m1 c1, .slice a2 m2 c2]) Tryd.func41 rfl Tryd.ntmps41 rfl (SW.begin ?_)
  refine sw_seq ?_
  refine sw_region ?_
  refine ow_val (val_assign rfl) rfl ?_   -- 4
  refine ow_nil (into ?_)
  refine sw_seq ?_
  refine sw_region ?_
  refine ow_val (val_move rfl) rfl ?_   -- 5
  refine ow_val (val_conv_str p Tryd.underlying25 Tryd.underlying5 Tryd.underlying9 rfl hp (fun w' hm => hr1.mem hm)) rfl ?_   -- 6
  refine ow_val (val_move rfl) rfl ?_   -- 7
  refine ow_val (val_conv_str q Tryd.underlying25 Tryd.underlying5 Tryd.underlying9 rfl hq (fun w' hm => hr2.mem hm)) rfl ?_   -- 8
  refine ow_val (val_eql_strs (p := p) (q := q) rfl rfl) rfl ?_   -- 9
  refine ow_val (val_assign rfl) rfl ?_   -- 4
  refine ow_nil (into ?_)
  exact sw_ret (fun w hm => ret_one _ rfl rfl ⟨rfl, hm⟩)

theorem tsame_is (w : World) (a1 : Option Addr) (m1 c1 : Nat) (p : List UInt8) (hp : p.length = m1) (hr1 : Rd w a1 (p.map vU8)) (a2 : Option Addr) (m2 c2 : Nat) (q : List UInt8) (hq : q.length = m2) (hr2 : Rd w a2 (q.map vU8)) {b : Bool} (h : decide (p = q) = b) : Calls Tryd.prog 41 #[.slice a1 m1 c1, .slice a2 m2 c2] w fun e w' => ∃ v, e = .returned v ∧ v = .bool b ∧ Mem w [] [] w' := by rw [← h]; exact tsame_any w a1 m1 c1 p hp hr1 a2 m2 c2 q hq hr2

theorem tsamePairs_any (w : World) (a : Option Addr) (c : Nat) (l : List (Sl UInt8 × Sl UInt8)) (har : Rd w a (l.flatMap fun x => [x.1.v, x.2.v])) (hae : ∀ s ∈ l, SlOk w s.1 ∧ SlOk w s.2) (ham : l.length < 9223372036854775808) (a2 : Option Addr) (c2 : Nat) (m : List (Sl UInt8 × Sl UInt8)) (hbr : Rd w a2 (m.flatMap fun x => [x.1.v, x.2.v])) (hbe : ∀ s ∈ m, SlOk w s.1 ∧ SlOk w s.2) (hbm : m.length < 9223372036854775808) : Calls Tryd.prog 81 #[.slice a l.length c, .slice a2 m.length c2] w fun e w' => ∃ v, e = .returned v ∧ v = .bool (decide (prs l = prs m)) ∧ Mem w [] [] w' := by
  refine calls_of_sw (vs := [.slice a l.length c, .slice a2 m.length c2]) Tryd.func81 rfl Tryd.ntmps81 rfl (SW.begin ?_)
  refine sw_seq ?_
  refine sw_region ?_
  refine ow_val (val_assign rfl) rfl ?_   -- 4
  refine ow_nil (into ?_)
  refine sw_seq ?_
  refine sw_seq ?_
  refine sw_region ?_
  refine ow_val (val_move rfl) rfl ?_   -- 6
  refine ow_val (val_len rfl Tryd.underlying43) rfl ?_   -- 7
  refine ow_val (val_move rfl) rfl ?_   -- 8
  refine ow_val (val_len rfl Tryd.underlying43) rfl ?_   -- 9
  by_cases hne : l.length ≠ m.length
  · -- yes
    refine ow_val ((val_neq_int rfl rfl).to (congrArg Value.bool (decide_eq_true (by omega)))) rfl ?_   -- 10
    refine ow_nil (into ?_)
    refine sw_true rfl rfl ?_
    refine sw_seq ?_
    refine sw_region ?_
    refine ow_val (val_assign rfl) rfl ?_   -- 4
    refine ow_nil (into ?_)
    refine sw_ret (fun w hm => ?_)
    try dsimp only [thenP, blockP, Nat.beq, cond]
    exact ret_one _ rfl rfl ⟨congrArg Value.bool (decide_eq_false (fun h => hne (by have := congrArg List.length h; rwa [prs_len, prs_len] at this))).symm, hm⟩
  · -- no
    refine ow_val ((val_neq_int rfl rfl).to (congrArg Value.bool (decide_eq_false (by omega)))) rfl ?_   -- 10
    refine ow_nil (into ?_)
    refine sw_false rfl rfl ?_
    refine sw_skip (into ?_)
    refine sw_seq ?_
    refine sw_seq ?_
    refine sw_region ?_
    refine ow_val (val_assign rfl) rfl ?_   -- 5
    refine ow_nil (into ?_)
    refine sw_block ?_
    have hlm : l.length = m.length := by omega
    refine sw_loop (σ := Nat) (fun j => j ≤ l.length ∧ (prs l).take j = (prs m).take j) (fun j => [(5, vInt (j : Int)), (1, .slice a2 m.length c2), (0, .slice a l.length c)]) (fun _ => Mem w [] []) (fun j => l.length - j) 0 ⟨Nat.zero_le _, by simp⟩ ⟨rfl, rfl, rfl, trivial⟩ (fun w hm => hm) ?_
    rintro j ⟨hj, hjt⟩
    refine sw_seq ?_
    refine sw_seq ?_
    refine sw_region ?_
    refine ow_val (val_move rfl) rfl ?_   -- 11
    refine ow_val (val_move rfl) rfl ?_   -- 12
    refine ow_val (val_len rfl Tryd.underlying43) rfl ?_   -- 13
    refine ow_val (val_lss_int rfl rfl) rfl ?_   -- 14
    refine ow_nil (into ?_)
    refine sw_if rfl (fun h0 => ?_) (fun h0 => ?_)
    · -- then
      have hjm : j < m.length := by omega
      obtain ⟨ba, oa, rfl⟩ := har.addr (by rw [flatMap_size l (n := 2) (fun _ _ => rfl)]; omega)
      obtain ⟨bb, ob, rfl⟩ := hbr.addr (by rw [flatMap_size m (n := 2) (fun _ _ => rfl)]; omega)
      obtain ⟨⟨k1, v1⟩, hx1⟩ : ∃ z, l.getD j default = z := ⟨_, rfl⟩
      obtain ⟨⟨k2, v2⟩, hx2⟩ : ∃ z, m.getD j default = z := ⟨_, rfl⟩
      have hE1 := hae _ (getD_mem (l := l) (i := j) (by omega))
      have hE2 := hbe _ (getD_mem (l := m) (i := j) (by omega))
      rw [hx1] at hE1
      rw [hx2] at hE2
      have hy1 : (prs l).getD j default = (k1.xs, v1.xs) := by rw [prs_get (by omega), hx1]
      have hy2 : (prs m).getD j default = (k2.xs, v2.xs) := by rw [prs_get (by omega), hx2]
      have hg1 := flat2_get (fun x : Sl UInt8 × Sl UInt8 => x.1.v) (fun x => x.2.v) l j (by omega)
      have hg2 := flat2_get (fun x : Sl UInt8 × Sl UInt8 => x.1.v) (fun x => x.2.v) m j (by omega)
      rw [hx1] at hg1
      rw [hx2] at hg2
      refine sw_skip (into ?_)
      refine sw_seq ?_
      refine sw_block ?_
      refine sw_seq ?_
      rcases two_cases (k1.xs = k2.xs) (v1.xs = v2.xs) with ⟨hk, hv⟩ | ⟨hk, hv⟩ | hk
      · -- case
        refine sw_region_lex _ [] [(0, 0), (1, 0), (2, 0), (3, 0), (5, 0), (6, 0), (7, 0), (8, 0), (4, 1), (9, 1), (10, 2), (11, 0), (12, 0), (13, 0), (14, 0), (15, 0), (16, 0), (18, 0), (19, 0), (20, 0), (21, 0), (17, 1), (22, 1), (23, 2), (24, 0), (25, 0)] (by kernel_rfl) (by kernel_rfl) (fun _ _ _ h => h) (fun _ h => h) (fun _ h => h.drawn _) ?_
        refine lw_pure rfl (val_move rfl) rfl ?_   -- 17
        refine lw_pure rfl (val_move rfl) rfl ?_   -- 18
        refine lw_pure rfl (val_indexAddr_slice j (oa + j * 2) rfl rfl Tryd.underlying43 Tryd.sizeOf101 (by omega) (by omega) (by omega)) rfl ?_   -- 19
        refine lw_pure rfl (val_fieldAddr (m := 0) (e := oa + j * 2 + 0) rfl Tryd.underlying101 rfl rfl Tryd.sizeOf25 rfl) rfl ?_   -- 20
        refine lw_pure rfl (val_move rfl) rfl ?_   -- 22
        refine lw_pure rfl (val_move rfl) rfl ?_   -- 23
        refine lw_pure rfl (val_indexAddr_slice j (ob + j * 2) rfl rfl Tryd.underlying43 Tryd.sizeOf101 (by omega) (by omega) (by omega)) rfl ?_   -- 24
        refine lw_pure rfl (val_fieldAddr (m := 0) (e := ob + j * 2 + 0) rfl Tryd.underlying101 rfl rfl Tryd.sizeOf25 rfl) rfl ?_   -- 25
        refine lw_held rfl ((val_load (v := k1.v) rfl Tryd.isAgg25 (fun w' hm => cell_of_rd (har.mem hm) hg1.1 (by omega))).to (v' := .slice k1.a k1.xs.length k1.c) rfl) rfl ?_   -- 21
        refine lw_held rfl ((val_load (v := k2.v) rfl Tryd.isAgg25 (fun w' hm => cell_of_rd (hbr.mem hm) hg2.1 (by omega))).to (v' := .slice k2.a k2.xs.length k2.c) rfl) rfl ?_   -- 26
        refine lw_call_pure (v := .bool true) rfl (callsTo Tryd.func41 rfl (by kernel_rfl) rfl) rfl (fun w hm => tsame_is w k1.a _ _ k1.xs rfl (hE1.1.1.mem hm) k2.a _ _ k2.xs rfl (hE2.1.1.mem hm) (decide_eq_true hk)) ?_   -- 27
        refine lw_pure rfl (val_not rfl) rfl ?_   -- 28
        refine lw_pure rfl (val_move rfl) rfl ?_   -- 29
        refine lwg_pure rfl (wg rfl rfl) (val_move rfl) rfl ?_   -- 30
        refine lwg_pure rfl (wg rfl rfl) (val_move rfl) rfl ?_   -- 31
        refine lwg_pure rfl (wg rfl rfl) (val_indexAddr_slice j (oa + j * 2) rfl rfl Tryd.underlying43 Tryd.sizeOf101 (by omega) (by omega) (by omega)) rfl ?_   -- 32
        refine lwg_pure rfl (wg rfl rfl) (val_fieldAddr (m := 0) (e := oa + j * 2 + 1) rfl Tryd.underlying101 rfl rfl Tryd.sizeOf25 rfl) rfl ?_   -- 33
        refine lwg_pure rfl (wg rfl rfl) (val_move rfl) rfl ?_   -- 35
        refine lwg_pure rfl (wg rfl rfl) (val_move rfl) rfl ?_   -- 36
        refine lwg_pure rfl (wg rfl rfl) (val_indexAddr_slice j (ob + j * 2) rfl rfl Tryd.underlying43 Tryd.sizeOf101 (by omega) (by omega) (by omega)) rfl ?_   -- 37
        refine lwg_pure rfl (wg rfl rfl) (val_fieldAddr (m := 0) (e := ob + j * 2 + 1) rfl Tryd.underlying101 rfl rfl Tryd.sizeOf25 rfl) rfl ?_   -- 38
        refine lwg_held rfl (wg rfl rfl) ((val_load (v := v1.v) rfl Tryd.isAgg25 (fun w' hm => cell_of_rd (har.mem hm) hg1.2 (by omega))).to (v' := .slice v1.a v1.xs.length v1.c) rfl) rfl ?_   -- 34
        refine lwg_held rfl (wg rfl rfl) ((val_load (v := v2.v) rfl Tryd.isAgg25 (fun w' hm => cell_of_rd (hbr.mem hm) hg2.2 (by omega))).to (v' := .slice v2.a v2.xs.length v2.c) rfl) rfl ?_   -- 39
        refine lwg_call_pure (v := .bool true) rfl (wg rfl rfl) (callsTo Tryd.func41 rfl (by kernel_rfl) rfl) rfl (fun w hm => tsame_is w v1.a _ _ v1.xs rfl (hE1.2.1.mem hm) v2.a _ _ v2.xs rfl (hE2.2.1.mem hm) (decide_eq_true hv)) ?_   -- 40
        refine lwg_pure rfl (wg rfl rfl) (val_not rfl) rfl ?_   -- 41
        refine lw_pure rfl (val_pick_false rfl rfl) rfl ?_   -- 42
        refine lw_nil (into ?_)
        refine sw_false rfl rfl ?_
        refine sw_skip (into ?_)
        refine sw_region ?_
        refine ow_val (val_move rfl) rfl ?_   -- 15
        refine ow_val (val_add_int ((j + 1 : Nat) : Int) rfl rfl (by omega) (by omega)) rfl ?_   -- 16
        refine ow_val (val_assign rfl) rfl ?_   -- 5
        exact ow_nil (fun w hm => ⟨j + 1, ⟨by omega, take_step (by rw [prs_len]; omega) (by rw [prs_len]; omega) hjt (by rw [hy1, hy2, hk, hv])⟩, by omega, ⟨rfl, rfl, rfl, trivial⟩, hm.forgetAll⟩)
      · -- case
        refine sw_region_lex _ [] [(0, 0), (1, 0), (2, 0), (3, 0), (5, 0), (6, 0), (7, 0), (8, 0), (4, 1), (9, 1), (10, 2), (11, 0), (12, 0), (13, 0), (14, 0), (15, 0), (16, 0), (18, 0), (19, 0), (20, 0), (21, 0), (17, 1), (22, 1), (23, 2), (24, 0), (25, 0)] (by kernel_rfl) (by kernel_rfl) (fun _ _ _ h => h) (fun _ h => h) (fun _ h => h.drawn _) ?_
        refine lw_pure rfl (val_move rfl) rfl ?_   -- 17
        refine lw_pure rfl (val_move rfl) rfl ?_   -- 18
        refine lw_pure rfl (val_indexAddr_slice j (oa + j * 2) rfl rfl Tryd.underlying43 Tryd.sizeOf101 (by omega) (by omega) (by omega)) rfl ?_   -- 19
        refine lw_pure rfl (val_fieldAddr (m := 0) (e := oa + j * 2 + 0) rfl Tryd.underlying101 rfl rfl Tryd.sizeOf25 rfl) rfl ?_   -- 20
        refine lw_pure rfl (val_move rfl) rfl ?_   -- 22
        refine lw_pure rfl (val_move rfl) rfl ?_   -- 23
        refine lw_pure rfl (val_indexAddr_slice j (ob + j * 2) rfl rfl Tryd.underlying43 Tryd.sizeOf101 (by omega) (by omega) (by omega)) rfl ?_   -- 24
        refine lw_pure rfl (val_fieldAddr (m := 0) (e := ob + j * 2 + 0) rfl Tryd.underlying101 rfl rfl Tryd.sizeOf25 rfl) rfl ?_   -- 25
        refine lw_held rfl ((val_load (v := k1.v) rfl Tryd.isAgg25 (fun w' hm => cell_of_rd (har.mem hm) hg1.1 (by omega))).to (v' := .slice k1.a k1.xs.length k1.c) rfl) rfl ?_   -- 21
        refine lw_held rfl ((val_load (v := k2.v) rfl Tryd.isAgg25 (fun w' hm => cell_of_rd (hbr.mem hm) hg2.1 (by omega))).to (v' := .slice k2.a k2.xs.length k2.c) rfl) rfl ?_   -- 26
        refine lw_call_pure (v := .bool true) rfl (callsTo Tryd.func41 rfl (by kernel_rfl) rfl) rfl (fun w hm => tsame_is w k1.a _ _ k1.xs rfl (hE1.1.1.mem hm) k2.a _ _ k2.xs rfl (hE2.1.1.mem hm) (decide_eq_true hk)) ?_   -- 27
        refine lw_pure rfl (val_not rfl) rfl ?_   -- 28
        refine lw_pure rfl (val_move rfl) rfl ?_   -- 29
        refine lwg_pure rfl (wg rfl rfl) (val_move rfl) rfl ?_   -- 30
        refine lwg_pure rfl (wg rfl rfl) (val_move rfl) rfl ?_   -- 31
        refine lwg_pure rfl (wg rfl rfl) (val_indexAddr_slice j (oa + j * 2) rfl rfl Tryd.underlying43 Tryd.sizeOf101 (by omega) (by omega) (by omega)) rfl ?_   -- 32
        refine lwg_pure rfl (wg rfl rfl) (val_fieldAddr (m := 0) (e := oa + j * 2 + 1) rfl Tryd.underlying101 rfl rfl Tryd.sizeOf25 rfl) rfl ?_   -- 33
        refine lwg_pure rfl (wg rfl rfl) (val_move rfl) rfl ?_   -- 35
        refine lwg_pure rfl (wg rfl rfl) (val_move rfl) rfl ?_   -- 36
        refine lwg_pure rfl (wg rfl rfl) (val_indexAddr_slice j (ob + j * 2) rfl rfl Tryd.underlying43 Tryd.sizeOf101 (by omega) (by omega) (by omega)) rfl ?_   -- 37
        refine lwg_pure rfl (wg rfl rfl) (val_fieldAddr (m := 0) (e := ob + j * 2 + 1) rfl Tryd.underlying101 rfl rfl Tryd.sizeOf25 rfl) rfl ?_   -- 38
        refine lwg_held rfl (wg rfl rfl) ((val_load (v := v1.v) rfl Tryd.isAgg25 (fun w' hm => cell_of_rd (har.mem hm) hg1.2 (by omega))).to (v' := .slice v1.a v1.xs.length v1.c) rfl) rfl ?_   -- 34
        refine lwg_held rfl (wg rfl rfl) ((val_load (v := v2.v) rfl Tryd.isAgg25 (fun w' hm => cell_of_rd (hbr.mem hm) hg2.2 (by omega))).to (v' := .slice v2.a v2.xs.length v2.c) rfl) rfl ?_   -- 39
        refine lwg_call_pure (v := .bool false) rfl (wg rfl rfl) (callsTo Tryd.func41 rfl (by kernel_rfl) rfl) rfl (fun w hm => tsame_is w v1.a _ _ v1.xs rfl (hE1.2.1.mem hm) v2.a _ _ v2.xs rfl (hE2.2.1.mem hm) (decide_eq_false hv)) ?_   -- 40
        refine lwg_pure rfl (wg rfl rfl) (val_not rfl) rfl ?_   -- 41
        refine lw_pure rfl (val_pick_false rfl rfl) rfl ?_   -- 42
        refine lw_nil (into ?_)
        refine sw_true rfl rfl ?_
        refine sw_seq ?_
        refine sw_region ?_
        refine ow_val (val_assign rfl) rfl ?_   -- 4
        refine ow_nil (into ?_)
        refine sw_ret (fun w hm => ?_)
        try dsimp only [thenP, blockP, Nat.beq, cond]
        exact ret_one _ rfl rfl ⟨congrArg Value.bool (decide_eq_false (getD_ne' (by rw [hy1, hy2]; exact (fun h => hv (congrArg Prod.snd h))))).symm, hm.forgetAll⟩
      · -- case
        refine sw_region_lex _ [] [(0, 0), (1, 0), (2, 0), (3, 0), (5, 0), (6, 0), (7, 0), (8, 0), (4, 1), (9, 1), (10, 2), (11, 0), (12, 0), (13, 0), (14, 0), (15, 0), (16, 0), (17, 0), (18, 0), (19, 0), (20, 0), (21, 0), (22, 0), (23, 0), (24, 0), (25, 0)] (by kernel_rfl) (by kernel_rfl) (fun _ _ _ h => h) (fun _ h => h) (fun _ h => h.drawn _) ?_
        refine lw_pure rfl (val_move rfl) rfl ?_   -- 17
        refine lw_pure rfl (val_move rfl) rfl ?_   -- 18
        refine lw_pure rfl (val_indexAddr_slice j (oa + j * 2) rfl rfl Tryd.underlying43 Tryd.sizeOf101 (by omega) (by omega) (by omega)) rfl ?_   -- 19
        refine lw_pure rfl (val_fieldAddr (m := 0) (e := oa + j * 2 + 0) rfl Tryd.underlying101 rfl rfl Tryd.sizeOf25 rfl) rfl ?_   -- 20
        refine lw_pure rfl (val_move rfl) rfl ?_   -- 22
        refine lw_pure rfl (val_move rfl) rfl ?_   -- 23
        refine lw_pure rfl (val_indexAddr_slice j (ob + j * 2) rfl rfl Tryd.underlying43 Tryd.sizeOf101 (by omega) (by omega) (by omega)) rfl ?_   -- 24
        refine lw_pure rfl (val_fieldAddr (m := 0) (e := ob + j * 2 + 0) rfl Tryd.underlying101 rfl rfl Tryd.sizeOf25 rfl) rfl ?_   -- 25
        refine lw_held rfl ((val_load (v := k1.v) rfl Tryd.isAgg25 (fun w' hm => cell_of_rd (har.mem hm) hg1.1 (by omega))).to (v' := .slice k1.a k1.xs.length k1.c) rfl) rfl ?_   -- 21
        refine lw_held rfl ((val_load (v := k2.v) rfl Tryd.isAgg25 (fun w' hm => cell_of_rd (hbr.mem hm) hg2.1 (by omega))).to (v' := .slice k2.a k2.xs.length k2.c) rfl) rfl ?_   -- 26
        refine lw_call_pure (v := .bool false) rfl (callsTo Tryd.func41 rfl (by kernel_rfl) rfl) rfl (fun w hm => tsame_is w k1.a _ _ k1.xs rfl (hE1.1.1.mem hm) k2.a _ _ k2.xs rfl (hE2.1.1.mem hm) (decide_eq_false hk)) ?_   -- 27
        refine lw_pure rfl (val_not rfl) rfl ?_   -- 28
        refine lw_pure rfl (val_move rfl) rfl ?_   -- 29
        first | refine lwg_no rfl (ng1 rfl rfl) rfl ?_ | refine lwg_no rfl (ng2 rfl rfl) rfl ?_   -- 30
        first | refine lwg_no rfl (ng1 rfl rfl) rfl ?_ | refine lwg_no rfl (ng2 rfl rfl) rfl ?_   -- 31
        first | refine lwg_no rfl (ng1 rfl rfl) rfl ?_ | refine lwg_no rfl (ng2 rfl rfl) rfl ?_   -- 32
        first | refine lwg_no rfl (ng1 rfl rfl) rfl ?_ | refine lwg_no rfl (ng2 rfl rfl) rfl ?_   -- 33
        first | refine lwg_no rfl (ng1 rfl rfl) rfl ?_ | refine lwg_no rfl (ng2 rfl rfl) rfl ?_   -- 34
        first | refine lwg_no rfl (ng1 rfl rfl) rfl ?_ | refine lwg_no rfl (ng2 rfl rfl) rfl ?_   -- 35
        first | refine lwg_no rfl (ng1 rfl rfl) rfl ?_ | refine lwg_no rfl (ng2 rfl rfl) rfl ?_   -- 36
        first | refine lwg_no rfl (ng1 rfl rfl) rfl ?_ | refine lwg_no rfl (ng2 rfl rfl) rfl ?_   -- 37
        first | refine lwg_no rfl (ng1 rfl rfl) rfl ?_ | refine lwg_no rfl (ng2 rfl rfl) rfl ?_   -- 38
        first | refine lwg_no rfl (ng1 rfl rfl) rfl ?_ | refine lwg_no rfl (ng2 rfl rfl) rfl ?_   -- 39
        first | refine lwg_no rfl (ng1 rfl rfl) rfl ?_ | refine lwg_no rfl (ng2 rfl rfl) rfl ?_   -- 40
        first | refine lwg_no rfl (ng1 rfl rfl) rfl ?_ | refine lwg_no rfl (ng2 rfl rfl) rfl ?_   -- 41
        refine lw_pure rfl (val_pick_true rfl rfl) rfl ?_   -- 42
        refine lw_nil (into ?_)
        refine sw_true rfl rfl ?_
        refine sw_seq ?_
        refine sw_region ?_
        refine ow_val (val_assign rfl) rfl ?_   -- 4
        refine ow_nil (into ?_)
        refine sw_ret (fun w hm => ?_)
        try dsimp only [thenP, blockP, Nat.beq, cond]
        exact ret_one _ rfl rfl ⟨congrArg Value.bool (decide_eq_false (getD_ne' (by rw [hy1, hy2]; exact (fun h => hk (congrArg Prod.fst h))))).symm, hm.forgetAll⟩
    · -- else
      have hall : prs l = prs m := by
        rw [show j = l.length by omega] at hjt
        rwa [List.take_of_length_le (by rw [prs_len]; omega), List.take_of_length_le (by rw [prs_len]; omega)] at hjt
      refine sw_exit (into ?_)
      refine sw_seq ?_
      refine sw_region ?_
      refine ow_val (val_assign rfl) rfl ?_   -- 4
      refine ow_nil (into ?_)
      refine sw_ret (fun w hm => ?_)
      try dsimp only [thenP, blockP, Nat.beq, cond]
      exact ret_one _ rfl rfl ⟨congrArg Value.bool (decide_eq_true hall).symm, hm.forgetAll⟩

theorem tkids_any (w_0 : World) (k : Nat) (h1 : 1 ≤ k) (h2 : k ≤ 32) (n : Nod) (hn : n.o.ok w_0) : Calls Tryd.prog 80 #[vInt (k : Int), .agg n.cells.toArray] w_0 fun e w' => ∃ v, e = .returned v ∧ ∃ e', RowE v 27 32 (n.kids k).length ((n.kids k).flatMap fun d => d.map vU8) e' ∧ Mem w_0 [] [e'] w' := by
  obtain ⟨tiD, hDi, hDz, hDsz, hDby⟩ := info_parts iD
  have hkm := hn.km
  refine calls_of_sw (vs := [vInt (k : Int), .agg n.cells.toArray]) Tryd.func80 rfl Tryd.ntmps80 rfl (SW.begin ?_)
  refine sw_seq ?_
  refine sw_region ?_
  refine ow_new (acts_box rfl) rfl (fun b3 hb3 => ?_)   -- 3
  refine ow_val (val_assign rfl) rfl ?_   -- 4
  refine ow_nil (into ?_)
  refine sw_seq ?_
  refine sw_region ?_
  refine ow_val (val_assign rfl) rfl ?_   -- 5
  refine ow_nil (into ?_)
  refine sw_seq ?_
  refine sw_seq ?_
  refine sw_region ?_
  refine ow_val (val_assign rfl) rfl ?_   -- 6
  refine ow_nil (into ?_)
  refine sw_block ?_
  refine sw_loop (σ := Nat × Option Addr × Nat × Ent) (fun t => t.1 ≤ 16 ∧ RowE (.slice t.2.1 (kidsAt k n.o.bm n.o.kids.xs t.1).length t.2.2.1) 27 32 (kidsAt k n.o.bm n.o.kids.xs t.1).length ((kidsAt k n.o.bm n.o.kids.xs t.1).flatMap fun d => d.map vU8) t.2.2.2) (fun t => [(6, vInt (t.1 : Int)), (5, .slice t.2.1 (kidsAt k n.o.bm n.o.kids.xs t.1).length t.2.2.1), (3, .pointer (some ⟨b3, 0, none⟩)), (0, vInt (k : Int))]) (fun t => Mem w_0 [] [t.2.2.2, some (b3, blk n.cells 70)]) (fun t => 16 - t.1) (0, none, 0, none) ⟨Nat.zero_le _, RowE.nil _ _⟩ ⟨rfl, rfl, rfl, rfl, trivial⟩ (fun w hm => hm.place) ?_
  rintro ⟨i, ap, cp, er⟩ ⟨hi, hrow⟩
  simp only at hi hrow ⊢
  have hkl : (kidsAt k n.o.bm n.o.kids.xs i).length ≤ 16 := by rw [kidsAt_len k _ _ i hi]; exact Nat.le_trans (onesF_le _ _) hi
  refine sw_seq ?_
  refine sw_seq ?_
  refine sw_region ?_
  refine ow_val (val_move rfl) rfl ?_   -- 8
  refine ow_val (val_lss_int rfl rfl) rfl ?_   -- 9
  refine ow_nil (into ?_)
  refine sw_if rfl (fun h0 => ?_) (fun h0 => ?_)
  · -- then
    refine sw_skip (into ?_)
    refine sw_seq ?_
    refine sw_block ?_
    refine sw_seq ?_
    refine sw_seq ?_
    refine sw_region ?_
    refine ow_val (val_fieldAddr (m := 0) (e := 67) rfl Tryd.underlying70 rfl rfl Tryd.sizeOf44 rfl) rfl ?_   -- 12
    refine ow_val (val_load_at 1 rfl rfl Tryd.isAgg44 (Nod.c67 hn)) rfl ?_   -- 13
    refine ow_val (val_move rfl) rfl ?_   -- 14
    refine ow_val (val_shr_u16 (i) rfl rfl (by first | rfl | omega) (by omega)) rfl ?_   -- 15
    refine ow_val (val_and_u16 rfl rfl) rfl ?_   -- 16
    refine ow_val (val_eql_u16 rfl rfl) rfl ?_   -- 17
    refine ow_nil (into ?_)
    refine sw_if rfl (fun hb => ?_) (fun hb => ?_)
    · -- then
      have hb' : (n.o.bm >>> UInt16.ofNat i) &&& 1 = 0 := hb
      refine sw_exit (into ?_)
      refine sw_region ?_
      refine ow_val (val_move rfl) rfl ?_   -- 10
      refine ow_val (val_add_int ((i + 1 : Nat) : Int) rfl rfl (by omega) (by omega)) rfl ?_   -- 11
      refine ow_val (val_assign rfl) rfl ?_   -- 6
      have hst : (kidsAt k n.o.bm n.o.kids.xs (i + 1)) = (kidsAt k n.o.bm n.o.kids.xs i) := by rw [kidsAt, if_pos hb']
      exact ow_nil (fun w hm => ⟨(i + 1, ap, cp, er), ⟨by dsimp only; omega, by dsimp only; rw [hst]; exact hrow⟩, by dsimp only; omega, ⟨rfl, by dsimp only; rw [hst] <;> rfl, rfl, rfl, trivial⟩, hm⟩)
    · -- else
      have hb' : ¬ (n.o.bm >>> UInt16.ofNat i) &&& 1 = 0 := hb
      refine sw_skip (into ?_)
      refine sw_seq ?_
      refine sw_region ?_
      refine ow_new (acts_alloc zD) rfl (fun b7 hb7 => ?_)   -- 7
      refine ow_nil (into ?_)
      refine sw_seq ?_
      refine sw_seq ?_
      refine sw_region ?_
      refine ow_val (val_move rfl) rfl ?_   -- 18
      refine ow_val (val_len rfl Tryd.underlying45) rfl ?_   -- 19
      refine ow_val (val_fieldAddr (m := 0) (e := 68) rfl Tryd.underlying70 rfl rfl Tryd.sizeOf45 rfl) rfl ?_   -- 20
      refine ow_val (val_load_at 2 rfl rfl Tryd.isAgg45 (Nod.c68 hn)) rfl ?_   -- 21
      refine ow_val (val_len rfl Tryd.underlying45) rfl ?_   -- 22
      refine ow_val (val_lss_int rfl rfl) rfl ?_   -- 23
      refine ow_nil (into ?_)
      refine sw_if rfl (fun hlt => ?_) (fun hlt => ?_)
      · -- then
        have hlt' : (kidsAt k n.o.bm n.o.kids.xs i).length < n.o.kids.xs.length := by omega
        refine sw_region ?_
        refine ow_val (val_move rfl) rfl ?_   -- 24
        refine ow_val (val_fieldAddr (m := 0) (e := 68) rfl Tryd.underlying70 rfl rfl Tryd.sizeOf45 rfl) rfl ?_   -- 25
        refine ow_val (val_load_at 2 rfl rfl Tryd.isAgg45 (Nod.c68 hn)) rfl ?_   -- 26
        obtain ⟨ba, oa, hba⟩ := hn.kr.addr (by rw [flatMap_size _ (fun x hx => by rw [List.length_map]; exact hn.ke x hx)]; omega)
        have hkv : n.o.kids.v = .slice (some ⟨ba, oa, none⟩) n.o.kids.xs.length n.o.kids.c := by rw [Sl.v, hba]
        rw [hkv]
        have hkr : Rd w_0 (some ⟨ba, oa, none⟩) (n.o.kids.xs.flatMap fun d => d.map vU8) := hba ▸ hn.kr
        refine ow_val (val_move rfl) rfl ?_   -- 27
        refine ow_val (val_len rfl Tryd.underlying45) rfl ?_   -- 28
        refine ow_val (val_indexAddr_slice ((kidsAt k n.o.bm n.o.kids.xs i).length) (oa + ((kidsAt k n.o.bm n.o.kids.xs i).length) * 32) rfl rfl Tryd.underlying45 Tryd.sizeOf27 (by omega) (by omega) (by omega)) rfl ?_   -- 29
        refine ow_val (val_load_elem (cells := fun d => d.map vU8) (l := n.o.kids.xs) (o := oa) (i := (kidsAt k n.o.bm n.o.kids.xs i).length) rfl Tryd.isAgg27 Tryd.sizeOf27 (fun x hx => by rw [List.length_map]; exact hn.ke x hx) (by omega) (by omega) (fun w' hm => hkr.mem hm)) rfl ?_   -- 30
        refine ow_call_pure (callsTo Tryd.func79 rfl (by kernel_rfl) rfl) rfl (fun w hm => tcut_any k h2 ((n.o.kids.xs.getD ((kidsAt k n.o.bm n.o.kids.xs i).length) default)) (hn.ke _ (getD_mem (by omega))) w) ?_   -- 31
        refine ow_do_eq (does_store_all 0 rfl rfl rfl (one_u8s _) Tryd.sizeOf27 (by show (List.map vU8 (cutw k ((n.o.kids.xs.getD ((kidsAt k n.o.bm n.o.kids.xs i).length) default)))).length = _; rw [List.length_map]; exact (cutw_len (hn.ke _ (getD_mem (by omega))) (by omega))) (by show (List.map vU8 zeros32).length = _; rw [List.length_map]; exact zeros32_len)) ?_
        refine ow_nil (into ?_)
        refine sw_region ?_
        refine ow_val (val_move rfl) rfl ?_   -- 32
        refine ow_val (val_load_all 0 rfl rfl Tryd.isAgg27 Tryd.sizeOf27 (by show (List.map vU8 (cutw k ((n.o.kids.xs.getD ((kidsAt k n.o.bm n.o.kids.xs i).length) default)))).length = _; rw [List.length_map]; exact (cutw_len (hn.ke _ (getD_mem (by omega))) (by omega)))) rfl ?_   -- 33
        refine ow_make (acts_buildSlice (cs := [((cutw k ((n.o.kids.xs.getD ((kidsAt k n.o.bm n.o.kids.xs i).length) default)))).map vU8].flatten) Tryd.underlying45 Tryd.sizeOf27 zD rfl rfl (fill_aggs [((cutw k ((n.o.kids.xs.getD ((kidsAt k n.o.bm n.o.kids.xs i).length) default)))).map vU8] (by decide) rfl (by simp only [List.forall_mem_cons, List.length_map]; exact ⟨(cutw_len (hn.ke _ (getD_mem (by omega))) (by omega)), fun _ h => by cases h⟩))) rfl (fun b34 hb34 => ?_)   -- 34
        refine ow_append' (k := (kidsAt k n.o.bm n.o.kids.xs i).length + 1) (acts_append (size := 32) (bytes := 32) 2 rfl rfl rfl hrow rfl Tryd.underlying45 hDi hDz hDsz hDby rfl (by decide) (fun w hm => Rd.blk (hm.at (i := 0) rfl)) (by simp only [List.flatten_cons, List.flatten_nil, List.append_nil, List.length_map]; exact (cutw_len (hn.ke _ (getD_mem (by omega))) (by omega))) (fun u hu => by simp only [List.flatten_cons, List.flatten_nil, List.append_nil] at hu; exact one_u8s _ u hu) (by omega) (by omega)) rfl (fun a35 c35 e35 hr35 => ?_)   -- 35
        refine ow_val (val_assign rfl) rfl ?_   -- 5
        refine ow_nil (into ?_)
        refine sw_region ?_
        refine ow_val (val_move rfl) rfl ?_   -- 10
        refine ow_val (val_add_int ((i + 1 : Nat) : Int) rfl rfl (by omega) (by omega)) rfl ?_   -- 11
        refine ow_val (val_assign rfl) rfl ?_   -- 6
        have hst : (kidsAt k n.o.bm n.o.kids.xs (i + 1)) = (kidsAt k n.o.bm n.o.kids.xs i) ++ [(cutw k ((n.o.kids.xs.getD ((kidsAt k n.o.bm n.o.kids.xs i).length) default)))] := by rw [kidsAt, if_neg hb', if_pos hlt']
        exact ow_nil (fun w hm => ⟨(i + 1, a35, c35, e35), ⟨by dsimp only; omega, by dsimp only; rw [hst, List.length_append]; exact hr35.cong rfl rfl (by rw [List.flatMap_append]; simp)⟩, by dsimp only; omega, ⟨rfl, by dsimp only; rw [hst, List.length_append] <;> rfl, rfl, rfl, trivial⟩, hm.only (.cons _ (.cons _ (.cons_cons _ (.cons_cons _ (List.nil_sublist _)))))⟩)
      · -- else
        have hlt' : ¬ (kidsAt k n.o.bm n.o.kids.xs i).length < n.o.kids.xs.length := by omega
        refine sw_skip (into ?_)
        refine sw_region ?_
        refine ow_val (val_move rfl) rfl ?_   -- 32
        refine ow_val (val_load_all 0 rfl rfl Tryd.isAgg27 Tryd.sizeOf27 (by show (List.map vU8 zeros32).length = _; rw [List.length_map]; exact zeros32_len)) rfl ?_   -- 33
        refine ow_make (acts_buildSlice (cs := [zeros32.map vU8].flatten) Tryd.underlying45 Tryd.sizeOf27 zD rfl rfl (fill_aggs [zeros32.map vU8] (by decide) rfl (by simp only [List.forall_mem_cons, List.length_map]; exact ⟨zeros32_len, fun _ h => by cases h⟩))) rfl (fun b34 hb34 => ?_)   -- 34
        refine ow_append' (k := (kidsAt k n.o.bm n.o.kids.xs i).length + 1) (acts_append (size := 32) (bytes := 32) 2 rfl rfl rfl hrow rfl Tryd.underlying45 hDi hDz hDsz hDby rfl (by decide) (fun w hm => Rd.blk (hm.at (i := 0) rfl)) (by simp only [List.flatten_cons, List.flatten_nil, List.append_nil, List.length_map]; exact zeros32_len) (fun u hu => by simp only [List.flatten_cons, List.flatten_nil, List.append_nil] at hu; exact one_u8s _ u hu) (by omega) (by omega)) rfl (fun a35 c35 e35 hr35 => ?_)   -- 35
        refine ow_val (val_assign rfl) rfl ?_   -- 5
        refine ow_nil (into ?_)
        refine sw_region ?_
        refine ow_val (val_move rfl) rfl ?_   -- 10
        refine ow_val (val_add_int ((i + 1 : Nat) : Int) rfl rfl (by omega) (by omega)) rfl ?_   -- 11
        refine ow_val (val_assign rfl) rfl ?_   -- 6
        have hst : (kidsAt k n.o.bm n.o.kids.xs (i + 1)) = (kidsAt k n.o.bm n.o.kids.xs i) ++ [zeros32] := by rw [kidsAt, if_neg hb', if_neg hlt']
        exact ow_nil (fun w hm => ⟨(i + 1, a35, c35, e35), ⟨by dsimp only; omega, by dsimp only; rw [hst, List.length_append]; exact hr35.cong rfl rfl (by rw [List.flatMap_append]; simp)⟩, by dsimp only; omega, ⟨rfl, by dsimp only; rw [hst, List.length_append] <;> rfl, rfl, rfl, trivial⟩, hm.only (.cons _ (.cons _ (.cons_cons _ (.cons_cons _ (List.nil_sublist _)))))⟩)
  · -- else
    obtain rfl : i = 16 := by omega
    refine sw_exit (into ?_)
    refine sw_seq ?_
    refine sw_region ?_
    refine ow_val (val_move rfl) rfl ?_   -- 36
    refine ow_val (val_assign rfl) rfl ?_   -- 4
    refine ow_nil (into ?_)
    exact sw_ret (fun w hm => ret_one _ rfl rfl ⟨er, hrow, hm.only (.cons_cons _ (List.nil_sublist _))⟩)

theorem tin_0 (w : World) (k : Nat) (h1 : 1 ≤ k) (h2 : k ≤ 32) (n : Nod) (hn : n.o.ok w) (hsn : n.o.small) (hbn : ¬ (n.k = 4 ∧ n.o.bm = 0)) (hk : n.k = 0) : Calls Tryd.prog 40 #[vInt (k : Int), .agg n.cells.toArray] w fun en w' => ∃ u, en = .returned u ∧ ∃ s e', u = .tuple #[s, .bool true] ∧ RowE s 5 1 ((nodIn k n)).length (((nodIn k n)).map vU8) e' ∧ Mem w [] [e'] w' := by
  have hop : nodIn k n = leafI n.o.P.xs := by simp [nodIn, opIn, Nod.op, hk]
  have hsm1 := hsn.1
  have hpl := hn.p.2.1
  have hkl := hn.kl
  have hkm := hn.km
  refine calls_of_sw (vs := [vInt (k : Int), .agg n.cells.toArray]) Tryd.func40 rfl Tryd.ntmps40 rfl (SW.begin ?_)
  refine sw_seq ?_
  refine sw_region ?_
  refine ow_new (acts_box rfl) rfl (fun b3 hb3 => ?_)   -- 3
  refine ow_val (val_assign rfl) rfl ?_   -- 4
  refine ow_val (val_assign rfl) rfl ?_   -- 5
  refine ow_nil (into ?_)
  refine sw_seq ?_
  refine sw_seq ?_
  refine sw_region ?_
  refine ow_val (val_fieldAddr (m := 0) (e := 0) rfl Tryd.underlying70 rfl rfl Tryd.sizeOf5 rfl) rfl ?_   -- 13
  refine ow_val (val_load_at 0 rfl rfl Tryd.isAgg5 rfl) rfl ?_   -- 14
  refine ow_nil (into ?_)
  refine sw_block ?_
  refine sw_seq ?_
  refine sw_region ?_
  refine ow_val ((val_eql_u8 rfl rfl).to (congrArg Value.bool (decide_eq_true (hk)))) rfl ?_   -- 16
  refine ow_val (val_assign rfl) rfl ?_   -- 15
  refine ow_nil (into ?_)
  refine sw_true rfl rfl ?_
  refine sw_seq ?_
  refine sw_region ?_
  refine ow_val (val_fieldAddr (m := 0) (e := 1) rfl Tryd.underlying70 rfl rfl Tryd.sizeOf25 rfl) rfl ?_   -- 17
  refine ow_val (val_load_at 0 rfl rfl Tryd.isAgg25 rfl) rfl ?_   -- 18
  refine ow_call_row (E := 5) (size := 1) (k := 1 + n.o.P.xs.length) (xs := (leafI n.o.P.xs).map vU8) (callsTo Tryd.func52 rfl (by kernel_rfl) rfl) rfl (fun w hm => leafI_any w _ n.o.P.xs.length _ n.o.P.xs rfl (hn.p.1.mem hm) (by omega) (by omega)) (fun a19 c19 e19 hr19 => ?_)   -- 19
  refine ow_val (val_assign rfl) rfl ?_   -- 4
  refine ow_val (val_assign rfl) rfl ?_   -- 5
  refine ow_nil (into ?_)
  refine sw_ret (fun w hm => ?_)
  try dsimp only [thenP, blockP, Nat.beq, cond]
  exact ret_two _ _ rfl rfl rfl ⟨_, e19, rfl, by rw [hop]; exact hr19.cong rfl (by rw [leafI, List.length_append]; rfl) rfl, hm.only (.cons_cons _ (List.nil_sublist _))⟩

theorem tin_1 (w : World) (k : Nat) (h1 : 1 ≤ k) (h2 : k ≤ 32) (n : Nod) (hn : n.o.ok w) (hsn : n.o.small) (hbn : ¬ (n.k = 4 ∧ n.o.bm = 0)) (hk : n.k = 1) : Calls Tryd.prog 40 #[vInt (k : Int), .agg n.cells.toArray] w fun en w' => ∃ u, en = .returned u ∧ ∃ s e', u = .tuple #[s, .bool true] ∧ RowE s 5 1 ((nodIn k n)).length (((nodIn k n)).map vU8) e' ∧ Mem w [] [e'] w' := by
  have hop : nodIn k n = nodeP (k : Int) (cutw k n.o.L) (cutw k n.o.R) := by simp [nodIn, opIn, Nod.op, hk]
  have hsm1 := hsn.1
  have hpl := hn.p.2.1
  have hkl := hn.kl
  have hkm := hn.km
  have hchk : chk (k : Int) [cutw k n.o.L, cutw k n.o.R] = 0 := Nod.chk2 h1 h2 hn.ll hn.rl
  refine calls_of_sw (vs := [vInt (k : Int), .agg n.cells.toArray]) Tryd.func40 rfl Tryd.ntmps40 rfl (SW.begin ?_)
  refine sw_seq ?_
  refine sw_region ?_
  refine ow_new (acts_box rfl) rfl (fun b3 hb3 => ?_)   -- 3
  refine ow_val (val_assign rfl) rfl ?_   -- 4
  refine ow_val (val_assign rfl) rfl ?_   -- 5
  refine ow_nil (into ?_)
  refine sw_seq ?_
  refine sw_seq ?_
  refine sw_region ?_
  refine ow_val (val_fieldAddr (m := 0) (e := 0) rfl Tryd.underlying70 rfl rfl Tryd.sizeOf5 rfl) rfl ?_   -- 13
  refine ow_val (val_load_at 0 rfl rfl Tryd.isAgg5 rfl) rfl ?_   -- 14
  refine ow_nil (into ?_)
  refine sw_block ?_
  refine sw_seq ?_
  refine sw_region ?_
  refine ow_val ((val_eql_u8 rfl rfl).to (congrArg Value.bool (decide_eq_false ((by rw [hk]; decide))))) rfl ?_   -- 16
  refine ow_val (val_assign rfl) rfl ?_   -- 15
  refine ow_nil (into ?_)
  refine sw_false rfl rfl ?_
  refine sw_seq ?_
  refine sw_region ?_
  refine ow_val ((val_eql_u8 rfl rfl).to (congrArg Value.bool (decide_eq_true (hk)))) rfl ?_   -- 21
  refine ow_val (val_assign rfl) rfl ?_   -- 20
  refine ow_nil (into ?_)
  refine sw_true rfl rfl ?_
  refine sw_seq ?_
  refine sw_region_tree _ [9] (.one 0 0 (.one 1 0 (.one 2 0 (.one 5 0 (.one 6 0 (.one 3 1 (.one 7 1 (.one 4 2 (.one 8 2 (.one 9 2 (.one 10 0 (.one 11 0 (.one 12 0 (.one 13 0 (.one 14 0 .done))))))))))))))) (by kernel_rfl) (by kernel_rfl) (fun _ _ _ h => h) (fun _ h => h) (fun _ h => h.drawn _) ?_
  refine lt_pure rfl trivial (val_move rfl) rfl ?_   -- 23
  refine lt_pure rfl trivial (val_move rfl) rfl ?_   -- 24
  refine lt_pure rfl trivial (val_fieldAddr (m := 31) (e := 2) rfl Tryd.underlying70 rfl rfl Tryd.sizeOf27 rfl) rfl ?_   -- 25
  refine lt_pure rfl trivial (val_move rfl) rfl ?_   -- 28
  refine lt_pure rfl trivial (val_fieldAddr (m := 31) (e := 34) rfl Tryd.underlying70 rfl rfl Tryd.sizeOf27 rfl) rfl ?_   -- 29
  refine lt_held rfl trivial (val_load_part 0 rfl rfl Tryd.isAgg27 Tryd.sizeOf27 (by show (List.map vU8 n.o.L).length = _; rw [List.length_map]; exact hn.ll) (Nod.cells_L hn)) rfl ?_   -- 26
  refine lt_held rfl trivial (val_load_part 0 rfl rfl Tryd.isAgg27 Tryd.sizeOf27 (by show (List.map vU8 n.o.R).length = _; rw [List.length_map]; exact hn.rl) (Nod.cells_R hn)) rfl ?_   -- 30
  refine lt_call_pure rfl trivial (callsTo Tryd.func79 rfl (by kernel_rfl) rfl) rfl (fun w hm => tcut_any k h2 n.o.L hn.ll w) (fun _ _ h => h) ?_   -- 27
  refine lt_call_pure rfl trivial (callsTo Tryd.func79 rfl (by kernel_rfl) rfl) rfl (fun w hm => tcut_any k h2 n.o.R hn.rl w) (fun _ _ h => h) ?_   -- 31
  refine lt_call_row2 (E := 5) (size := 1) (k := (nodeP (k : Int) (cutw k n.o.L) (cutw k n.o.R)).length) (xs := (nodeP (k : Int) (cutw k n.o.L) (cutw k n.o.R)).map vU8) (x := vInt ((chk (k : Int) [(cutw k n.o.L), (cutw k n.o.R)] : Nat) : Int)) rfl trivial (callsTo Tryd.func53 rfl (by kernel_rfl) rfl) rfl (fun w hm => nodeInput_any w (k : Int) (cutw k n.o.L) (cutw k n.o.R) (cutw_len hn.ll h2) (cutw_len hn.rl h2)) (fun h => nomatch h) (fun a32 c32 e32 hr32 => ?_)   -- 32
  refine lt_pure rfl trivial (val_move rfl) rfl ?_   -- 22
  refine lt_pure rfl trivial (val_extract rfl rfl) rfl ?_   -- 33
  refine lt_pure rfl trivial (val_extract rfl rfl) rfl ?_   -- 34
  refine lt_pure rfl trivial (val_assign rfl) rfl ?_   -- 6
  refine lt_pure rfl trivial (val_assign rfl) rfl ?_   -- 7
  refine lt_done (into ?_)
  refine sw_seq ?_
  refine sw_region ?_
  refine ow_val (val_move rfl) rfl ?_   -- 35
  refine ow_val (val_move rfl) rfl ?_   -- 36
  refine ow_val ((val_eql_int rfl rfl).to (v' := .bool true) (congrArg Value.bool (decide_eq_true (by rw [hchk]; rfl)))) rfl ?_   -- 37
  refine ow_val (val_assign rfl) rfl ?_   -- 4
  refine ow_val (val_assign rfl) rfl ?_   -- 5
  refine ow_nil (into ?_)
  refine sw_ret (fun w hm => ?_)
  try dsimp only [thenP, blockP, Nat.beq, cond]
  exact ret_two _ _ rfl rfl rfl ⟨_, e32, rfl, by rw [hop]; exact hr32, hm.only (.cons_cons _ (List.nil_sublist _))⟩

theorem tin_2 (w : World) (k : Nat) (h1 : 1 ≤ k) (h2 : k ≤ 32) (n : Nod) (hn : n.o.ok w) (hsn : n.o.small) (hbn : ¬ (n.k = 4 ∧ n.o.bm = 0)) (hk : n.k = 2) : Calls Tryd.prog 40 #[vInt (k : Int), .agg n.cells.toArray] w fun en w' => ∃ u, en = .returned u ∧ ∃ s e', u = .tuple #[s, .bool true] ∧ RowE s 5 1 ((nodIn k n)).length (((nodIn k n)).map vU8) e' ∧ Mem w [] [e'] w' := by
  have hop : nodIn k n = keyI n.o.P.xs := by simp [nodIn, opIn, Nod.op, hk]
  have hsm1 := hsn.1
  have hpl := hn.p.2.1
  have hkl := hn.kl
  have hkm := hn.km
  refine calls_of_sw (vs := [vInt (k : Int), .agg n.cells.toArray]) Tryd.func40 rfl Tryd.ntmps40 rfl (SW.begin ?_)
  refine sw_seq ?_
  refine sw_region ?_
  refine ow_new (acts_box rfl) rfl (fun b3 hb3 => ?_)   -- 3
  refine ow_val (val_assign rfl) rfl ?_   -- 4
  refine ow_val (val_assign rfl) rfl ?_   -- 5
  refine ow_nil (into ?_)
  refine sw_seq ?_
  refine sw_seq ?_
  refine sw_region ?_
  refine ow_val (val_fieldAddr (m := 0) (e := 0) rfl Tryd.underlying70 rfl rfl Tryd.sizeOf5 rfl) rfl ?_   -- 13
  refine ow_val (val_load_at 0 rfl rfl Tryd.isAgg5 rfl) rfl ?_   -- 14
  refine ow_nil (into ?_)
  refine sw_block ?_
  refine sw_seq ?_
  refine sw_region ?_
  refine ow_val ((val_eql_u8 rfl rfl).to (congrArg Value.bool (decide_eq_false ((by rw [hk]; decide))))) rfl ?_   -- 16
  refine ow_val (val_assign rfl) rfl ?_   -- 15
  refine ow_nil (into ?_)
  refine sw_false rfl rfl ?_
  refine sw_seq ?_
  refine sw_region ?_
  refine ow_val ((val_eql_u8 rfl rfl).to (congrArg Value.bool (decide_eq_false ((by rw [hk]; decide))))) rfl ?_   -- 21
  refine ow_val (val_assign rfl) rfl ?_   -- 20
  refine ow_nil (into ?_)
  refine sw_false rfl rfl ?_
  refine sw_seq ?_
  refine sw_region ?_
  refine ow_val ((val_eql_u8 rfl rfl).to (congrArg Value.bool (decide_eq_true (hk)))) rfl ?_   -- 39
  refine ow_val (val_assign rfl) rfl ?_   -- 38
  refine ow_nil (into ?_)
  refine sw_true rfl rfl ?_
  refine sw_seq ?_
  refine sw_region ?_
  refine ow_val (val_fieldAddr (m := 0) (e := 1) rfl Tryd.underlying70 rfl rfl Tryd.sizeOf25 rfl) rfl ?_   -- 40
  refine ow_val (val_load_at 0 rfl rfl Tryd.isAgg25 rfl) rfl ?_   -- 41
  refine ow_call_row (E := 5) (size := 1) (k := 1 + n.o.P.xs.length) (xs := (keyI n.o.P.xs).map vU8) (callsTo Tryd.func54 rfl (by kernel_rfl) rfl) rfl (fun w hm => keyI_any w _ n.o.P.xs.length _ n.o.P.xs rfl (hn.p.1.mem hm) (by omega) (by omega)) (fun a42 c42 e42 hr42 => ?_)   -- 42
  refine ow_val (val_assign rfl) rfl ?_   -- 4
  refine ow_val (val_assign rfl) rfl ?_   -- 5
  refine ow_nil (into ?_)
  refine sw_ret (fun w hm => ?_)
  try dsimp only [thenP, blockP, Nat.beq, cond]
  exact ret_two _ _ rfl rfl rfl ⟨_, e42, rfl, by rw [hop]; exact hr42.cong rfl (by rw [keyI, List.length_append]; rfl) rfl, hm.only (.cons_cons _ (List.nil_sublist _))⟩

theorem tin_3 (w : World) (k : Nat) (h1 : 1 ≤ k) (h2 : k ≤ 32) (n : Nod) (hn : n.o.ok w) (hsn : n.o.small) (hbn : ¬ (n.k = 4 ∧ n.o.bm = 0)) (hk : n.k = 3) : Calls Tryd.prog 40 #[vInt (k : Int), .agg n.cells.toArray] w fun en w' => ∃ u, en = .returned u ∧ ∃ s e', u = .tuple #[s, .bool true] ∧ RowE s 5 1 ((nodIn k n)).length (((nodIn k n)).map vU8) e' ∧ Mem w [] [e'] w' := by
  have hop : nodIn k n = bucketI (prs n.o.pairs.xs) := by simp [nodIn, opIn, Nod.op, hk]
  have hsm1 := hsn.1
  have hpl := hn.p.2.1
  have hkl := hn.kl
  have hkm := hn.km
  refine calls_of_sw (vs := [vInt (k : Int), .agg n.cells.toArray]) Tryd.func40 rfl Tryd.ntmps40 rfl (SW.begin ?_)
  refine sw_seq ?_
  refine sw_region ?_
  refine ow_new (acts_box rfl) rfl (fun b3 hb3 => ?_)   -- 3
  refine ow_val (val_assign rfl) rfl ?_   -- 4
  refine ow_val (val_assign rfl) rfl ?_   -- 5
  refine ow_nil (into ?_)
  refine sw_seq ?_
  refine sw_seq ?_
  refine sw_region ?_
  refine ow_val (val_fieldAddr (m := 0) (e := 0) rfl Tryd.underlying70 rfl rfl Tryd.sizeOf5 rfl) rfl ?_   -- 13
  refine ow_val (val_load_at 0 rfl rfl Tryd.isAgg5 rfl) rfl ?_   -- 14
  refine ow_nil (into ?_)
  refine sw_block ?_
  refine sw_seq ?_
  refine sw_region ?_
  refine ow_val ((val_eql_u8 rfl rfl).to (congrArg Value.bool (decide_eq_false ((by rw [hk]; decide))))) rfl ?_   -- 16
  refine ow_val (val_assign rfl) rfl ?_   -- 15
  refine ow_nil (into ?_)
  refine sw_false rfl rfl ?_
  refine sw_seq ?_
  refine sw_region ?_
  refine ow_val ((val_eql_u8 rfl rfl).to (congrArg Value.bool (decide_eq_false ((by rw [hk]; decide))))) rfl ?_   -- 21
  refine ow_val (val_assign rfl) rfl ?_   -- 20
  refine ow_nil (into ?_)
  refine sw_false rfl rfl ?_
  refine sw_seq ?_
  refine sw_region ?_
  refine ow_val ((val_eql_u8 rfl rfl).to (congrArg Value.bool (decide_eq_false ((by rw [hk]; decide))))) rfl ?_   -- 39
  refine ow_val (val_assign rfl) rfl ?_   -- 38
  refine ow_nil (into ?_)
  refine sw_false rfl rfl ?_
  refine sw_seq ?_
  refine sw_region ?_
  refine ow_val ((val_eql_u8 rfl rfl).to (congrArg Value.bool (decide_eq_true (hk)))) rfl ?_   -- 44
  refine ow_val (val_assign rfl) rfl ?_   -- 43
  refine ow_nil (into ?_)
  refine sw_true rfl rfl ?_
  refine sw_seq ?_
  refine sw_region ?_
  refine ow_val (val_fieldAddr (m := 0) (e := 66) rfl Tryd.underlying70 rfl rfl Tryd.sizeOf43 rfl) rfl ?_   -- 45
  refine ow_val (val_load_at 0 rfl rfl Tryd.isAgg43 (Nod.c66 hn)) rfl ?_   -- 46
  refine ow_call_row (E := 5) (size := 1) (k := (bucketI (prs n.o.pairs.xs)).length) (xs := (bucketI (prs n.o.pairs.xs)).map vU8) (callsTo Tryd.func55 rfl (by kernel_rfl) rfl) rfl (fun w hm => bucketI_any w n.o.pairs.a n.o.pairs.c n.o.pairs.xs (hn.pr.mem hm) (fun s hs => ⟨(hn.pe s hs).1.mem hm, (hn.pe s hs).2.mem hm⟩) hn.pl hn.pm hsn.2.1) (fun a47 c47 e47 hr47 => ?_)   -- 47
  refine ow_val (val_assign rfl) rfl ?_   -- 4
  refine ow_val (val_assign rfl) rfl ?_   -- 5
  refine ow_nil (into ?_)
  refine sw_ret (fun w hm => ?_)
  try dsimp only [thenP, blockP, Nat.beq, cond]
  exact ret_two _ _ rfl rfl rfl ⟨_, e47, rfl, by rw [hop]; exact hr47, hm.only (.cons_cons _ (List.nil_sublist _))⟩

theorem tin_4 (w : World) (k : Nat) (h1 : 1 ≤ k) (h2 : k ≤ 32) (n : Nod) (hn : n.o.ok w) (hsn : n.o.small) (hbn : ¬ (n.k = 4 ∧ n.o.bm = 0)) (hk : n.k = 4) : Calls Tryd.prog 40 #[vInt (k : Int), .agg n.cells.toArray] w fun en w' => ∃ u, en = .returned u ∧ ∃ s e', u = .tuple #[s, .bool true] ∧ RowE s 5 1 ((nodIn k n)).length (((nodIn k n)).map vU8) e' ∧ Mem w [] [e'] w' := by
  have hop : nodIn k n = branchP (k : Int) n.o.bm (n.kids k) := by simp [nodIn, opIn, Nod.op, hk]
  have hsm1 := hsn.1
  have hpl := hn.p.2.1
  have hkl := hn.kl
  have hkm := hn.km
  have hchk : chkB (k : Int) n.o.bm (n.kids k) = 0 := Nod.chkB hn h1 h2 (fun h => hbn ⟨hk, h⟩)
  refine calls_of_sw (vs := [vInt (k : Int), .agg n.cells.toArray]) Tryd.func40 rfl Tryd.ntmps40 rfl (SW.begin ?_)
  refine sw_seq ?_
  refine sw_region ?_
  refine ow_new (acts_box rfl) rfl (fun b3 hb3 => ?_)   -- 3
  refine ow_val (val_assign rfl) rfl ?_   -- 4
  refine ow_val (val_assign rfl) rfl ?_   -- 5
  refine ow_nil (into ?_)
  refine sw_seq ?_
  refine sw_seq ?_
  refine sw_region ?_
  refine ow_val (val_fieldAddr (m := 0) (e := 0) rfl Tryd.underlying70 rfl rfl Tryd.sizeOf5 rfl) rfl ?_   -- 13
  refine ow_val (val_load_at 0 rfl rfl Tryd.isAgg5 rfl) rfl ?_   -- 14
  refine ow_nil (into ?_)
  refine sw_block ?_
  refine sw_seq ?_
  refine sw_region ?_
  refine ow_val ((val_eql_u8 rfl rfl).to (congrArg Value.bool (decide_eq_false ((by rw [hk]; decide))))) rfl ?_   -- 16
  refine ow_val (val_assign rfl) rfl ?_   -- 15
  refine ow_nil (into ?_)
  refine sw_false rfl rfl ?_
  refine sw_seq ?_
  refine sw_region ?_
  refine ow_val ((val_eql_u8 rfl rfl).to (congrArg Value.bool (decide_eq_false ((by rw [hk]; decide))))) rfl ?_   -- 21
  refine ow_val (val_assign rfl) rfl ?_   -- 20
  refine ow_nil (into ?_)
  refine sw_false rfl rfl ?_
  refine sw_seq ?_
  refine sw_region ?_
  refine ow_val ((val_eql_u8 rfl rfl).to (congrArg Value.bool (decide_eq_false ((by rw [hk]; decide))))) rfl ?_   -- 39
  refine ow_val (val_assign rfl) rfl ?_   -- 38
  refine ow_nil (into ?_)
  refine sw_false rfl rfl ?_
  refine sw_seq ?_
  refine sw_region ?_
  refine ow_val ((val_eql_u8 rfl rfl).to (congrArg Value.bool (decide_eq_false ((by rw [hk]; decide))))) rfl ?_   -- 44
  refine ow_val (val_assign rfl) rfl ?_   -- 43
  refine ow_nil (into ?_)
  refine sw_false rfl rfl ?_
  refine sw_seq ?_
  refine sw_region ?_
  refine ow_val ((val_eql_u8 rfl rfl).to (congrArg Value.bool (decide_eq_true (hk)))) rfl ?_   -- 49
  refine ow_val (val_assign rfl) rfl ?_   -- 48
  refine ow_nil (into ?_)
  refine sw_true rfl rfl ?_
  refine sw_seq ?_
  refine sw_region_tree _ [5, 6] (.one 0 0 (.one 1 0 (.one 3 0 (.one 4 1 (.alt 2 (.one 5 2 (.one 6 2 (.one 7 0 (.one 8 0 (.one 9 0 (.one 10 0 (.one 11 0 .done))))))) (.alt 5 (.one 2 2 (.one 6 2 (.one 7 0 (.one 8 0 (.one 9 0 (.one 10 0 (.one 11 0 .done))))))) .stop)))))) (by kernel_rfl) (by kernel_rfl) (fun _ _ _ h => h) (fun _ h => h) (fun _ h => h.drawn _) ?_
  refine lt_pure rfl trivial (val_move rfl) rfl ?_   -- 51
  refine lt_pure rfl trivial (val_fieldAddr (m := 0) (e := 67) rfl Tryd.underlying70 rfl rfl Tryd.sizeOf44 rfl) rfl ?_   -- 52
  refine lt_pure rfl trivial (val_move rfl) rfl ?_   -- 54
  refine lt_held rfl trivial (val_load_part 0 rfl rfl Tryd.isAgg70 Tryd.sizeOf70 (Nod.cells_len hn) (show List.take 134 n.cells = n.cells from List.take_of_length_le (Nat.le_of_eq (Nod.cells_len hn)))) rfl ?_   -- 55
  refine lt_alt ?_ ?_
  · -- first 2
    refine lt_val rfl trivial (val_load_at 0 rfl rfl Tryd.isAgg44 (Nod.c67 hn)) rfl (fun _ _ h => h) ?_   -- 53
    refine lt_call_row (E := 27) (size := 32) (k := (n.kids k).length) (xs := (n.kids k).flatMap fun d => d.map vU8) rfl trivial (callsTo Tryd.func80 rfl (by kernel_rfl) rfl) rfl (fun w hm => tkids_any w k h1 h2 n (Cop.ok.mem hn hm)) (fun h => nomatch h) (fun a56 c56 e56 hr56 => ?_)   -- 56
    refine lt_call_row2 (E := 5) (size := 1) (k := (branchP (k : Int) n.o.bm (n.kids k)).length) (xs := (branchP (k : Int) n.o.bm (n.kids k)).map vU8) (x := vInt (((chkB (k : Int) n.o.bm (n.kids k)) : Nat) : Int)) rfl trivial (callsTo Tryd.func56 rfl (by kernel_rfl) rfl) rfl (fun w hm => branchInput_any w (k : Int) n.o.bm a56 c56 (n.kids k) (fun d hd => (kidsAt_mem h2 hn.ke 16 d hd).1) (hr56.rdAt hm (i := 0) rfl) hr56.le (by rw [show (n.kids k).length = _ from kidsAt_len k _ _ 16 (Nat.le_refl _)]; have := onesF_le 16 n.o.bm.toNat; omega)) (fun h => nomatch h) (fun a57 c57 e57 hr57 => ?_)   -- 57
    refine lt_pure rfl trivial (val_move rfl) rfl ?_   -- 50
    refine lt_pure rfl trivial (val_extract rfl rfl) rfl ?_   -- 58
    refine lt_pure rfl trivial (val_extract rfl rfl) rfl ?_   -- 59
    refine lt_pure rfl trivial (val_assign rfl) rfl ?_   -- 8
    refine lt_pure rfl trivial (val_assign rfl) rfl ?_   -- 9
    refine lt_done (into ?_)
    refine sw_seq ?_
    refine sw_region ?_
    refine ow_val (val_move rfl) rfl ?_   -- 60
    refine ow_val (val_move rfl) rfl ?_   -- 61
    refine ow_val ((val_eql_int rfl rfl).to (v' := .bool true) (congrArg Value.bool (decide_eq_true (by rw [hchk]; rfl)))) rfl ?_   -- 62
    refine ow_val (val_assign rfl) rfl ?_   -- 4
    refine ow_val (val_assign rfl) rfl ?_   -- 5
    refine ow_nil (into ?_)
    refine sw_ret (fun w hm => ?_)
    try dsimp only [thenP, blockP, Nat.beq, cond]
    exact ret_two _ _ rfl rfl rfl ⟨_, e57, rfl, by rw [hop]; exact hr57, hm.only (.cons_cons _ (List.nil_sublist _))⟩
  refine lt_alt ?_ ?_
  · -- first 5
    refine lt_call_row (E := 27) (size := 32) (k := (n.kids k).length) (xs := (n.kids k).flatMap fun d => d.map vU8) rfl trivial (callsTo Tryd.func80 rfl (by kernel_rfl) rfl) rfl (fun w hm => tkids_any w k h1 h2 n (Cop.ok.mem hn hm)) (fun h => nomatch h) (fun a56 c56 e56 hr56 => ?_)   -- 56
    refine lt_val rfl trivial (val_load_at 1 rfl rfl Tryd.isAgg44 (Nod.c67 hn)) rfl (fun h => nomatch h) ?_   -- 53
    refine lt_call_row2 (E := 5) (size := 1) (k := (branchP (k : Int) n.o.bm (n.kids k)).length) (xs := (branchP (k : Int) n.o.bm (n.kids k)).map vU8) (x := vInt (((chkB (k : Int) n.o.bm (n.kids k)) : Nat) : Int)) rfl trivial (callsTo Tryd.func56 rfl (by kernel_rfl) rfl) rfl (fun w hm => branchInput_any w (k : Int) n.o.bm a56 c56 (n.kids k) (fun d hd => (kidsAt_mem h2 hn.ke 16 d hd).1) (hr56.rdAt hm (i := 0) rfl) hr56.le (by rw [show (n.kids k).length = _ from kidsAt_len k _ _ 16 (Nat.le_refl _)]; have := onesF_le 16 n.o.bm.toNat; omega)) (fun h => nomatch h) (fun a57 c57 e57 hr57 => ?_)   -- 57
    refine lt_pure rfl trivial (val_move rfl) rfl ?_   -- 50
    refine lt_pure rfl trivial (val_extract rfl rfl) rfl ?_   -- 58
    refine lt_pure rfl trivial (val_extract rfl rfl) rfl ?_   -- 59
    refine lt_pure rfl trivial (val_assign rfl) rfl ?_   -- 8
    refine lt_pure rfl trivial (val_assign rfl) rfl ?_   -- 9
    refine lt_done (into ?_)
    refine sw_seq ?_
    refine sw_region ?_
    refine ow_val (val_move rfl) rfl ?_   -- 60
    refine ow_val (val_move rfl) rfl ?_   -- 61
    refine ow_val ((val_eql_int rfl rfl).to (v' := .bool true) (congrArg Value.bool (decide_eq_true (by rw [hchk]; rfl)))) rfl ?_   -- 62
    refine ow_val (val_assign rfl) rfl ?_   -- 4
    refine ow_val (val_assign rfl) rfl ?_   -- 5
    refine ow_nil (into ?_)
    refine sw_ret (fun w hm => ?_)
    try dsimp only [thenP, blockP, Nat.beq, cond]
    exact ret_two _ _ rfl rfl rfl ⟨_, e57, rfl, by rw [hop]; exact hr57, hm.only (.cons_cons _ (List.nil_sublist _))⟩
  exact lt_stop

theorem tin_5 (w : World) (k : Nat) (h1 : 1 ≤ k) (h2 : k ≤ 32) (n : Nod) (hn : n.o.ok w) (hsn : n.o.small) (hbn : ¬ (n.k = 4 ∧ n.o.bm = 0)) (hk : n.k = 5) : Calls Tryd.prog 40 #[vInt (k : Int), .agg n.cells.toArray] w fun en w' => ∃ u, en = .returned u ∧ ∃ s e', u = .tuple #[s, .bool true] ∧ RowE s 5 1 ((nodIn k n)).length (((nodIn k n)).map vU8) e' ∧ Mem w [] [e'] w' := by
  have hop : nodIn k n = rootP (k : Int) n.o.size (cutw k n.o.log) (cutw k n.o.map) := by simp [nodIn, opIn, Nod.op, hk]
  have hsm1 := hsn.1
  have hpl := hn.p.2.1
  have hkl := hn.kl
  have hkm := hn.km
  have hchk : chk (k : Int) [cutw k n.o.log, cutw k n.o.map] = 0 := Nod.chk2 h1 h2 hn.gl hn.ml
  refine calls_of_sw (vs := [vInt (k : Int), .agg n.cells.toArray]) Tryd.func40 rfl Tryd.ntmps40 rfl (SW.begin ?_)
  refine sw_seq ?_
  refine sw_region ?_
  refine ow_new (acts_box rfl) rfl (fun b3 hb3 => ?_)   -- 3
  refine ow_val (val_assign rfl) rfl ?_   -- 4
  refine ow_val (val_assign rfl) rfl ?_   -- 5
  refine ow_nil (into ?_)
  refine sw_seq ?_
  refine sw_seq ?_
  refine sw_region ?_
  refine ow_val (val_fieldAddr (m := 0) (e := 0) rfl Tryd.underlying70 rfl rfl Tryd.sizeOf5 rfl) rfl ?_   -- 13
  refine ow_val (val_load_at 0 rfl rfl Tryd.isAgg5 rfl) rfl ?_   -- 14
  refine ow_nil (into ?_)
  refine sw_block ?_
  refine sw_seq ?_
  refine sw_region ?_
  refine ow_val ((val_eql_u8 rfl rfl).to (congrArg Value.bool (decide_eq_false ((by rw [hk]; decide))))) rfl ?_   -- 16
  refine ow_val (val_assign rfl) rfl ?_   -- 15
  refine ow_nil (into ?_)
  refine sw_false rfl rfl ?_
  refine sw_seq ?_
  refine sw_region ?_
  refine ow_val ((val_eql_u8 rfl rfl).to (congrArg Value.bool (decide_eq_false ((by rw [hk]; decide))))) rfl ?_   -- 21
  refine ow_val (val_assign rfl) rfl ?_   -- 20
  refine ow_nil (into ?_)
  refine sw_false rfl rfl ?_
  refine sw_seq ?_
  refine sw_region ?_
  refine ow_val ((val_eql_u8 rfl rfl).to (congrArg Value.bool (decide_eq_false ((by rw [hk]; decide))))) rfl ?_   -- 39
  refine ow_val (val_assign rfl) rfl ?_   -- 38
  refine ow_nil (into ?_)
  refine sw_false rfl rfl ?_
  refine sw_seq ?_
  refine sw_region ?_
  refine ow_val ((val_eql_u8 rfl rfl).to (congrArg Value.bool (decide_eq_false ((by rw [hk]; decide))))) rfl ?_   -- 44
  refine ow_val (val_assign rfl) rfl ?_   -- 43
  refine ow_nil (into ?_)
  refine sw_false rfl rfl ?_
  refine sw_seq ?_
  refine sw_region ?_
  refine ow_val ((val_eql_u8 rfl rfl).to (congrArg Value.bool (decide_eq_false ((by rw [hk]; decide))))) rfl ?_   -- 49
  refine ow_val (val_assign rfl) rfl ?_   -- 48
  refine ow_nil (into ?_)
  refine sw_false rfl rfl ?_
  refine sw_seq ?_
  refine sw_region ?_
  refine ow_val ((val_eql_u8 rfl rfl).to (congrArg Value.bool (decide_eq_true (hk)))) rfl ?_   -- 64
  refine ow_val (val_assign rfl) rfl ?_   -- 63
  refine ow_nil (into ?_)
  refine sw_true rfl rfl ?_
  refine sw_seq ?_
  refine sw_region ?_
  refine ow_val (val_fieldAddr (m := 64) (e := 69) rfl Tryd.underlying70 rfl rfl Tryd.sizeOf48 rfl) rfl ?_   -- 65
  refine ow_val (val_load_part 0 rfl rfl Tryd.isAgg48 Tryd.sizeOf48 (rootC_len hn.gl hn.ml) (Nod.cells_root hn)) rfl ?_   -- 66
  refine ow_new (acts_alloc zR) rfl (fun b10 hb10 => ?_)   -- 10
  refine ow_do_eq (does_store_all 0 rfl rfl rfl (one_root _ _ _) Tryd.sizeOf48 (rootC_len hn.gl hn.ml) rfl) ?_
  refine ow_nil (into ?_)
  refine sw_seq ?_
  refine sw_region_tree _ [12] (.one 0 0 (.one 1 0 (.one 3 0 (.one 4 0 (.one 7 0 (.one 8 0 (.one 2 1 (.one 5 1 (.one 9 1 (.one 6 2 (.one 10 2 (.one 11 0 (.one 12 2 (.one 13 0 (.one 14 0 (.one 15 0 (.one 16 0 (.one 17 0 .done)))))))))))))))))) (by kernel_rfl) (by kernel_rfl) (fun _ _ _ h => h) (fun _ h => h) (fun _ h => h.drawn _) ?_
  refine lt_pure rfl trivial (val_move rfl) rfl ?_   -- 68
  refine lt_pure rfl trivial (val_fieldAddr (m := 0) (e := 0) rfl Tryd.underlying48 rfl rfl Tryd.sizeOf46 rfl) rfl ?_   -- 69
  refine lt_pure rfl trivial (val_move rfl) rfl ?_   -- 71
  refine lt_pure rfl trivial (val_fieldAddr (m := 31) (e := 1) rfl Tryd.underlying48 rfl rfl Tryd.sizeOf27 rfl) rfl ?_   -- 72
  refine lt_pure rfl trivial (val_move rfl) rfl ?_   -- 75
  refine lt_pure rfl trivial (val_fieldAddr (m := 31) (e := 33) rfl Tryd.underlying48 rfl rfl Tryd.sizeOf27 rfl) rfl ?_   -- 76
  refine lt_held rfl trivial (val_load_at 0 rfl rfl Tryd.isAgg46 rfl) rfl ?_   -- 70
  refine lt_held rfl trivial (val_load_part 0 rfl rfl Tryd.isAgg27 Tryd.sizeOf27 (by show (List.map vU8 n.o.log).length = _; rw [List.length_map]; exact hn.gl) (rootC_log hn.gl)) rfl ?_   -- 73
  refine lt_held rfl trivial (val_load_part 0 rfl rfl Tryd.isAgg27 Tryd.sizeOf27 (by show (List.map vU8 n.o.map).length = _; rw [List.length_map]; exact hn.ml) (rootC_map hn.gl hn.ml)) rfl ?_   -- 77
  refine lt_call_pure rfl trivial (callsTo Tryd.func79 rfl (by kernel_rfl) rfl) rfl (fun w hm => tcut_any k h2 n.o.log hn.gl w) (fun _ _ h => h) ?_   -- 74
  refine lt_call_pure rfl trivial (callsTo Tryd.func79 rfl (by kernel_rfl) rfl) rfl (fun w hm => tcut_any k h2 n.o.map hn.ml w) (fun _ _ h => h) ?_   -- 78
  refine lt_pure rfl trivial (val_build' (cs := rootC n.o.size (cutw k n.o.log) (cutw k n.o.map)) rfl (built_root (by kernel_rfl) n.o.size (cutw k n.o.log) (cutw k n.o.map) (cutw_len hn.gl h2) (cutw_len hn.ml h2))) rfl ?_   -- 79
  refine lt_call_row2 (E := 5) (size := 1) (k := (rootP (k : Int) n.o.size (cutw k n.o.log) (cutw k n.o.map)).length) (xs := (rootP (k : Int) n.o.size (cutw k n.o.log) (cutw k n.o.map)).map vU8) (x := vInt ((chk (k : Int) [(cutw k n.o.log), (cutw k n.o.map)] : Nat) : Int)) rfl trivial (callsTo Tryd.func43 rfl (by kernel_rfl) rfl) rfl (fun w hm => rootInput_any w (k : Int) n.o.size (cutw k n.o.log) (cutw k n.o.map) (cutw_len hn.gl h2) (cutw_len hn.ml h2)) (fun h => nomatch h) (fun a80 c80 e80 hr80 => ?_)   -- 80
  refine lt_pure rfl trivial (val_move rfl) rfl ?_   -- 67
  refine lt_pure rfl trivial (val_extract rfl rfl) rfl ?_   -- 81
  refine lt_pure rfl trivial (val_extract rfl rfl) rfl ?_   -- 82
  refine lt_pure rfl trivial (val_assign rfl) rfl ?_   -- 11
  refine lt_pure rfl trivial (val_assign rfl) rfl ?_   -- 12
  refine lt_done (into ?_)
  refine sw_seq ?_
  refine sw_region ?_
  refine ow_val (val_move rfl) rfl ?_   -- 83
  refine ow_val (val_move rfl) rfl ?_   -- 84
  refine ow_val ((val_eql_int rfl rfl).to (v' := .bool true) (congrArg Value.bool (decide_eq_true (by rw [hchk]; rfl)))) rfl ?_   -- 85
  refine ow_val (val_assign rfl) rfl ?_   -- 4
  refine ow_val (val_assign rfl) rfl ?_   -- 5
  refine ow_nil (into ?_)
  refine sw_ret (fun w hm => ?_)
  try dsimp only [thenP, blockP, Nat.beq, cond]
  exact ret_two _ _ rfl rfl rfl ⟨_, e80, rfl, by rw [hop]; exact hr80, hm.only (.cons_cons _ (List.nil_sublist _))⟩

theorem tin_6 (w : World) (k : Nat) (h1 : 1 ≤ k) (h2 : k ≤ 32) (n : Nod) (hn : n.o.ok w) (hsn : n.o.small) (hbn : ¬ (n.k = 4 ∧ n.o.bm = 0)) (hk : n.k = 6) : Calls Tryd.prog 40 #[vInt (k : Int), .agg n.cells.toArray] w fun en w' => ∃ u, en = .returned u ∧ ∃ s e', u = .tuple #[s, .bool true] ∧ RowE s 5 1 ((nodIn k n)).length (((nodIn k n)).map vU8) e' ∧ Mem w [] [e'] w' := by
  have hop : nodIn k n = [] := by simp [nodIn, opIn, Nod.op, hk]
  have hsm1 := hsn.1
  have hpl := hn.p.2.1
  have hkl := hn.kl
  have hkm := hn.km
  refine calls_of_sw (vs := [vInt (k : Int), .agg n.cells.toArray]) Tryd.func40 rfl Tryd.ntmps40 rfl (SW.begin ?_)
  refine sw_seq ?_
  refine sw_region ?_
  refine ow_new (acts_box rfl) rfl (fun b3 hb3 => ?_)   -- 3
  refine ow_val (val_assign rfl) rfl ?_   -- 4
  refine ow_val (val_assign rfl) rfl ?_   -- 5
  refine ow_nil (into ?_)
  refine sw_seq ?_
  refine sw_seq ?_
  refine sw_region ?_
  refine ow_val (val_fieldAddr (m := 0) (e := 0) rfl Tryd.underlying70 rfl rfl Tryd.sizeOf5 rfl) rfl ?_   -- 13
  refine ow_val (val_load_at 0 rfl rfl Tryd.isAgg5 rfl) rfl ?_   -- 14
  refine ow_nil (into ?_)
  refine sw_block ?_
  refine sw_seq ?_
  refine sw_region ?_
  refine ow_val ((val_eql_u8 rfl rfl).to (congrArg Value.bool (decide_eq_false ((by rw [hk]; decide))))) rfl ?_   -- 16
  refine ow_val (val_assign rfl) rfl ?_   -- 15
  refine ow_nil (into ?_)
  refine sw_false rfl rfl ?_
  refine sw_seq ?_
  refine sw_region ?_
  refine ow_val ((val_eql_u8 rfl rfl).to (congrArg Value.bool (decide_eq_false ((by rw [hk]; decide))))) rfl ?_   -- 21
  refine ow_val (val_assign rfl) rfl ?_   -- 20
  refine ow_nil (into ?_)
  refine sw_false rfl rfl ?_
  refine sw_seq ?_
  refine sw_region ?_
  refine ow_val ((val_eql_u8 rfl rfl).to (congrArg Value.bool (decide_eq_false ((by rw [hk]; decide))))) rfl ?_   -- 39
  refine ow_val (val_assign rfl) rfl ?_   -- 38
  refine ow_nil (into ?_)
  refine sw_false rfl rfl ?_
  refine sw_seq ?_
  refine sw_region ?_
  refine ow_val ((val_eql_u8 rfl rfl).to (congrArg Value.bool (decide_eq_false ((by rw [hk]; decide))))) rfl ?_   -- 44
  refine ow_val (val_assign rfl) rfl ?_   -- 43
  refine ow_nil (into ?_)
  refine sw_false rfl rfl ?_
  refine sw_seq ?_
  refine sw_region ?_
  refine ow_val ((val_eql_u8 rfl rfl).to (congrArg Value.bool (decide_eq_false ((by rw [hk]; decide))))) rfl ?_   -- 49
  refine ow_val (val_assign rfl) rfl ?_   -- 48
  refine ow_nil (into ?_)
  refine sw_false rfl rfl ?_
  refine sw_seq ?_
  refine sw_region ?_
  refine ow_val ((val_eql_u8 rfl rfl).to (congrArg Value.bool (decide_eq_false ((by rw [hk]; decide))))) rfl ?_   -- 64
  refine ow_val (val_assign rfl) rfl ?_   -- 63
  refine ow_nil (into ?_)
  refine sw_false rfl rfl ?_
  refine sw_seq ?_
  refine sw_region ?_
  refine ow_val ((val_eql_u8 rfl rfl).to (congrArg Value.bool (decide_eq_true (hk)))) rfl ?_   -- 87
  refine ow_val (val_assign rfl) rfl ?_   -- 86
  refine ow_nil (into ?_)
  refine sw_true rfl rfl ?_
  refine sw_seq ?_
  refine sw_region ?_
  refine ow_val (val_assign rfl) rfl ?_   -- 4
  refine ow_val (val_assign rfl) rfl ?_   -- 5
  refine ow_nil (into ?_)
  refine sw_ret (fun w hm => ?_)
  try dsimp only [thenP, blockP, Nat.beq, cond]
  exact ret_two _ _ rfl rfl rfl ⟨_, none, rfl, by rw [hop]; exact RowE.nil _ _, hm.forgetAll.place⟩

theorem tin_7 (w : World) (k : Nat) (h1 : 1 ≤ k) (h2 : k ≤ 32) (n : Nod) (hn : n.o.ok w) (hsn : n.o.small) (hbn : ¬ (n.k = 4 ∧ n.o.bm = 0)) (hk : 6 < n.k) : Calls Tryd.prog 40 #[vInt (k : Int), .agg n.cells.toArray] w fun en w' => ∃ u, en = .returned u ∧ ∃ s e', u = .tuple #[s, .bool true] ∧ RowE s 5 1 ((nodIn k n)).length (((nodIn k n)).map vU8) e' ∧ Mem w [] [e'] w' := by
  have hop : nodIn k n = [5] := by
    have h6 : ¬ n.k = 6 := fun h => by rw [h] at hk; exact absurd hk (by decide)
    simp [nodIn, h6, hk]
  have hsm1 := hsn.1
  have hpl := hn.p.2.1
  have hkl := hn.kl
  have hkm := hn.km
  refine calls_of_sw (vs := [vInt (k : Int), .agg n.cells.toArray]) Tryd.func40 rfl Tryd.ntmps40 rfl (SW.begin ?_)
  refine sw_seq ?_
  refine sw_region ?_
  refine ow_new (acts_box rfl) rfl (fun b3 hb3 => ?_)   -- 3
  refine ow_val (val_assign rfl) rfl ?_   -- 4
  refine ow_val (val_assign rfl) rfl ?_   -- 5
  refine ow_nil (into ?_)
  refine sw_seq ?_
  refine sw_seq ?_
  refine sw_region ?_
  refine ow_val (val_fieldAddr (m := 0) (e := 0) rfl Tryd.underlying70 rfl rfl Tryd.sizeOf5 rfl) rfl ?_   -- 13
  refine ow_val (val_load_at 0 rfl rfl Tryd.isAgg5 rfl) rfl ?_   -- 14
  refine ow_nil (into ?_)
  refine sw_block ?_
  refine sw_seq ?_
  refine sw_region ?_
  refine ow_val ((val_eql_u8 rfl rfl).to (congrArg Value.bool (decide_eq_false ((fun h => by rw [h] at hk; exact absurd hk (by decide)))))) rfl ?_   -- 16
  refine ow_val (val_assign rfl) rfl ?_   -- 15
  refine ow_nil (into ?_)
  refine sw_false rfl rfl ?_
  refine sw_seq ?_
  refine sw_region ?_
  refine ow_val ((val_eql_u8 rfl rfl).to (congrArg Value.bool (decide_eq_false ((fun h => by rw [h] at hk; exact absurd hk (by decide)))))) rfl ?_   -- 21
  refine ow_val (val_assign rfl) rfl ?_   -- 20
  refine ow_nil (into ?_)
  refine sw_false rfl rfl ?_
  refine sw_seq ?_
  refine sw_region ?_
  refine ow_val ((val_eql_u8 rfl rfl).to (congrArg Value.bool (decide_eq_false ((fun h => by rw [h] at hk; exact absurd hk (by decide)))))) rfl ?_   -- 39
  refine ow_val (val_assign rfl) rfl ?_   -- 38
  refine ow_nil (into ?_)
  refine sw_false rfl rfl ?_
  refine sw_seq ?_
  refine sw_region ?_
  refine ow_val ((val_eql_u8 rfl rfl).to (congrArg Value.bool (decide_eq_false ((fun h => by rw [h] at hk; exact absurd hk (by decide)))))) rfl ?_   -- 44
  refine ow_val (val_assign rfl) rfl ?_   -- 43
  refine ow_nil (into ?_)
  refine sw_false rfl rfl ?_
  refine sw_seq ?_
  refine sw_region ?_
  refine ow_val ((val_eql_u8 rfl rfl).to (congrArg Value.bool (decide_eq_false ((fun h => by rw [h] at hk; exact absurd hk (by decide)))))) rfl ?_   -- 49
  refine ow_val (val_assign rfl) rfl ?_   -- 48
  refine ow_nil (into ?_)
  refine sw_false rfl rfl ?_
  refine sw_seq ?_
  refine sw_region ?_
  refine ow_val ((val_eql_u8 rfl rfl).to (congrArg Value.bool (decide_eq_false ((fun h => by rw [h] at hk; exact absurd hk (by decide)))))) rfl ?_   -- 64
  refine ow_val (val_assign rfl) rfl ?_   -- 63
  refine ow_nil (into ?_)
  refine sw_false rfl rfl ?_
  refine sw_seq ?_
  refine sw_region ?_
  refine ow_val ((val_eql_u8 rfl rfl).to (congrArg Value.bool (decide_eq_false ((fun h => by rw [h] at hk; exact absurd hk (by decide)))))) rfl ?_   -- 87
  refine ow_val (val_assign rfl) rfl ?_   -- 86
  refine ow_nil (into ?_)
  refine sw_false rfl rfl ?_
  refine sw_skip (into ?_)
  refine sw_seq ?_
  refine sw_region ?_
  refine ow_make (acts_buildSlice (cs := ([5] : List UInt8).map vU8) Tryd.underlying25 Tryd.sizeOf5 Tryd.zeroValue5 rfl rfl (by kernel_rfl)) rfl (fun b88 hb88 => ?_)   -- 88
  refine ow_val (val_assign rfl) rfl ?_   -- 4
  refine ow_val (val_assign rfl) rfl ?_   -- 5
  refine ow_nil (into ?_)
  exact sw_ret (fun w hm => ret_two _ _ rfl rfl rfl ⟨_, some (b88, blk (([5] : List UInt8).map vU8) 5), rfl, by rw [hop]; exact RowE.full rfl (by decide), hm.only (.cons_cons _ (List.nil_sublist _))⟩)

theorem tin_any (w : World) (k : Nat) (h1 : 1 ≤ k) (h2 : k ≤ 32) (n : Nod) (hn : n.o.ok w) (hsn : n.o.small) (hbn : ¬ (n.k = 4 ∧ n.o.bm = 0)) : Calls Tryd.prog 40 #[vInt (k : Int), .agg n.cells.toArray] w fun en w' => ∃ u, en = .returned u ∧ ∃ s e', u = .tuple #[s, .bool true] ∧ RowE s 5 1 ((nodIn k n)).length (((nodIn k n)).map vU8) e' ∧ Mem w [] [e'] w' := by
  by_cases hk0 : n.k = 0
  · exact tin_0 w k h1 h2 n hn hsn hbn hk0
  by_cases hk1 : n.k = 1
  · exact tin_1 w k h1 h2 n hn hsn hbn hk1
  by_cases hk2 : n.k = 2
  · exact tin_2 w k h1 h2 n hn hsn hbn hk2
  by_cases hk3 : n.k = 3
  · exact tin_3 w k h1 h2 n hn hsn hbn hk3
  by_cases hk4 : n.k = 4
  · exact tin_4 w k h1 h2 n hn hsn hbn hk4
  by_cases hk5 : n.k = 5
  · exact tin_5 w k h1 h2 n hn hsn hbn hk5
  by_cases hk6 : n.k = 6
  · exact tin_6 w k h1 h2 n hn hsn hbn hk6
  · refine tin_7 w k h1 h2 n hn hsn hbn ?_
    rw [UInt8.lt_iff_toNat_lt]
    have e : ∀ j : UInt8, ¬ n.k = j → ¬ n.k.toNat = j.toNat := fun j h h3 => h (UInt8.toNat_inj.1 h3)
    have e0 := e 0 hk0
    have e1 := e 1 hk1
    have e2 := e 2 hk2
    have e3 := e 3 hk3
    have e4 := e 4 hk4
    have e5 := e 5 hk5
    have e6 := e 6 hk6
    show 6 < n.k.toNat
    have f0 : (0 : UInt8).toNat = 0 := rfl
    have f1 : (1 : UInt8).toNat = 1 := rfl
    have f2 : (2 : UInt8).toNat = 2 := rfl
    have f3 : (3 : UInt8).toNat = 3 := rfl
    have f4 : (4 : UInt8).toNat = 4 := rfl
    have f5 : (5 : UInt8).toNat = 5 := rfl
    have f6 : (6 : UInt8).toNat = 6 := rfl
    omega

theorem alikeO_ne {k : Nat} {a b : Nod} (h : a.k ≠ b.k) : alikeO k a b = (decide (6 < a.k) && decide (6 < b.k)) := by rw [alikeO, if_pos h]
theorem alikeO_lt {k : Nat} {a b : Nod} (h : a.k = b.k) (h6 : a.k < 6) : alikeO k a b = sameO (a.op k) (b.op k) := by rw [alikeO, if_neg (fun h2 => h2 h), if_pos h6]
theorem alikeO_ge {k : Nat} {a b : Nod} (h : a.k = b.k) (h6 : ¬ a.k < 6) : alikeO k a b = true := by rw [alikeO, if_neg (fun h2 => h2 h), if_neg h6]
theorem kids_same {k : Nat} {a b : Nod} {i : Nat} (hi : ¬ (i < (a.kids k).length ∧ i < (b.kids k).length)) (ha : i ≤ (a.kids k).length) (hb : i ≤ (b.kids k).length) (ht : (a.kids k).take i = (b.kids k).take i) :
    decide (a.o.bm = b.o.bm) = (decide (a.o.bm = b.o.bm) && decide (a.kids k = b.kids k)) := by
  by_cases h : a.o.bm = b.o.bm
  · have hl : (a.kids k).length = (b.kids k).length := by rw [Nod.kids, Nod.kids, kidsAt_len _ _ _ _ (Nat.le_refl _), kidsAt_len _ _ _ _ (Nat.le_refl _), h]
    have he : a.kids k = b.kids k := by
      rwa [List.take_of_length_le (by omega), List.take_of_length_le (by omega)] at ht
    rw [decide_eq_true h, decide_eq_true he]; rfl
  · rw [decide_eq_false h]; rfl

theorem talike_ne (w : World) (k : Nat) (h1 : 1 ≤ k) (h2 : k ≤ 32) (a : Nod) (ha : a.o.ok w) (b : Nod) (hb : b.o.ok w) (hk : a.k ≠ b.k) : Calls Tryd.prog 42 #[vInt (k : Int), .agg a.cells.toArray, .agg b.cells.toArray] w fun e w' => ∃ v, e = .returned v ∧ v = .bool (alikeO k a b) ∧ Mem w [] [] w' := by
  refine calls_of_sw (vs := [vInt (k : Int), .agg a.cells.toArray, .agg b.cells.toArray]) Tryd.func42 rfl Tryd.ntmps42 rfl (SW.begin ?_)
  refine sw_seq ?_
  refine sw_region ?_
  refine ow_new (acts_box rfl) rfl (fun b4 hb4 => ?_)   -- 4
  refine ow_new (acts_box rfl) rfl (fun b5 hb5 => ?_)   -- 5
  refine ow_val (val_assign rfl) rfl ?_   -- 6
  refine ow_nil (into ?_)
  refine sw_seq ?_
  refine sw_seq ?_
  refine sw_region ?_
  refine ow_val (val_fieldAddr (m := 0) (e := 0) rfl Tryd.underlying70 rfl rfl Tryd.sizeOf5 rfl) rfl ?_   -- 10
  refine ow_val (val_load_at 1 rfl rfl Tryd.isAgg5 rfl) rfl ?_   -- 11
  refine ow_val (val_fieldAddr (m := 0) (e := 0) rfl Tryd.underlying70 rfl rfl Tryd.sizeOf5 rfl) rfl ?_   -- 12
  refine ow_val (val_load_at 0 rfl rfl Tryd.isAgg5 rfl) rfl ?_   -- 13
  refine ow_val ((val_neq_u8 rfl rfl).to (congrArg Value.bool (decide_eq_true (hk)))) rfl ?_   -- 14
  refine ow_nil (into ?_)
  refine sw_true rfl rfl ?_
  refine sw_seq ?_
  refine sw_region ?_
  refine ow_val (val_fieldAddr (m := 0) (e := 0) rfl Tryd.underlying70 rfl rfl Tryd.sizeOf5 rfl) rfl ?_   -- 15
  refine ow_val (val_load_at 1 rfl rfl Tryd.isAgg5 rfl) rfl ?_   -- 16
  by_cases hg1 : 6 < a.k
  · -- yes
    refine ow_val ((val_gtr_u8 rfl rfl).to (congrArg Value.bool (decide_eq_true (hg1)))) rfl ?_   -- 17
    refine ow_val (val_move rfl) rfl ?_   -- 18
    refine ow_guard_yes rfl rfl rfl ?_
    refine ow_val (val_fieldAddr (m := 0) (e := 0) rfl Tryd.underlying70 rfl rfl Tryd.sizeOf5 rfl) rfl ?_   -- 19
    refine ow_guard_yes rfl rfl rfl ?_
    refine ow_val (val_load_at 0 rfl rfl Tryd.isAgg5 rfl) rfl ?_   -- 20
    by_cases hg2 : 6 < b.k
    · -- yes
      refine ow_guard_yes rfl rfl rfl ?_
      refine ow_val ((val_gtr_u8 rfl rfl).to (congrArg Value.bool (decide_eq_true (hg2)))) rfl ?_   -- 21
      refine ow_val (val_pick_true rfl rfl) rfl ?_   -- 22
      refine ow_val (val_assign rfl) rfl ?_   -- 6
      refine ow_nil (into ?_)
      refine sw_ret (fun w hm => ?_)
      try dsimp only [thenP, blockP, Nat.beq, cond]
      exact ret_one _ rfl rfl ⟨by rw [alikeO_ne hk]; simp [hg1, hg2] <;> rfl, hm.forgetAll⟩
    · -- no
      refine ow_guard_yes rfl rfl rfl ?_
      refine ow_val ((val_gtr_u8 rfl rfl).to (congrArg Value.bool (decide_eq_false (hg2)))) rfl ?_   -- 21
      refine ow_val (val_pick_true rfl rfl) rfl ?_   -- 22
      refine ow_val (val_assign rfl) rfl ?_   -- 6
      refine ow_nil (into ?_)
      refine sw_ret (fun w hm => ?_)
      try dsimp only [thenP, blockP, Nat.beq, cond]
      exact ret_one _ rfl rfl ⟨by rw [alikeO_ne hk]; simp [hg1, hg2] <;> rfl, hm.forgetAll⟩
  · -- no
    refine ow_val ((val_gtr_u8 rfl rfl).to (congrArg Value.bool (decide_eq_false (hg1)))) rfl ?_   -- 17
    refine ow_val (val_move rfl) rfl ?_   -- 18
    first | refine ow_guard_no rfl rfl rfl rfl rfl ?_ | refine ow_guard_none rfl rfl rfl rfl rfl ?_
    first | refine ow_guard_no rfl rfl rfl rfl rfl ?_ | refine ow_guard_none rfl rfl rfl rfl rfl ?_
    first | refine ow_guard_no rfl rfl rfl rfl rfl ?_ | refine ow_guard_none rfl rfl rfl rfl rfl ?_
    refine ow_val (val_pick_false rfl rfl) rfl ?_   -- 22
    refine ow_val (val_assign rfl) rfl ?_   -- 6
    refine ow_nil (into ?_)
    refine sw_ret (fun w hm => ?_)
    try dsimp only [thenP, blockP, Nat.beq, cond]
    exact ret_one _ rfl rfl ⟨by rw [alikeO_ne hk]; simp [hg1] <;> rfl, hm.forgetAll⟩

theorem talike_0 (w : World) (k : Nat) (h1 : 1 ≤ k) (h2 : k ≤ 32) (a : Nod) (ha : a.o.ok w) (b : Nod) (hb : b.o.ok w) (hkk : a.k = b.k) (hk : a.k = 0) : Calls Tryd.prog 42 #[vInt (k : Int), .agg a.cells.toArray, .agg b.cells.toArray] w fun e w' => ∃ v, e = .returned v ∧ v = .bool (alikeO k a b) ∧ Mem w [] [] w' := by
  refine calls_of_sw (vs := [vInt (k : Int), .agg a.cells.toArray, .agg b.cells.toArray]) Tryd.func42 rfl Tryd.ntmps42 rfl (SW.begin ?_)
  refine sw_seq ?_
  refine sw_region ?_
  refine ow_new (acts_box rfl) rfl (fun b4 hb4 => ?_)   -- 4
  refine ow_new (acts_box rfl) rfl (fun b5 hb5 => ?_)   -- 5
  refine ow_val (val_assign rfl) rfl ?_   -- 6
  refine ow_nil (into ?_)
  refine sw_seq ?_
  refine sw_seq ?_
  refine sw_region ?_
  refine ow_val (val_fieldAddr (m := 0) (e := 0) rfl Tryd.underlying70 rfl rfl Tryd.sizeOf5 rfl) rfl ?_   -- 10
  refine ow_val (val_load_at 1 rfl rfl Tryd.isAgg5 rfl) rfl ?_   -- 11
  refine ow_val (val_fieldAddr (m := 0) (e := 0) rfl Tryd.underlying70 rfl rfl Tryd.sizeOf5 rfl) rfl ?_   -- 12
  refine ow_val (val_load_at 0 rfl rfl Tryd.isAgg5 rfl) rfl ?_   -- 13
  refine ow_val ((val_neq_u8 rfl rfl).to (congrArg Value.bool (decide_eq_false ((fun h => h hkk))))) rfl ?_   -- 14
  refine ow_nil (into ?_)
  refine sw_false rfl rfl ?_
  refine sw_skip (into ?_)
  refine sw_seq ?_
  refine sw_seq ?_
  refine sw_region ?_
  refine ow_val (val_fieldAddr (m := 0) (e := 0) rfl Tryd.underlying70 rfl rfl Tryd.sizeOf5 rfl) rfl ?_   -- 23
  refine ow_val (val_load_at 1 rfl rfl Tryd.isAgg5 rfl) rfl ?_   -- 24
  refine ow_nil (into ?_)
  refine sw_block ?_
  refine sw_seq ?_
  refine sw_seq ?_
  refine sw_region ?_
  refine ow_val ((val_eql_u8 rfl rfl).to (congrArg Value.bool (decide_eq_true (hk)))) rfl ?_   -- 26
  refine ow_val (val_assign rfl) rfl ?_   -- 25
  refine ow_nil (into ?_)
  refine sw_true rfl rfl ?_
  refine sw_skip (into ?_)
  refine sw_true rfl rfl ?_
  refine sw_seq ?_
  refine sw_region ?_
  refine ow_val (val_fieldAddr (m := 0) (e := 1) rfl Tryd.underlying70 rfl rfl Tryd.sizeOf25 rfl) rfl ?_   -- 28
  refine ow_val (val_load_at 1 rfl rfl Tryd.isAgg25 rfl) rfl ?_   -- 29
  refine ow_val (val_fieldAddr (m := 0) (e := 1) rfl Tryd.underlying70 rfl rfl Tryd.sizeOf25 rfl) rfl ?_   -- 30
  refine ow_val (val_load_at 0 rfl rfl Tryd.isAgg25 rfl) rfl ?_   -- 31
  refine ow_call_pure (callsTo Tryd.func41 rfl (by kernel_rfl) rfl) rfl (fun w hm => tsame_any w a.o.P.a _ _ a.o.P.xs rfl (ha.p.1.mem hm) b.o.P.a _ _ b.o.P.xs rfl (hb.p.1.mem hm)) ?_   -- 32
  refine ow_val (val_assign rfl) rfl ?_   -- 6
  refine ow_nil (into ?_)
  refine sw_ret (fun w hm => ?_)
  try dsimp only [thenP, blockP, Nat.beq, cond]
  exact ret_one _ rfl rfl ⟨by rw [alikeO_lt hkk (by rw [hk]; decide)]; simp [sameO, Nod.op, hk] <;> rfl, hm.forgetAll⟩

theorem talike_1 (w : World) (k : Nat) (h1 : 1 ≤ k) (h2 : k ≤ 32) (a : Nod) (ha : a.o.ok w) (b : Nod) (hb : b.o.ok w) (hkk : a.k = b.k) (hk : a.k = 1) : Calls Tryd.prog 42 #[vInt (k : Int), .agg a.cells.toArray, .agg b.cells.toArray] w fun e w' => ∃ v, e = .returned v ∧ v = .bool (alikeO k a b) ∧ Mem w [] [] w' := by
  refine calls_of_sw (vs := [vInt (k : Int), .agg a.cells.toArray, .agg b.cells.toArray]) Tryd.func42 rfl Tryd.ntmps42 rfl (SW.begin ?_)
  refine sw_seq ?_
  refine sw_region ?_
  refine ow_new (acts_box rfl) rfl (fun b4 hb4 => ?_)   -- 4
  refine ow_new (acts_box rfl) rfl (fun b5 hb5 => ?_)   -- 5
  refine ow_val (val_assign rfl) rfl ?_   -- 6
  refine ow_nil (into ?_)
  refine sw_seq ?_
  refine sw_seq ?_
  refine sw_region ?_
  refine ow_val (val_fieldAddr (m := 0) (e := 0) rfl Tryd.underlying70 rfl rfl Tryd.sizeOf5 rfl) rfl ?_   -- 10
  refine ow_val (val_load_at 1 rfl rfl Tryd.isAgg5 rfl) rfl ?_   -- 11
  refine ow_val (val_fieldAddr (m := 0) (e := 0) rfl Tryd.underlying70 rfl rfl Tryd.sizeOf5 rfl) rfl ?_   -- 12
  refine ow_val (val_load_at 0 rfl rfl Tryd.isAgg5 rfl) rfl ?_   -- 13
  refine ow_val ((val_neq_u8 rfl rfl).to (congrArg Value.bool (decide_eq_false ((fun h => h hkk))))) rfl ?_   -- 14
  refine ow_nil (into ?_)
  refine sw_false rfl rfl ?_
  refine sw_skip (into ?_)
  refine sw_seq ?_
  refine sw_seq ?_
  refine sw_region ?_
  refine ow_val (val_fieldAddr (m := 0) (e := 0) rfl Tryd.underlying70 rfl rfl Tryd.sizeOf5 rfl) rfl ?_   -- 23
  refine ow_val (val_load_at 1 rfl rfl Tryd.isAgg5 rfl) rfl ?_   -- 24
  refine ow_nil (into ?_)
  refine sw_block ?_
  refine sw_seq ?_
  refine sw_seq ?_
  refine sw_region ?_
  refine ow_val ((val_eql_u8 rfl rfl).to (congrArg Value.bool (decide_eq_false ((by rw [hk]; decide))))) rfl ?_   -- 26
  refine ow_val (val_assign rfl) rfl ?_   -- 25
  refine ow_nil (into ?_)
  refine sw_false rfl rfl ?_
  refine sw_region ?_
  refine ow_val ((val_eql_u8 rfl rfl).to (congrArg Value.bool (decide_eq_false ((by rw [hk]; decide))))) rfl ?_   -- 27
  refine ow_val (val_assign rfl) rfl ?_   -- 25
  refine ow_nil (into ?_)
  refine sw_false rfl rfl ?_
  refine sw_seq ?_
  refine sw_region ?_
  refine ow_val ((val_eql_u8 rfl rfl).to (congrArg Value.bool (decide_eq_true (hk)))) rfl ?_   -- 34
  refine ow_val (val_assign rfl) rfl ?_   -- 33
  refine ow_nil (into ?_)
  refine sw_true rfl rfl ?_
  refine sw_seq ?_
  by_cases hL : cutw k a.o.L = cutw k b.o.L
  · -- case
    refine sw_region_lex _ [] [(0, 0), (1, 0), (4, 0), (5, 0), (2, 1), (6, 1), (3, 2), (7, 2), (8, 0), (9, 0), (10, 0), (11, 0), (14, 0), (15, 0), (12, 1), (16, 1), (13, 2), (17, 2), (18, 0), (19, 0), (20, 0)] (by kernel_rfl) (by kernel_rfl) (fun _ _ _ h => h) (fun _ h => h) (fun _ h => h.drawn _) ?_
    refine lw_pure rfl (val_move rfl) rfl ?_   -- 35
    refine lw_pure rfl (val_fieldAddr (m := 31) (e := 2) rfl Tryd.underlying70 rfl rfl Tryd.sizeOf27 rfl) rfl ?_   -- 36
    refine lw_pure rfl (val_move rfl) rfl ?_   -- 39
    refine lw_pure rfl (val_fieldAddr (m := 31) (e := 2) rfl Tryd.underlying70 rfl rfl Tryd.sizeOf27 rfl) rfl ?_   -- 40
    refine lw_held rfl (val_load_part 1 rfl rfl Tryd.isAgg27 Tryd.sizeOf27 (by show (List.map vU8 a.o.L).length = _; rw [List.length_map]; exact ha.ll) (Nod.cells_L ha)) rfl ?_   -- 37
    refine lw_held rfl (val_load_part 0 rfl rfl Tryd.isAgg27 Tryd.sizeOf27 (by show (List.map vU8 b.o.L).length = _; rw [List.length_map]; exact hb.ll) (Nod.cells_L hb)) rfl ?_   -- 41
    refine lw_call_pure rfl (callsTo Tryd.func79 rfl (by kernel_rfl) rfl) rfl (fun w hm => tcut_any k h2 a.o.L ha.ll w) ?_   -- 38
    refine lw_call_pure rfl (callsTo Tryd.func79 rfl (by kernel_rfl) rfl) rfl (fun w hm => tcut_any k h2 b.o.L hb.ll w) ?_   -- 42
    refine lw_pure rfl ((val_eql_u8s rfl rfl Tryd.eqGuardType27 Tryd.underlying27 Tryd.underlying5 Tryd.sizeOf5 Tryd.isAgg5 (cutw_len ha.ll h2) (cutw_len hb.ll h2)).to (congrArg Value.bool (decide_eq_true (hL)))) rfl ?_   -- 43
    refine lw_pure rfl (val_move rfl) rfl ?_   -- 44
    refine lwg_pure rfl (wg rfl rfl) (val_move rfl) rfl ?_   -- 45
    refine lwg_pure rfl (wg rfl rfl) (val_fieldAddr (m := 31) (e := 34) rfl Tryd.underlying70 rfl rfl Tryd.sizeOf27 rfl) rfl ?_   -- 46
    refine lwg_pure rfl (wg rfl rfl) (val_move rfl) rfl ?_   -- 49
    refine lwg_pure rfl (wg rfl rfl) (val_fieldAddr (m := 31) (e := 34) rfl Tryd.underlying70 rfl rfl Tryd.sizeOf27 rfl) rfl ?_   -- 50
    refine lwg_held rfl (wg rfl rfl) (val_load_part 1 rfl rfl Tryd.isAgg27 Tryd.sizeOf27 (by show (List.map vU8 a.o.R).length = _; rw [List.length_map]; exact ha.rl) (Nod.cells_R ha)) rfl ?_   -- 47
    refine lwg_held rfl (wg rfl rfl) (val_load_part 0 rfl rfl Tryd.isAgg27 Tryd.sizeOf27 (by show (List.map vU8 b.o.R).length = _; rw [List.length_map]; exact hb.rl) (Nod.cells_R hb)) rfl ?_   -- 51
    refine lwg_call_pure rfl (wg rfl rfl) (callsTo Tryd.func79 rfl (by kernel_rfl) rfl) rfl (fun w hm => tcut_any k h2 a.o.R ha.rl w) ?_   -- 48
    refine lwg_call_pure rfl (wg rfl rfl) (callsTo Tryd.func79 rfl (by kernel_rfl) rfl) rfl (fun w hm => tcut_any k h2 b.o.R hb.rl w) ?_   -- 52
    refine lwg_pure rfl (wg rfl rfl) (val_eql_u8s rfl rfl Tryd.eqGuardType27 Tryd.underlying27 Tryd.underlying5 Tryd.sizeOf5 Tryd.isAgg5 (cutw_len ha.rl h2) (cutw_len hb.rl h2)) rfl ?_   -- 53
    refine lw_pure rfl (val_pick_true rfl rfl) rfl ?_   -- 54
    refine lw_pure rfl (val_assign rfl) rfl ?_   -- 6
    refine lw_nil (into ?_)
    refine sw_ret (fun w hm => ?_)
    try dsimp only [thenP, blockP, Nat.beq, cond]
    exact ret_one _ rfl rfl ⟨by rw [alikeO_lt hkk (by rw [hk]; decide)]; simp [sameO, Nod.op, hk, hL] <;> rfl, hm.forgetAll⟩
  · -- case
    refine sw_region_lex _ [] [(0, 0), (1, 0), (4, 0), (5, 0), (2, 1), (6, 1), (3, 2), (7, 2), (8, 0), (9, 0), (10, 0), (11, 0), (12, 0), (13, 0), (14, 0), (15, 0), (16, 0), (17, 0), (18, 0), (19, 0), (20, 0)] (by kernel_rfl) (by kernel_rfl) (fun _ _ _ h => h) (fun _ h => h) (fun _ h => h.drawn _) ?_
    refine lw_pure rfl (val_move rfl) rfl ?_   -- 35
    refine lw_pure rfl (val_fieldAddr (m := 31) (e := 2) rfl Tryd.underlying70 rfl rfl Tryd.sizeOf27 rfl) rfl ?_   -- 36
    refine lw_pure rfl (val_move rfl) rfl ?_   -- 39
    refine lw_pure rfl (val_fieldAddr (m := 31) (e := 2) rfl Tryd.underlying70 rfl rfl Tryd.sizeOf27 rfl) rfl ?_   -- 40
    refine lw_held rfl (val_load_part 1 rfl rfl Tryd.isAgg27 Tryd.sizeOf27 (by show (List.map vU8 a.o.L).length = _; rw [List.length_map]; exact ha.ll) (Nod.cells_L ha)) rfl ?_   -- 37
    refine lw_held rfl (val_load_part 0 rfl rfl Tryd.isAgg27 Tryd.sizeOf27 (by show (List.map vU8 b.o.L).length = _; rw [List.length_map]; exact hb.ll) (Nod.cells_L hb)) rfl ?_   -- 41
    refine lw_call_pure rfl (callsTo Tryd.func79 rfl (by kernel_rfl) rfl) rfl (fun w hm => tcut_any k h2 a.o.L ha.ll w) ?_   -- 38
    refine lw_call_pure rfl (callsTo Tryd.func79 rfl (by kernel_rfl) rfl) rfl (fun w hm => tcut_any k h2 b.o.L hb.ll w) ?_   -- 42
    refine lw_pure rfl ((val_eql_u8s rfl rfl Tryd.eqGuardType27 Tryd.underlying27 Tryd.underlying5 Tryd.sizeOf5 Tryd.isAgg5 (cutw_len ha.ll h2) (cutw_len hb.ll h2)).to (congrArg Value.bool (decide_eq_false (hL)))) rfl ?_   -- 43
    refine lw_pure rfl (val_move rfl) rfl ?_   -- 44
    first | refine lwg_no rfl (ng1 rfl rfl) rfl ?_ | refine lwg_no rfl (ng2 rfl rfl) rfl ?_   -- 45
    first | refine lwg_no rfl (ng1 rfl rfl) rfl ?_ | refine lwg_no rfl (ng2 rfl rfl) rfl ?_   -- 46
    first | refine lwg_no rfl (ng1 rfl rfl) rfl ?_ | refine lwg_no rfl (ng2 rfl rfl) rfl ?_   -- 47
    first | refine lwg_no rfl (ng1 rfl rfl) rfl ?_ | refine lwg_no rfl (ng2 rfl rfl) rfl ?_   -- 48
    first | refine lwg_no rfl (ng1 rfl rfl) rfl ?_ | refine lwg_no rfl (ng2 rfl rfl) rfl ?_   -- 49
    first | refine lwg_no rfl (ng1 rfl rfl) rfl ?_ | refine lwg_no rfl (ng2 rfl rfl) rfl ?_   -- 50
    first | refine lwg_no rfl (ng1 rfl rfl) rfl ?_ | refine lwg_no rfl (ng2 rfl rfl) rfl ?_   -- 51
    first | refine lwg_no rfl (ng1 rfl rfl) rfl ?_ | refine lwg_no rfl (ng2 rfl rfl) rfl ?_   -- 52
    first | refine lwg_no rfl (ng1 rfl rfl) rfl ?_ | refine lwg_no rfl (ng2 rfl rfl) rfl ?_   -- 53
    refine lw_pure rfl (val_pick_false rfl rfl) rfl ?_   -- 54
    refine lw_pure rfl (val_assign rfl) rfl ?_   -- 6
    refine lw_nil (into ?_)
    refine sw_ret (fun w hm => ?_)
    try dsimp only [thenP, blockP, Nat.beq, cond]
    exact ret_one _ rfl rfl ⟨by rw [alikeO_lt hkk (by rw [hk]; decide)]; simp [sameO, Nod.op, hk, hL] <;> rfl, hm.forgetAll⟩

theorem talike_2 (w : World) (k : Nat) (h1 : 1 ≤ k) (h2 : k ≤ 32) (a : Nod) (ha : a.o.ok w) (b : Nod) (hb : b.o.ok w) (hkk : a.k = b.k) (hk : a.k = 2) : Calls Tryd.prog 42 #[vInt (k : Int), .agg a.cells.toArray, .agg b.cells.toArray] w fun e w' => ∃ v, e = .returned v ∧ v = .bool (alikeO k a b) ∧ Mem w [] [] w' := by
  refine calls_of_sw (vs := [vInt (k : Int), .agg a.cells.toArray, .agg b.cells.toArray]) Tryd.func42 rfl Tryd.ntmps42 rfl (SW.begin ?_)
  refine sw_seq ?_
  refine sw_region ?_
  refine ow_new (acts_box rfl) rfl (fun b4 hb4 => ?_)   -- 4
  refine ow_new (acts_box rfl) rfl (fun b5 hb5 => ?_)   -- 5
  refine ow_val (val_assign rfl) rfl ?_   -- 6
  refine ow_nil (into ?_)
  refine sw_seq ?_
  refine sw_seq ?_
  refine sw_region ?_
  refine ow_val (val_fieldAddr (m := 0) (e := 0) rfl Tryd.underlying70 rfl rfl Tryd.sizeOf5 rfl) rfl ?_   -- 10
  refine ow_val (val_load_at 1 rfl rfl Tryd.isAgg5 rfl) rfl ?_   -- 11
  refine ow_val (val_fieldAddr (m := 0) (e := 0) rfl Tryd.underlying70 rfl rfl Tryd.sizeOf5 rfl) rfl ?_   -- 12
  refine ow_val (val_load_at 0 rfl rfl Tryd.isAgg5 rfl) rfl ?_   -- 13
  refine ow_val ((val_neq_u8 rfl rfl).to (congrArg Value.bool (decide_eq_false ((fun h => h hkk))))) rfl ?_   -- 14
  refine ow_nil (into ?_)
  refine sw_false rfl rfl ?_
  refine sw_skip (into ?_)
  refine sw_seq ?_
  refine sw_seq ?_
  refine sw_region ?_
  refine ow_val (val_fieldAddr (m := 0) (e := 0) rfl Tryd.underlying70 rfl rfl Tryd.sizeOf5 rfl) rfl ?_   -- 23
  refine ow_val (val_load_at 1 rfl rfl Tryd.isAgg5 rfl) rfl ?_   -- 24
  refine ow_nil (into ?_)
  refine sw_block ?_
  refine sw_seq ?_
  refine sw_seq ?_
  refine sw_region ?_
  refine ow_val ((val_eql_u8 rfl rfl).to (congrArg Value.bool (decide_eq_false ((by rw [hk]; decide))))) rfl ?_   -- 26
  refine ow_val (val_assign rfl) rfl ?_   -- 25
  refine ow_nil (into ?_)
  refine sw_false rfl rfl ?_
  refine sw_region ?_
  refine ow_val ((val_eql_u8 rfl rfl).to (congrArg Value.bool (decide_eq_true (hk)))) rfl ?_   -- 27
  refine ow_val (val_assign rfl) rfl ?_   -- 25
  refine ow_nil (into ?_)
  refine sw_true rfl rfl ?_
  refine sw_seq ?_
  refine sw_region ?_
  refine ow_val (val_fieldAddr (m := 0) (e := 1) rfl Tryd.underlying70 rfl rfl Tryd.sizeOf25 rfl) rfl ?_   -- 28
  refine ow_val (val_load_at 1 rfl rfl Tryd.isAgg25 rfl) rfl ?_   -- 29
  refine ow_val (val_fieldAddr (m := 0) (e := 1) rfl Tryd.underlying70 rfl rfl Tryd.sizeOf25 rfl) rfl ?_   -- 30
  refine ow_val (val_load_at 0 rfl rfl Tryd.isAgg25 rfl) rfl ?_   -- 31
  refine ow_call_pure (callsTo Tryd.func41 rfl (by kernel_rfl) rfl) rfl (fun w hm => tsame_any w a.o.P.a _ _ a.o.P.xs rfl (ha.p.1.mem hm) b.o.P.a _ _ b.o.P.xs rfl (hb.p.1.mem hm)) ?_   -- 32
  refine ow_val (val_assign rfl) rfl ?_   -- 6
  refine ow_nil (into ?_)
  refine sw_ret (fun w hm => ?_)
  try dsimp only [thenP, blockP, Nat.beq, cond]
  exact ret_one _ rfl rfl ⟨by rw [alikeO_lt hkk (by rw [hk]; decide)]; simp [sameO, Nod.op, hk] <;> rfl, hm.forgetAll⟩

theorem talike_3 (w : World) (k : Nat) (h1 : 1 ≤ k) (h2 : k ≤ 32) (a : Nod) (ha : a.o.ok w) (b : Nod) (hb : b.o.ok w) (hkk : a.k = b.k) (hk : a.k = 3) : Calls Tryd.prog 42 #[vInt (k : Int), .agg a.cells.toArray, .agg b.cells.toArray] w fun e w' => ∃ v, e = .returned v ∧ v = .bool (alikeO k a b) ∧ Mem w [] [] w' := by
  refine calls_of_sw (vs := [vInt (k : Int), .agg a.cells.toArray, .agg b.cells.toArray]) Tryd.func42 rfl Tryd.ntmps42 rfl (SW.begin ?_)
  refine sw_seq ?_
  refine sw_region ?_
  refine ow_new (acts_box rfl) rfl (fun b4 hb4 => ?_)   -- 4
  refine ow_new (acts_box rfl) rfl (fun b5 hb5 => ?_)   -- 5
  refine ow_val (val_assign rfl) rfl ?_   -- 6
  refine ow_nil (into ?_)
  refine sw_seq ?_
  refine sw_seq ?_
  refine sw_region ?_
  refine ow_val (val_fieldAddr (m := 0) (e := 0) rfl Tryd.underlying70 rfl rfl Tryd.sizeOf5 rfl) rfl ?_   -- 10
  refine ow_val (val_load_at 1 rfl rfl Tryd.isAgg5 rfl) rfl ?_   -- 11
  refine ow_val (val_fieldAddr (m := 0) (e := 0) rfl Tryd.underlying70 rfl rfl Tryd.sizeOf5 rfl) rfl ?_   -- 12
  refine ow_val (val_load_at 0 rfl rfl Tryd.isAgg5 rfl) rfl ?_   -- 13
  refine ow_val ((val_neq_u8 rfl rfl).to (congrArg Value.bool (decide_eq_false ((fun h => h hkk))))) rfl ?_   -- 14
  refine ow_nil (into ?_)
  refine sw_false rfl rfl ?_
  refine sw_skip (into ?_)
  refine sw_seq ?_
  refine sw_seq ?_
  refine sw_region ?_
  refine ow_val (val_fieldAddr (m := 0) (e := 0) rfl Tryd.underlying70 rfl rfl Tryd.sizeOf5 rfl) rfl ?_   -- 23
  refine ow_val (val_load_at 1 rfl rfl Tryd.isAgg5 rfl) rfl ?_   -- 24
  refine ow_nil (into ?_)
  refine sw_block ?_
  refine sw_seq ?_
  refine sw_seq ?_
  refine sw_region ?_
  refine ow_val ((val_eql_u8 rfl rfl).to (congrArg Value.bool (decide_eq_false ((by rw [hk]; decide))))) rfl ?_   -- 26
  refine ow_val (val_assign rfl) rfl ?_   -- 25
  refine ow_nil (into ?_)
  refine sw_false rfl rfl ?_
  refine sw_region ?_
  refine ow_val ((val_eql_u8 rfl rfl).to (congrArg Value.bool (decide_eq_false ((by rw [hk]; decide))))) rfl ?_   -- 27
  refine ow_val (val_assign rfl) rfl ?_   -- 25
  refine ow_nil (into ?_)
  refine sw_false rfl rfl ?_
  refine sw_seq ?_
  refine sw_region ?_
  refine ow_val ((val_eql_u8 rfl rfl).to (congrArg Value.bool (decide_eq_false ((by rw [hk]; decide))))) rfl ?_   -- 34
  refine ow_val (val_assign rfl) rfl ?_   -- 33
  refine ow_nil (into ?_)
  refine sw_false rfl rfl ?_
  refine sw_seq ?_
  refine sw_region ?_
  refine ow_val ((val_eql_u8 rfl rfl).to (congrArg Value.bool (decide_eq_true (hk)))) rfl ?_   -- 56
  refine ow_val (val_assign rfl) rfl ?_   -- 55
  refine ow_nil (into ?_)
  refine sw_true rfl rfl ?_
  refine sw_seq ?_
  refine sw_region ?_
  refine ow_val (val_fieldAddr (m := 0) (e := 66) rfl Tryd.underlying70 rfl rfl Tryd.sizeOf43 rfl) rfl ?_   -- 57
  refine ow_val (val_load_at 1 rfl rfl Tryd.isAgg43 (Nod.c66 ha)) rfl ?_   -- 58
  refine ow_val (val_fieldAddr (m := 0) (e := 66) rfl Tryd.underlying70 rfl rfl Tryd.sizeOf43 rfl) rfl ?_   -- 59
  refine ow_val (val_load_at 0 rfl rfl Tryd.isAgg43 (Nod.c66 hb)) rfl ?_   -- 60
  refine ow_call_pure (callsTo Tryd.func81 rfl (by kernel_rfl) rfl) rfl (fun w hm => tsamePairs_any w _ _ a.o.pairs.xs (ha.pr.mem hm) (fun s hs => ⟨(ha.pe s hs).1.mem hm, (ha.pe s hs).2.mem hm⟩) ha.pm _ _ b.o.pairs.xs (hb.pr.mem hm) (fun s hs => ⟨(hb.pe s hs).1.mem hm, (hb.pe s hs).2.mem hm⟩) hb.pm) ?_   -- 61
  refine ow_val (val_assign rfl) rfl ?_   -- 6
  refine ow_nil (into ?_)
  refine sw_ret (fun w hm => ?_)
  try dsimp only [thenP, blockP, Nat.beq, cond]
  exact ret_one _ rfl rfl ⟨by rw [alikeO_lt hkk (by rw [hk]; decide)]; simp [sameO, Nod.op, hk] <;> rfl, hm.forgetAll⟩

theorem talike_4 (w : World) (k : Nat) (h1 : 1 ≤ k) (h2 : k ≤ 32) (a : Nod) (ha : a.o.ok w) (b : Nod) (hb : b.o.ok w) (hkk : a.k = b.k) (hk : a.k = 4) : Calls Tryd.prog 42 #[vInt (k : Int), .agg a.cells.toArray, .agg b.cells.toArray] w fun e w' => ∃ v, e = .returned v ∧ v = .bool (alikeO k a b) ∧ Mem w [] [] w' := by
  have hsame : sameO (a.op k) (b.op k) = (decide (a.o.bm = b.o.bm) && decide (a.kids k = b.kids k)) := by simp [sameO, Nod.op, hk]
  have hlX : (a.kids k).length ≤ 16 := by rw [Nod.kids, kidsAt_len _ _ _ _ (Nat.le_refl _)]; exact onesF_le _ _
  have hlY : (b.kids k).length ≤ 16 := by rw [Nod.kids, kidsAt_len _ _ _ _ (Nat.le_refl _)]; exact onesF_le _ _
  refine calls_of_sw (vs := [vInt (k : Int), .agg a.cells.toArray, .agg b.cells.toArray]) Tryd.func42 rfl Tryd.ntmps42 rfl (SW.begin ?_)
  refine sw_seq ?_
  refine sw_region ?_
  refine ow_new (acts_box rfl) rfl (fun b4 hb4 => ?_)   -- 4
  refine ow_new (acts_box rfl) rfl (fun b5 hb5 => ?_)   -- 5
  refine ow_val (val_assign rfl) rfl ?_   -- 6
  refine ow_nil (into ?_)
  refine sw_seq ?_
  refine sw_seq ?_
  refine sw_region ?_
  refine ow_val (val_fieldAddr (m := 0) (e := 0) rfl Tryd.underlying70 rfl rfl Tryd.sizeOf5 rfl) rfl ?_   -- 10
  refine ow_val (val_load_at 1 rfl rfl Tryd.isAgg5 rfl) rfl ?_   -- 11
  refine ow_val (val_fieldAddr (m := 0) (e := 0) rfl Tryd.underlying70 rfl rfl Tryd.sizeOf5 rfl) rfl ?_   -- 12
  refine ow_val (val_load_at 0 rfl rfl Tryd.isAgg5 rfl) rfl ?_   -- 13
  refine ow_val ((val_neq_u8 rfl rfl).to (congrArg Value.bool (decide_eq_false ((fun h => h hkk))))) rfl ?_   -- 14
  refine ow_nil (into ?_)
  refine sw_false rfl rfl ?_
  refine sw_skip (into ?_)
  refine sw_seq ?_
  refine sw_seq ?_
  refine sw_region ?_
  refine ow_val (val_fieldAddr (m := 0) (e := 0) rfl Tryd.underlying70 rfl rfl Tryd.sizeOf5 rfl) rfl ?_   -- 23
  refine ow_val (val_load_at 1 rfl rfl Tryd.isAgg5 rfl) rfl ?_   -- 24
  refine ow_nil (into ?_)
  refine sw_block ?_
  refine sw_seq ?_
  refine sw_seq ?_
  refine sw_region ?_
  refine ow_val ((val_eql_u8 rfl rfl).to (congrArg Value.bool (decide_eq_false ((by rw [hk]; decide))))) rfl ?_   -- 26
  refine ow_val (val_assign rfl) rfl ?_   -- 25
  refine ow_nil (into ?_)
  refine sw_false rfl rfl ?_
  refine sw_region ?_
  refine ow_val ((val_eql_u8 rfl rfl).to (congrArg Value.bool (decide_eq_false ((by rw [hk]; decide))))) rfl ?_   -- 27
  refine ow_val (val_assign rfl) rfl ?_   -- 25
  refine ow_nil (into ?_)
  refine sw_false rfl rfl ?_
  refine sw_seq ?_
  refine sw_region ?_
  refine ow_val ((val_eql_u8 rfl rfl).to (congrArg Value.bool (decide_eq_false ((by rw [hk]; decide))))) rfl ?_   -- 34
  refine ow_val (val_assign rfl) rfl ?_   -- 33
  refine ow_nil (into ?_)
  refine sw_false rfl rfl ?_
  refine sw_seq ?_
  refine sw_region ?_
  refine ow_val ((val_eql_u8 rfl rfl).to (congrArg Value.bool (decide_eq_false ((by rw [hk]; decide))))) rfl ?_   -- 56
  refine ow_val (val_assign rfl) rfl ?_   -- 55
  refine ow_nil (into ?_)
  refine sw_false rfl rfl ?_
  refine sw_seq ?_
  refine sw_region ?_
  refine ow_val ((val_eql_u8 rfl rfl).to (congrArg Value.bool (decide_eq_true (hk)))) rfl ?_   -- 63
  refine ow_val (val_assign rfl) rfl ?_   -- 62
  refine ow_nil (into ?_)
  refine sw_true rfl rfl ?_
  refine sw_seq ?_
  refine sw_region ?_
  refine ow_val (val_move rfl) rfl ?_   -- 64
  refine ow_val (val_load_part 1 rfl rfl Tryd.isAgg70 Tryd.sizeOf70 (Nod.cells_len ha) (show List.take 134 a.cells = a.cells from List.take_of_length_le (Nat.le_of_eq (Nod.cells_len ha)))) rfl ?_   -- 65
  refine ow_call_row (E := 27) (size := 32) (k := (a.kids k).length) (xs := (a.kids k).flatMap fun d => d.map vU8) (callsTo Tryd.func80 rfl (by kernel_rfl) rfl) rfl (fun w hm => tkids_any w k h1 h2 a (Cop.ok.mem ha hm)) (fun a66 c66 e66 hr66 => ?_)   -- 66
  refine ow_val (val_assign rfl) rfl ?_   -- 7
  refine ow_nil (into ?_)
  refine sw_seq ?_
  refine sw_region ?_
  refine ow_val (val_move rfl) rfl ?_   -- 67
  refine ow_val (val_load_part 1 rfl rfl Tryd.isAgg70 Tryd.sizeOf70 (Nod.cells_len hb) (show List.take 134 b.cells = b.cells from List.take_of_length_le (Nat.le_of_eq (Nod.cells_len hb)))) rfl ?_   -- 68
  refine ow_call_row (E := 27) (size := 32) (k := (b.kids k).length) (xs := (b.kids k).flatMap fun d => d.map vU8) (callsTo Tryd.func80 rfl (by kernel_rfl) rfl) rfl (fun w hm => tkids_any w k h1 h2 b (Cop.ok.mem hb hm)) (fun a69 c69 e69 hr69 => ?_)   -- 69
  refine ow_val (val_assign rfl) rfl ?_   -- 8
  refine ow_nil (into ?_)
  refine sw_seq ?_
  refine sw_seq ?_
  refine sw_region ?_
  refine ow_val (val_assign rfl) rfl ?_   -- 9
  refine ow_nil (into ?_)
  refine sw_block ?_
  refine sw_loop (σ := Nat) (fun i => i ≤ (a.kids k).length ∧ i ≤ (b.kids k).length ∧ (a.kids k).take i = (b.kids k).take i) (fun i => [(9, vInt (i : Int)), (8, .slice a69 (b.kids k).length c69), (7, .slice a66 (a.kids k).length c66), (5, .pointer (some ⟨b5, 0, none⟩)), (4, .pointer (some ⟨b4, 0, none⟩)), (0, vInt (k : Int))]) (fun _ => Mem w [] [e69, e66, some (b5, blk b.cells 70), some (b4, blk a.cells 70)]) (fun i => (a.kids k).length - i) 0 ⟨Nat.zero_le _, Nat.zero_le _, by simp⟩ ⟨rfl, rfl, rfl, rfl, rfl, rfl, trivial⟩ (fun w hm => hm) ?_
  rintro i ⟨hiX, hiY, hit⟩
  refine sw_seq ?_
  refine sw_seq ?_
  rcases two_cases (i < (a.kids k).length) (i < (b.kids k).length) with ⟨hi1, hi2⟩ | ⟨hi1, hi2⟩ | hi1
  · -- case
    refine sw_region ?_
    refine ow_val (val_move rfl) rfl ?_   -- 70
    refine ow_val (val_move rfl) rfl ?_   -- 71
    refine ow_val (val_len rfl Tryd.underlying45) rfl ?_   -- 72
    refine ow_val ((val_lss_int rfl rfl).to (congrArg Value.bool (decide_eq_true (by omega)))) rfl ?_   -- 73
    refine ow_val (val_move rfl) rfl ?_   -- 74
    refine ow_guard_yes rfl rfl rfl ?_
    refine ow_val (val_move rfl) rfl ?_   -- 75
    refine ow_guard_yes rfl rfl rfl ?_
    refine ow_val (val_move rfl) rfl ?_   -- 76
    refine ow_guard_yes rfl rfl rfl ?_
    refine ow_val (val_len rfl Tryd.underlying45) rfl ?_   -- 77
    refine ow_guard_yes rfl rfl rfl ?_
    refine ow_val ((val_lss_int rfl rfl).to (congrArg Value.bool (decide_eq_true (by omega)))) rfl ?_   -- 78
    refine ow_val (val_pick_true rfl rfl) rfl ?_   -- 79
    refine ow_nil (into ?_)
    refine sw_true rfl rfl ?_
    refine sw_skip (into ?_)
    refine sw_seq ?_
    refine sw_block ?_
    refine sw_seq ?_
    by_cases hke : (a.kids k).getD i default ≠ (b.kids k).getD i default
    · -- case
      obtain ⟨bx, rfl⟩ := hr66.addr0 (by omega)
      obtain ⟨by_, rfl⟩ := hr69.addr0 (by omega)
      refine sw_region_lex _ [] [(0, 0), (1, 0), (2, 0), (4, 0), (5, 0), (6, 0), (3, 1), (7, 1), (8, 0)] (by kernel_rfl) (by kernel_rfl) (fun _ _ _ h => h) (fun _ h => h) (fun _ h => h.drawn _) ?_
      refine lw_pure rfl (val_move rfl) rfl ?_   -- 82
      refine lw_pure rfl (val_move rfl) rfl ?_   -- 83
      refine lw_pure rfl (val_indexAddr_slice (i) (i * 32) rfl rfl Tryd.underlying45 Tryd.sizeOf27 (by omega) (by omega) (by omega)) rfl ?_   -- 84
      refine lw_pure rfl (val_move rfl) rfl ?_   -- 86
      refine lw_pure rfl (val_move rfl) rfl ?_   -- 87
      refine lw_pure rfl (val_indexAddr_slice (i) (i * 32) rfl rfl Tryd.underlying45 Tryd.sizeOf27 (by omega) (by omega) (by omega)) rfl ?_   -- 88
      refine lw_held rfl (val_load_elem (cells := fun d => d.map vU8) (l := (a.kids k)) (o := 0) (i := i) rfl Tryd.isAgg27 Tryd.sizeOf27 (fun x hx => by rw [List.length_map]; exact (fun d hd => (kidsAt_mem h2 ha.ke 16 d hd).1) x hx) (by omega) (by omega) (fun w' hm => hr66.rdAt hm (i := 1) rfl)) rfl ?_   -- 85
      refine lw_held rfl (val_load_elem (cells := fun d => d.map vU8) (l := (b.kids k)) (o := 0) (i := i) rfl Tryd.isAgg27 Tryd.sizeOf27 (fun x hx => by rw [List.length_map]; exact (fun d hd => (kidsAt_mem h2 hb.ke 16 d hd).1) x hx) (by omega) (by omega) (fun w' hm => hr69.rdAt hm (i := 0) rfl)) rfl ?_   -- 89
      refine lw_pure rfl ((val_neq_u8s rfl rfl Tryd.eqGuardType27 Tryd.underlying27 Tryd.underlying5 Tryd.sizeOf5 Tryd.isAgg5 ((kidsAt_mem h2 ha.ke 16 _ (getD_mem (l := a.kids k) hi1)).1) ((kidsAt_mem h2 hb.ke 16 _ (getD_mem (l := b.kids k) hi2)).1)).to (congrArg Value.bool (by rw [decide_eq_false hke] <;> rfl))) rfl ?_   -- 90
      refine lw_nil (into ?_)
      refine sw_true rfl rfl ?_
      refine sw_seq ?_
      refine sw_region ?_
      refine ow_val (val_assign rfl) rfl ?_   -- 6
      refine ow_nil (into ?_)
      refine sw_ret (fun w hm => ?_)
      try dsimp only [thenP, blockP, Nat.beq, cond]
      exact ret_one _ rfl rfl ⟨by rw [alikeO_lt hkk (by rw [hk]; decide), hsame, decide_eq_false (getD_ne' hke), Bool.and_false] <;> rfl, hm.forgetAll⟩
    · -- case
      obtain ⟨bx, rfl⟩ := hr66.addr0 (by omega)
      obtain ⟨by_, rfl⟩ := hr69.addr0 (by omega)
      refine sw_region_lex _ [] [(0, 0), (1, 0), (2, 0), (4, 0), (5, 0), (6, 0), (3, 1), (7, 1), (8, 0)] (by kernel_rfl) (by kernel_rfl) (fun _ _ _ h => h) (fun _ h => h) (fun _ h => h.drawn _) ?_
      refine lw_pure rfl (val_move rfl) rfl ?_   -- 82
      refine lw_pure rfl (val_move rfl) rfl ?_   -- 83
      refine lw_pure rfl (val_indexAddr_slice (i) (i * 32) rfl rfl Tryd.underlying45 Tryd.sizeOf27 (by omega) (by omega) (by omega)) rfl ?_   -- 84
      refine lw_pure rfl (val_move rfl) rfl ?_   -- 86
      refine lw_pure rfl (val_move rfl) rfl ?_   -- 87
      refine lw_pure rfl (val_indexAddr_slice (i) (i * 32) rfl rfl Tryd.underlying45 Tryd.sizeOf27 (by omega) (by omega) (by omega)) rfl ?_   -- 88
      refine lw_held rfl (val_load_elem (cells := fun d => d.map vU8) (l := (a.kids k)) (o := 0) (i := i) rfl Tryd.isAgg27 Tryd.sizeOf27 (fun x hx => by rw [List.length_map]; exact (fun d hd => (kidsAt_mem h2 ha.ke 16 d hd).1) x hx) (by omega) (by omega) (fun w' hm => hr66.rdAt hm (i := 1) rfl)) rfl ?_   -- 85
      refine lw_held rfl (val_load_elem (cells := fun d => d.map vU8) (l := (b.kids k)) (o := 0) (i := i) rfl Tryd.isAgg27 Tryd.sizeOf27 (fun x hx => by rw [List.length_map]; exact (fun d hd => (kidsAt_mem h2 hb.ke 16 d hd).1) x hx) (by omega) (by omega) (fun w' hm => hr69.rdAt hm (i := 0) rfl)) rfl ?_   -- 89
      refine lw_pure rfl ((val_neq_u8s rfl rfl Tryd.eqGuardType27 Tryd.underlying27 Tryd.underlying5 Tryd.sizeOf5 Tryd.isAgg5 ((kidsAt_mem h2 ha.ke 16 _ (getD_mem (l := a.kids k) hi1)).1) ((kidsAt_mem h2 hb.ke 16 _ (getD_mem (l := b.kids k) hi2)).1)).to (congrArg Value.bool (by rw [decide_eq_true (Decidable.not_not.1 hke)] <;> rfl))) rfl ?_   -- 90
      refine lw_nil (into ?_)
      refine sw_false rfl rfl ?_
      refine sw_skip (into ?_)
      refine sw_region ?_
      refine ow_val (val_move rfl) rfl ?_   -- 80
      refine ow_val (val_add_int ((i + 1 : Nat) : Int) rfl rfl (by omega) (by omega)) rfl ?_   -- 81
      refine ow_val (val_assign rfl) rfl ?_   -- 9
      exact ow_nil (fun w hm => ⟨i + 1, ⟨by omega, by omega, take_step (by omega) (by omega) hit (Decidable.not_not.1 hke)⟩, by omega, ⟨rfl, rfl, rfl, rfl, rfl, rfl, trivial⟩, hm⟩)
  · -- case
    have hend : ¬ (i < (a.kids k).length ∧ i < (b.kids k).length) := fun h => hi2 h.2
    refine sw_region ?_
    refine ow_val (val_move rfl) rfl ?_   -- 70
    refine ow_val (val_move rfl) rfl ?_   -- 71
    refine ow_val (val_len rfl Tryd.underlying45) rfl ?_   -- 72
    refine ow_val ((val_lss_int rfl rfl).to (congrArg Value.bool (decide_eq_true (by omega)))) rfl ?_   -- 73
    refine ow_val (val_move rfl) rfl ?_   -- 74
    refine ow_guard_yes rfl rfl rfl ?_
    refine ow_val (val_move rfl) rfl ?_   -- 75
    refine ow_guard_yes rfl rfl rfl ?_
    refine ow_val (val_move rfl) rfl ?_   -- 76
    refine ow_guard_yes rfl rfl rfl ?_
    refine ow_val (val_len rfl Tryd.underlying45) rfl ?_   -- 77
    refine ow_guard_yes rfl rfl rfl ?_
    refine ow_val ((val_lss_int rfl rfl).to (congrArg Value.bool (decide_eq_false (by omega)))) rfl ?_   -- 78
    refine ow_val (val_pick_true rfl rfl) rfl ?_   -- 79
    refine ow_nil (into ?_)
    refine sw_false rfl rfl ?_
    refine sw_exit (into ?_)
    refine sw_seq ?_
    refine sw_region ?_
    refine ow_val (val_fieldAddr (m := 0) (e := 67) rfl Tryd.underlying70 rfl rfl Tryd.sizeOf44 rfl) rfl ?_   -- 91
    refine ow_val (val_load_at 3 rfl rfl Tryd.isAgg44 (Nod.c67 ha)) rfl ?_   -- 92
    refine ow_val (val_fieldAddr (m := 0) (e := 67) rfl Tryd.underlying70 rfl rfl Tryd.sizeOf44 rfl) rfl ?_   -- 93
    refine ow_val (val_load_at 2 rfl rfl Tryd.isAgg44 (Nod.c67 hb)) rfl ?_   -- 94
    refine ow_val (val_eql_u16 rfl rfl) rfl ?_   -- 95
    refine ow_val (val_assign rfl) rfl ?_   -- 6
    refine ow_nil (into ?_)
    refine sw_ret (fun w hm => ?_)
    try dsimp only [thenP, blockP, Nat.beq, cond]
    exact ret_one _ rfl rfl ⟨by rw [alikeO_lt hkk (by rw [hk]; decide), hsame]; exact congrArg Value.bool (kids_same hend hiX hiY hit), hm.forgetAll⟩
  · -- case
    have hend : ¬ (i < (a.kids k).length ∧ i < (b.kids k).length) := fun h => hi1 h.1
    refine sw_region ?_
    refine ow_val (val_move rfl) rfl ?_   -- 70
    refine ow_val (val_move rfl) rfl ?_   -- 71
    refine ow_val (val_len rfl Tryd.underlying45) rfl ?_   -- 72
    refine ow_val ((val_lss_int rfl rfl).to (congrArg Value.bool (decide_eq_false (by omega)))) rfl ?_   -- 73
    refine ow_val (val_move rfl) rfl ?_   -- 74
    first | refine ow_guard_no rfl rfl rfl rfl rfl ?_ | refine ow_guard_none rfl rfl rfl rfl rfl ?_
    first | refine ow_guard_no rfl rfl rfl rfl rfl ?_ | refine ow_guard_none rfl rfl rfl rfl rfl ?_
    first | refine ow_guard_no rfl rfl rfl rfl rfl ?_ | refine ow_guard_none rfl rfl rfl rfl rfl ?_
    first | refine ow_guard_no rfl rfl rfl rfl rfl ?_ | refine ow_guard_none rfl rfl rfl rfl rfl ?_
    refine ow_val (val_pick_false rfl rfl) rfl ?_   -- 79
    refine ow_nil (into ?_)
    refine sw_false rfl rfl ?_
    refine sw_exit (into ?_)
    refine sw_seq ?_
    refine sw_region ?_
    refine ow_val (val_fieldAddr (m := 0) (e := 67) rfl Tryd.underlying70 rfl rfl Tryd.sizeOf44 rfl) rfl ?_   -- 91
    refine ow_val (val_load_at 3 rfl rfl Tryd.isAgg44 (Nod.c67 ha)) rfl ?_   -- 92
    refine ow_val (val_fieldAddr (m := 0) (e := 67) rfl Tryd.underlying70 rfl rfl Tryd.sizeOf44 rfl) rfl ?_   -- 93
    refine ow_val (val_load_at 2 rfl rfl Tryd.isAgg44 (Nod.c67 hb)) rfl ?_   -- 94
    refine ow_val (val_eql_u16 rfl rfl) rfl ?_   -- 95
    refine ow_val (val_assign rfl) rfl ?_   -- 6
    refine ow_nil (into ?_)
    refine sw_ret (fun w hm => ?_)
    try dsimp only [thenP, blockP, Nat.beq, cond]
    exact ret_one _ rfl rfl ⟨by rw [alikeO_lt hkk (by rw [hk]; decide), hsame]; exact congrArg Value.bool (kids_same hend hiX hiY hit), hm.forgetAll⟩

theorem talike_5 (w : World) (k : Nat) (h1 : 1 ≤ k) (h2 : k ≤ 32) (a : Nod) (ha : a.o.ok w) (b : Nod) (hb : b.o.ok w) (hkk : a.k = b.k) (hk : a.k = 5) : Calls Tryd.prog 42 #[vInt (k : Int), .agg a.cells.toArray, .agg b.cells.toArray] w fun e w' => ∃ v, e = .returned v ∧ v = .bool (alikeO k a b) ∧ Mem w [] [] w' := by
  refine calls_of_sw (vs := [vInt (k : Int), .agg a.cells.toArray, .agg b.cells.toArray]) Tryd.func42 rfl Tryd.ntmps42 rfl (SW.begin ?_)
  refine sw_seq ?_
  refine sw_region ?_
  refine ow_new (acts_box rfl) rfl (fun b4 hb4 => ?_)   -- 4
  refine ow_new (acts_box rfl) rfl (fun b5 hb5 => ?_)   -- 5
  refine ow_val (val_assign rfl) rfl ?_   -- 6
  refine ow_nil (into ?_)
  refine sw_seq ?_
  refine sw_seq ?_
  refine sw_region ?_
  refine ow_val (val_fieldAddr (m := 0) (e := 0) rfl Tryd.underlying70 rfl rfl Tryd.sizeOf5 rfl) rfl ?_   -- 10
  refine ow_val (val_load_at 1 rfl rfl Tryd.isAgg5 rfl) rfl ?_   -- 11
  refine ow_val (val_fieldAddr (m := 0) (e := 0) rfl Tryd.underlying70 rfl rfl Tryd.sizeOf5 rfl) rfl ?_   -- 12
  refine ow_val (val_load_at 0 rfl rfl Tryd.isAgg5 rfl) rfl ?_   -- 13
  refine ow_val ((val_neq_u8 rfl rfl).to (congrArg Value.bool (decide_eq_false ((fun h => h hkk))))) rfl ?_   -- 14
  refine ow_nil (into ?_)
  refine sw_false rfl rfl ?_
  refine sw_skip (into ?_)
  refine sw_seq ?_
  refine sw_seq ?_
  refine sw_region ?_
  refine ow_val (val_fieldAddr (m := 0) (e := 0) rfl Tryd.underlying70 rfl rfl Tryd.sizeOf5 rfl) rfl ?_   -- 23
  refine ow_val (val_load_at 1 rfl rfl Tryd.isAgg5 rfl) rfl ?_   -- 24
  refine ow_nil (into ?_)
  refine sw_block ?_
  refine sw_seq ?_
  refine sw_seq ?_
  refine sw_region ?_
  refine ow_val ((val_eql_u8 rfl rfl).to (congrArg Value.bool (decide_eq_false ((by rw [hk]; decide))))) rfl ?_   -- 26
  refine ow_val (val_assign rfl) rfl ?_   -- 25
  refine ow_nil (into ?_)
  refine sw_false rfl rfl ?_
  refine sw_region ?_
  refine ow_val ((val_eql_u8 rfl rfl).to (congrArg Value.bool (decide_eq_false ((by rw [hk]; decide))))) rfl ?_   -- 27
  refine ow_val (val_assign rfl) rfl ?_   -- 25
  refine ow_nil (into ?_)
  refine sw_false rfl rfl ?_
  refine sw_seq ?_
  refine sw_region ?_
  refine ow_val ((val_eql_u8 rfl rfl).to (congrArg Value.bool (decide_eq_false ((by rw [hk]; decide))))) rfl ?_   -- 34
  refine ow_val (val_assign rfl) rfl ?_   -- 33
  refine ow_nil (into ?_)
  refine sw_false rfl rfl ?_
  refine sw_seq ?_
  refine sw_region ?_
  refine ow_val ((val_eql_u8 rfl rfl).to (congrArg Value.bool (decide_eq_false ((by rw [hk]; decide))))) rfl ?_   -- 56
  refine ow_val (val_assign rfl) rfl ?_   -- 55
  refine ow_nil (into ?_)
  refine sw_false rfl rfl ?_
  refine sw_seq ?_
  refine sw_region ?_
  refine ow_val ((val_eql_u8 rfl rfl).to (congrArg Value.bool (decide_eq_false ((by rw [hk]; decide))))) rfl ?_   -- 63
  refine ow_val (val_assign rfl) rfl ?_   -- 62
  refine ow_nil (into ?_)
  refine sw_false rfl rfl ?_
  refine sw_seq ?_
  refine sw_region ?_
  refine ow_val ((val_eql_u8 rfl rfl).to (congrArg Value.bool (decide_eq_true (hk)))) rfl ?_   -- 97
  refine ow_val (val_assign rfl) rfl ?_   -- 96
  refine ow_nil (into ?_)
  refine sw_true rfl rfl ?_
  refine sw_seq ?_
  rcases two_cases (a.o.size = b.o.size) (cutw k a.o.log = cutw k b.o.log) with ⟨hS, hG⟩ | ⟨hS, hG⟩ | hS
  · -- case
    refine sw_region_lex _ [] [(0, 0), (1, 0), (3, 0), (4, 0), (2, 1), (5, 1), (6, 0), (7, 0), (8, 0), (9, 0), (10, 0), (13, 0), (14, 0), (15, 0), (11, 1), (16, 1), (12, 2), (17, 2), (18, 0), (19, 0), (20, 0), (21, 0), (22, 0), (23, 0), (26, 0), (27, 0), (28, 0), (24, 1), (29, 1), (25, 2), (30, 2), (31, 0), (32, 0), (33, 0)] (by kernel_rfl) (by kernel_rfl) (fun _ _ _ h => h) (fun _ h => h) (fun _ h => h.drawn _) ?_
    refine lw_pure rfl (val_fieldAddr (m := 64) (e := 69) rfl Tryd.underlying70 rfl rfl Tryd.sizeOf48 rfl) rfl ?_   -- 98
    refine lw_pure rfl (val_fieldAddr (m := 0) (e := 69) rfl Tryd.underlying48 rfl rfl Tryd.sizeOf46 rfl) rfl ?_   -- 99
    refine lw_pure rfl (val_fieldAddr (m := 64) (e := 69) rfl Tryd.underlying70 rfl rfl Tryd.sizeOf48 rfl) rfl ?_   -- 101
    refine lw_pure rfl (val_fieldAddr (m := 0) (e := 69) rfl Tryd.underlying48 rfl rfl Tryd.sizeOf46 rfl) rfl ?_   -- 102
    refine lw_held rfl (val_load_at 1 rfl rfl Tryd.isAgg46 (Nod.c69 ha)) rfl ?_   -- 100
    refine lw_held rfl (val_load_at 0 rfl rfl Tryd.isAgg46 (Nod.c69 hb)) rfl ?_   -- 103
    refine lw_pure rfl ((val_eql_u64 rfl rfl).to (congrArg Value.bool (decide_eq_true (hS)))) rfl ?_   -- 104
    refine lw_pure rfl (val_move rfl) rfl ?_   -- 105
    refine lwg_pure rfl (wg rfl rfl) (val_move rfl) rfl ?_   -- 106
    refine lwg_pure rfl (wg rfl rfl) (val_fieldAddr (m := 64) (e := 69) rfl Tryd.underlying70 rfl rfl Tryd.sizeOf48 rfl) rfl ?_   -- 107
    refine lwg_pure rfl (wg rfl rfl) (val_fieldAddr (m := 31) (e := 70) rfl Tryd.underlying48 rfl rfl Tryd.sizeOf27 rfl) rfl ?_   -- 108
    refine lwg_pure rfl (wg rfl rfl) (val_move rfl) rfl ?_   -- 111
    refine lwg_pure rfl (wg rfl rfl) (val_fieldAddr (m := 64) (e := 69) rfl Tryd.underlying70 rfl rfl Tryd.sizeOf48 rfl) rfl ?_   -- 112
    refine lwg_pure rfl (wg rfl rfl) (val_fieldAddr (m := 31) (e := 70) rfl Tryd.underlying48 rfl rfl Tryd.sizeOf27 rfl) rfl ?_   -- 113
    refine lwg_held rfl (wg rfl rfl) (val_load_part 1 rfl rfl Tryd.isAgg27 Tryd.sizeOf27 (by show (List.map vU8 a.o.log).length = _; rw [List.length_map]; exact ha.gl) (Nod.cells_log ha)) rfl ?_   -- 109
    refine lwg_held rfl (wg rfl rfl) (val_load_part 0 rfl rfl Tryd.isAgg27 Tryd.sizeOf27 (by show (List.map vU8 b.o.log).length = _; rw [List.length_map]; exact hb.gl) (Nod.cells_log hb)) rfl ?_   -- 114
    refine lwg_call_pure rfl (wg rfl rfl) (callsTo Tryd.func79 rfl (by kernel_rfl) rfl) rfl (fun w hm => tcut_any k h2 a.o.log ha.gl w) ?_   -- 110
    refine lwg_call_pure rfl (wg rfl rfl) (callsTo Tryd.func79 rfl (by kernel_rfl) rfl) rfl (fun w hm => tcut_any k h2 b.o.log hb.gl w) ?_   -- 115
    refine lwg_pure rfl (wg rfl rfl) ((val_eql_u8s rfl rfl Tryd.eqGuardType27 Tryd.underlying27 Tryd.underlying5 Tryd.sizeOf5 Tryd.isAgg5 (cutw_len ha.gl h2) (cutw_len hb.gl h2)).to (congrArg Value.bool (decide_eq_true (hG)))) rfl ?_   -- 116
    refine lw_pure rfl (val_pick_true rfl rfl) rfl ?_   -- 117
    refine lw_pure rfl (val_move rfl) rfl ?_   -- 118
    refine lwg_pure rfl (wg rfl rfl) (val_move rfl) rfl ?_   -- 119
    refine lwg_pure rfl (wg rfl rfl) (val_fieldAddr (m := 64) (e := 69) rfl Tryd.underlying70 rfl rfl Tryd.sizeOf48 rfl) rfl ?_   -- 120
    refine lwg_pure rfl (wg rfl rfl) (val_fieldAddr (m := 31) (e := 102) rfl Tryd.underlying48 rfl rfl Tryd.sizeOf27 rfl) rfl ?_   -- 121
    refine lwg_pure rfl (wg rfl rfl) (val_move rfl) rfl ?_   -- 124
    refine lwg_pure rfl (wg rfl rfl) (val_fieldAddr (m := 64) (e := 69) rfl Tryd.underlying70 rfl rfl Tryd.sizeOf48 rfl) rfl ?_   -- 125
    refine lwg_pure rfl (wg rfl rfl) (val_fieldAddr (m := 31) (e := 102) rfl Tryd.underlying48 rfl rfl Tryd.sizeOf27 rfl) rfl ?_   -- 126
    refine lwg_held rfl (wg rfl rfl) (val_load_part 1 rfl rfl Tryd.isAgg27 Tryd.sizeOf27 (by show (List.map vU8 a.o.map).length = _; rw [List.length_map]; exact ha.ml) (Nod.cells_map ha)) rfl ?_   -- 122
    refine lwg_held rfl (wg rfl rfl) (val_load_part 0 rfl rfl Tryd.isAgg27 Tryd.sizeOf27 (by show (List.map vU8 b.o.map).length = _; rw [List.length_map]; exact hb.ml) (Nod.cells_map hb)) rfl ?_   -- 127
    refine lwg_call_pure rfl (wg rfl rfl) (callsTo Tryd.func79 rfl (by kernel_rfl) rfl) rfl (fun w hm => tcut_any k h2 a.o.map ha.ml w) ?_   -- 123
    refine lwg_call_pure rfl (wg rfl rfl) (callsTo Tryd.func79 rfl (by kernel_rfl) rfl) rfl (fun w hm => tcut_any k h2 b.o.map hb.ml w) ?_   -- 128
    refine lwg_pure rfl (wg rfl rfl) (val_eql_u8s rfl rfl Tryd.eqGuardType27 Tryd.underlying27 Tryd.underlying5 Tryd.sizeOf5 Tryd.isAgg5 (cutw_len ha.ml h2) (cutw_len hb.ml h2)) rfl ?_   -- 129
    refine lw_pure rfl (val_pick_true rfl rfl) rfl ?_   -- 130
    refine lw_pure rfl (val_assign rfl) rfl ?_   -- 6
    refine lw_nil (into ?_)
    refine sw_ret (fun w hm => ?_)
    try dsimp only [thenP, blockP, Nat.beq, cond]
    exact ret_one _ rfl rfl ⟨by rw [alikeO_lt hkk (by rw [hk]; decide)]; simp [sameO, Nod.op, hk, hS, hG] <;> rfl, hm.forgetAll⟩
  · -- case
    refine sw_region_lex _ [] [(0, 0), (1, 0), (3, 0), (4, 0), (2, 1), (5, 1), (6, 0), (7, 0), (8, 0), (9, 0), (10, 0), (13, 0), (14, 0), (15, 0), (11, 1), (16, 1), (12, 2), (17, 2), (18, 0), (19, 0), (20, 0), (21, 0), (22, 0), (23, 0), (24, 0), (25, 0), (26, 0), (27, 0), (28, 0), (29, 0), (30, 0), (31, 0), (32, 0), (33, 0)] (by kernel_rfl) (by kernel_rfl) (fun _ _ _ h => h) (fun _ h => h) (fun _ h => h.drawn _) ?_
    refine lw_pure rfl (val_fieldAddr (m := 64) (e := 69) rfl Tryd.underlying70 rfl rfl Tryd.sizeOf48 rfl) rfl ?_   -- 98
    refine lw_pure rfl (val_fieldAddr (m := 0) (e := 69) rfl Tryd.underlying48 rfl rfl Tryd.sizeOf46 rfl) rfl ?_   -- 99
    refine lw_pure rfl (val_fieldAddr (m := 64) (e := 69) rfl Tryd.underlying70 rfl rfl Tryd.sizeOf48 rfl) rfl ?_   -- 101
    refine lw_pure rfl (val_fieldAddr (m := 0) (e := 69) rfl Tryd.underlying48 rfl rfl Tryd.sizeOf46 rfl) rfl ?_   -- 102
    refine lw_held rfl (val_load_at 1 rfl rfl Tryd.isAgg46 (Nod.c69 ha)) rfl ?_   -- 100
    refine lw_held rfl (val_load_at 0 rfl rfl Tryd.isAgg46 (Nod.c69 hb)) rfl ?_   -- 103
    refine lw_pure rfl ((val_eql_u64 rfl rfl).to (congrArg Value.bool (decide_eq_true (hS)))) rfl ?_   -- 104
    refine lw_pure rfl (val_move rfl) rfl ?_   -- 105
    refine lwg_pure rfl (wg rfl rfl) (val_move rfl) rfl ?_   -- 106
    refine lwg_pure rfl (wg rfl rfl) (val_fieldAddr (m := 64) (e := 69) rfl Tryd.underlying70 rfl rfl Tryd.sizeOf48 rfl) rfl ?_   -- 107
    refine lwg_pure rfl (wg rfl rfl) (val_fieldAddr (m := 31) (e := 70) rfl Tryd.underlying48 rfl rfl Tryd.sizeOf27 rfl) rfl ?_   -- 108
    refine lwg_pure rfl (wg rfl rfl) (val_move rfl) rfl ?_   -- 111
    refine lwg_pure rfl (wg rfl rfl) (val_fieldAddr (m := 64) (e := 69) rfl Tryd.underlying70 rfl rfl Tryd.sizeOf48 rfl) rfl ?_   -- 112
    refine lwg_pure rfl (wg rfl rfl) (val_fieldAddr (m := 31) (e := 70) rfl Tryd.underlying48 rfl rfl Tryd.sizeOf27 rfl) rfl ?_   -- 113
    refine lwg_held rfl (wg rfl rfl) (val_load_part 1 rfl rfl Tryd.isAgg27 Tryd.sizeOf27 (by show (List.map vU8 a.o.log).length = _; rw [List.length_map]; exact ha.gl) (Nod.cells_log ha)) rfl ?_   -- 109
    refine lwg_held rfl (wg rfl rfl) (val_load_part 0 rfl rfl Tryd.isAgg27 Tryd.sizeOf27 (by show (List.map vU8 b.o.log).length = _; rw [List.length_map]; exact hb.gl) (Nod.cells_log hb)) rfl ?_   -- 114
    refine lwg_call_pure rfl (wg rfl rfl) (callsTo Tryd.func79 rfl (by kernel_rfl) rfl) rfl (fun w hm => tcut_any k h2 a.o.log ha.gl w) ?_   -- 110
    refine lwg_call_pure rfl (wg rfl rfl) (callsTo Tryd.func79 rfl (by kernel_rfl) rfl) rfl (fun w hm => tcut_any k h2 b.o.log hb.gl w) ?_   -- 115
    refine lwg_pure rfl (wg rfl rfl) ((val_eql_u8s rfl rfl Tryd.eqGuardType27 Tryd.underlying27 Tryd.underlying5 Tryd.sizeOf5 Tryd.isAgg5 (cutw_len ha.gl h2) (cutw_len hb.gl h2)).to (congrArg Value.bool (decide_eq_false (hG)))) rfl ?_   -- 116
    refine lw_pure rfl (val_pick_true rfl rfl) rfl ?_   -- 117
    refine lw_pure rfl (val_move rfl) rfl ?_   -- 118
    first | refine lwg_no rfl (ng1 rfl rfl) rfl ?_ | refine lwg_no rfl (ng2 rfl rfl) rfl ?_   -- 119
    first | refine lwg_no rfl (ng1 rfl rfl) rfl ?_ | refine lwg_no rfl (ng2 rfl rfl) rfl ?_   -- 120
    first | refine lwg_no rfl (ng1 rfl rfl) rfl ?_ | refine lwg_no rfl (ng2 rfl rfl) rfl ?_   -- 121
    first | refine lwg_no rfl (ng1 rfl rfl) rfl ?_ | refine lwg_no rfl (ng2 rfl rfl) rfl ?_   -- 122
    first | refine lwg_no rfl (ng1 rfl rfl) rfl ?_ | refine lwg_no rfl (ng2 rfl rfl) rfl ?_   -- 123
    first | refine lwg_no rfl (ng1 rfl rfl) rfl ?_ | refine lwg_no rfl (ng2 rfl rfl) rfl ?_   -- 124
    first | refine lwg_no rfl (ng1 rfl rfl) rfl ?_ | refine lwg_no rfl (ng2 rfl rfl) rfl ?_   -- 125
    first | refine lwg_no rfl (ng1 rfl rfl) rfl ?_ | refine lwg_no rfl (ng2 rfl rfl) rfl ?_   -- 126
    first | refine lwg_no rfl (ng1 rfl rfl) rfl ?_ | refine lwg_no rfl (ng2 rfl rfl) rfl ?_   -- 127
    first | refine lwg_no rfl (ng1 rfl rfl) rfl ?_ | refine lwg_no rfl (ng2 rfl rfl) rfl ?_   -- 128
    first | refine lwg_no rfl (ng1 rfl rfl) rfl ?_ | refine lwg_no rfl (ng2 rfl rfl) rfl ?_   -- 129
    refine lw_pure rfl (val_pick_false rfl rfl) rfl ?_   -- 130
    refine lw_pure rfl (val_assign rfl) rfl ?_   -- 6
    refine lw_nil (into ?_)
    refine sw_ret (fun w hm => ?_)
    try dsimp only [thenP, blockP, Nat.beq, cond]
    exact ret_one _ rfl rfl ⟨by rw [alikeO_lt hkk (by rw [hk]; decide)]; simp [sameO, Nod.op, hk, hS, hG] <;> rfl, hm.forgetAll⟩
  · -- case
    refine sw_region_lex _ [] [(0, 0), (1, 0), (3, 0), (4, 0), (2, 1), (5, 1), (6, 0), (7, 0), (8, 0), (9, 0), (10, 0), (11, 0), (12, 0), (13, 0), (14, 0), (15, 0), (16, 0), (17, 0), (18, 0), (19, 0), (20, 0), (21, 0), (22, 0), (23, 0), (24, 0), (25, 0), (26, 0), (27, 0), (28, 0), (29, 0), (30, 0), (31, 0), (32, 0), (33, 0)] (by kernel_rfl) (by kernel_rfl) (fun _ _ _ h => h) (fun _ h => h) (fun _ h => h.drawn _) ?_
    refine lw_pure rfl (val_fieldAddr (m := 64) (e := 69) rfl Tryd.underlying70 rfl rfl Tryd.sizeOf48 rfl) rfl ?_   -- 98
    refine lw_pure rfl (val_fieldAddr (m := 0) (e := 69) rfl Tryd.underlying48 rfl rfl Tryd.sizeOf46 rfl) rfl ?_   -- 99
    refine lw_pure rfl (val_fieldAddr (m := 64) (e := 69) rfl Tryd.underlying70 rfl rfl Tryd.sizeOf48 rfl) rfl ?_   -- 101
    refine lw_pure rfl (val_fieldAddr (m := 0) (e := 69) rfl Tryd.underlying48 rfl rfl Tryd.sizeOf46 rfl) rfl ?_   -- 102
    refine lw_held rfl (val_load_at 1 rfl rfl Tryd.isAgg46 (Nod.c69 ha)) rfl ?_   -- 100
    refine lw_held rfl (val_load_at 0 rfl rfl Tryd.isAgg46 (Nod.c69 hb)) rfl ?_   -- 103
    refine lw_pure rfl ((val_eql_u64 rfl rfl).to (congrArg Value.bool (decide_eq_false (hS)))) rfl ?_   -- 104
    refine lw_pure rfl (val_move rfl) rfl ?_   -- 105
    first | refine lwg_no rfl (ng1 rfl rfl) rfl ?_ | refine lwg_no rfl (ng2 rfl rfl) rfl ?_   -- 106
    first | refine lwg_no rfl (ng1 rfl rfl) rfl ?_ | refine lwg_no rfl (ng2 rfl rfl) rfl ?_   -- 107
    first | refine lwg_no rfl (ng1 rfl rfl) rfl ?_ | refine lwg_no rfl (ng2 rfl rfl) rfl ?_   -- 108
    first | refine lwg_no rfl (ng1 rfl rfl) rfl ?_ | refine lwg_no rfl (ng2 rfl rfl) rfl ?_   -- 109
    first | refine lwg_no rfl (ng1 rfl rfl) rfl ?_ | refine lwg_no rfl (ng2 rfl rfl) rfl ?_   -- 110
    first | refine lwg_no rfl (ng1 rfl rfl) rfl ?_ | refine lwg_no rfl (ng2 rfl rfl) rfl ?_   -- 111
    first | refine lwg_no rfl (ng1 rfl rfl) rfl ?_ | refine lwg_no rfl (ng2 rfl rfl) rfl ?_   -- 112
    first | refine lwg_no rfl (ng1 rfl rfl) rfl ?_ | refine lwg_no rfl (ng2 rfl rfl) rfl ?_   -- 113
    first | refine lwg_no rfl (ng1 rfl rfl) rfl ?_ | refine lwg_no rfl (ng2 rfl rfl) rfl ?_   -- 114
    first | refine lwg_no rfl (ng1 rfl rfl) rfl ?_ | refine lwg_no rfl (ng2 rfl rfl) rfl ?_   -- 115
    first | refine lwg_no rfl (ng1 rfl rfl) rfl ?_ | refine lwg_no rfl (ng2 rfl rfl) rfl ?_   -- 116
    refine lw_pure rfl (val_pick_false rfl rfl) rfl ?_   -- 117
    refine lw_pure rfl (val_move rfl) rfl ?_   -- 118
    first | refine lwg_no rfl (ng1 rfl rfl) rfl ?_ | refine lwg_no rfl (ng2 rfl rfl) rfl ?_   -- 119
    first | refine lwg_no rfl (ng1 rfl rfl) rfl ?_ | refine lwg_no rfl (ng2 rfl rfl) rfl ?_   -- 120
    first | refine lwg_no rfl (ng1 rfl rfl) rfl ?_ | refine lwg_no rfl (ng2 rfl rfl) rfl ?_   -- 121
    first | refine lwg_no rfl (ng1 rfl rfl) rfl ?_ | refine lwg_no rfl (ng2 rfl rfl) rfl ?_   -- 122
    first | refine lwg_no rfl (ng1 rfl rfl) rfl ?_ | refine lwg_no rfl (ng2 rfl rfl) rfl ?_   -- 123
    first | refine lwg_no rfl (ng1 rfl rfl) rfl ?_ | refine lwg_no rfl (ng2 rfl rfl) rfl ?_   -- 124
    first | refine lwg_no rfl (ng1 rfl rfl) rfl ?_ | refine lwg_no rfl (ng2 rfl rfl) rfl ?_   -- 125
    first | refine lwg_no rfl (ng1 rfl rfl) rfl ?_ | refine lwg_no rfl (ng2 rfl rfl) rfl ?_   -- 126
    first | refine lwg_no rfl (ng1 rfl rfl) rfl ?_ | refine lwg_no rfl (ng2 rfl rfl) rfl ?_   -- 127
    first | refine lwg_no rfl (ng1 rfl rfl) rfl ?_ | refine lwg_no rfl (ng2 rfl rfl) rfl ?_   -- 128
    first | refine lwg_no rfl (ng1 rfl rfl) rfl ?_ | refine lwg_no rfl (ng2 rfl rfl) rfl ?_   -- 129
    refine lw_pure rfl (val_pick_false rfl rfl) rfl ?_   -- 130
    refine lw_pure rfl (val_assign rfl) rfl ?_   -- 6
    refine lw_nil (into ?_)
    refine sw_ret (fun w hm => ?_)
    try dsimp only [thenP, blockP, Nat.beq, cond]
    exact ret_one _ rfl rfl ⟨by rw [alikeO_lt hkk (by rw [hk]; decide)]; simp [sameO, Nod.op, hk, hS] <;> rfl, hm.forgetAll⟩

theorem talike_6 (w : World) (k : Nat) (h1 : 1 ≤ k) (h2 : k ≤ 32) (a : Nod) (ha : a.o.ok w) (b : Nod) (hb : b.o.ok w) (hkk : a.k = b.k) (hk : ¬ a.k < 6) : Calls Tryd.prog 42 #[vInt (k : Int), .agg a.cells.toArray, .agg b.cells.toArray] w fun e w' => ∃ v, e = .returned v ∧ v = .bool (alikeO k a b) ∧ Mem w [] [] w' := by
  refine calls_of_sw (vs := [vInt (k : Int), .agg a.cells.toArray, .agg b.cells.toArray]) Tryd.func42 rfl Tryd.ntmps42 rfl (SW.begin ?_)
  refine sw_seq ?_
  refine sw_region ?_
  refine ow_new (acts_box rfl) rfl (fun b4 hb4 => ?_)   -- 4
  refine ow_new (acts_box rfl) rfl (fun b5 hb5 => ?_)   -- 5
  refine ow_val (val_assign rfl) rfl ?_   -- 6
  refine ow_nil (into ?_)
  refine sw_seq ?_
  refine sw_seq ?_
  refine sw_region ?_
  refine ow_val (val_fieldAddr (m := 0) (e := 0) rfl Tryd.underlying70 rfl rfl Tryd.sizeOf5 rfl) rfl ?_   -- 10
  refine ow_val (val_load_at 1 rfl rfl Tryd.isAgg5 rfl) rfl ?_   -- 11
  refine ow_val (val_fieldAddr (m := 0) (e := 0) rfl Tryd.underlying70 rfl rfl Tryd.sizeOf5 rfl) rfl ?_   -- 12
  refine ow_val (val_load_at 0 rfl rfl Tryd.isAgg5 rfl) rfl ?_   -- 13
  refine ow_val ((val_neq_u8 rfl rfl).to (congrArg Value.bool (decide_eq_false ((fun h => h hkk))))) rfl ?_   -- 14
  refine ow_nil (into ?_)
  refine sw_false rfl rfl ?_
  refine sw_skip (into ?_)
  refine sw_seq ?_
  refine sw_seq ?_
  refine sw_region ?_
  refine ow_val (val_fieldAddr (m := 0) (e := 0) rfl Tryd.underlying70 rfl rfl Tryd.sizeOf5 rfl) rfl ?_   -- 23
  refine ow_val (val_load_at 1 rfl rfl Tryd.isAgg5 rfl) rfl ?_   -- 24
  refine ow_nil (into ?_)
  refine sw_block ?_
  refine sw_seq ?_
  refine sw_seq ?_
  refine sw_region ?_
  refine ow_val ((val_eql_u8 rfl rfl).to (congrArg Value.bool (decide_eq_false ((fun h => hk (by rw [h]; decide)))))) rfl ?_   -- 26
  refine ow_val (val_assign rfl) rfl ?_   -- 25
  refine ow_nil (into ?_)
  refine sw_false rfl rfl ?_
  refine sw_region ?_
  refine ow_val ((val_eql_u8 rfl rfl).to (congrArg Value.bool (decide_eq_false ((fun h => hk (by rw [h]; decide)))))) rfl ?_   -- 27
  refine ow_val (val_assign rfl) rfl ?_   -- 25
  refine ow_nil (into ?_)
  refine sw_false rfl rfl ?_
  refine sw_seq ?_
  refine sw_region ?_
  refine ow_val ((val_eql_u8 rfl rfl).to (congrArg Value.bool (decide_eq_false ((fun h => hk (by rw [h]; decide)))))) rfl ?_   -- 34
  refine ow_val (val_assign rfl) rfl ?_   -- 33
  refine ow_nil (into ?_)
  refine sw_false rfl rfl ?_
  refine sw_seq ?_
  refine sw_region ?_
  refine ow_val ((val_eql_u8 rfl rfl).to (congrArg Value.bool (decide_eq_false ((fun h => hk (by rw [h]; decide)))))) rfl ?_   -- 56
  refine ow_val (val_assign rfl) rfl ?_   -- 55
  refine ow_nil (into ?_)
  refine sw_false rfl rfl ?_
  refine sw_seq ?_
  refine sw_region ?_
  refine ow_val ((val_eql_u8 rfl rfl).to (congrArg Value.bool (decide_eq_false ((fun h => hk (by rw [h]; decide)))))) rfl ?_   -- 63
  refine ow_val (val_assign rfl) rfl ?_   -- 62
  refine ow_nil (into ?_)
  refine sw_false rfl rfl ?_
  refine sw_seq ?_
  refine sw_region ?_
  refine ow_val ((val_eql_u8 rfl rfl).to (congrArg Value.bool (decide_eq_false ((fun h => hk (by rw [h]; decide)))))) rfl ?_   -- 97
  refine ow_val (val_assign rfl) rfl ?_   -- 96
  refine ow_nil (into ?_)
  refine sw_false rfl rfl ?_
  refine sw_skip (into ?_)
  refine sw_seq ?_
  refine sw_region ?_
  refine ow_val (val_assign rfl) rfl ?_   -- 6
  refine ow_nil (into ?_)
  exact sw_ret (fun w hm => ret_one _ rfl rfl ⟨by rw [alikeO_ge hkk hk] <;> rfl, hm.forgetAll⟩)

theorem talike_any (w : World) (k : Nat) (h1 : 1 ≤ k) (h2 : k ≤ 32) (a : Nod) (ha : a.o.ok w) (b : Nod) (hb : b.o.ok w) : Calls Tryd.prog 42 #[vInt (k : Int), .agg a.cells.toArray, .agg b.cells.toArray] w fun e w' => ∃ v, e = .returned v ∧ v = .bool (alikeO k a b) ∧ Mem w [] [] w' := by
  by_cases hkk : a.k = b.k
  · by_cases hk6 : a.k < 6
    · by_cases hk0 : a.k = 0
      · exact talike_0 w k h1 h2 a ha b hb hkk hk0
      by_cases hk1 : a.k = 1
      · exact talike_1 w k h1 h2 a ha b hb hkk hk1
      by_cases hk2 : a.k = 2
      · exact talike_2 w k h1 h2 a ha b hb hkk hk2
      by_cases hk3 : a.k = 3
      · exact talike_3 w k h1 h2 a ha b hb hkk hk3
      by_cases hk4 : a.k = 4
      · exact talike_4 w k h1 h2 a ha b hb hkk hk4
      by_cases hk5 : a.k = 5
      · exact talike_5 w k h1 h2 a ha b hb hkk hk5
      · exfalso
        have e : ∀ j : UInt8, ¬ a.k = j → ¬ a.k.toNat = j.toNat := fun j h h3 => h (UInt8.toNat_inj.1 h3)
        have e0 : ¬ a.k.toNat = 0 := e 0 hk0
        have e1 : ¬ a.k.toNat = 1 := e 1 hk1
        have e2 : ¬ a.k.toNat = 2 := e 2 hk2
        have e3 : ¬ a.k.toNat = 3 := e 3 hk3
        have e4 : ¬ a.k.toNat = 4 := e 4 hk4
        have e5 : ¬ a.k.toNat = 5 := e 5 hk5
        have e6 : a.k.toNat < 6 := UInt8.lt_iff_toNat_lt.1 hk6
        omega
    · exact talike_6 w k h1 h2 a ha b hb hkk hk6
  · exact talike_ne w k h1 h2 a ha b hb hkk

theorem dig5_ne {k : Nat} (h1 : 1 ≤ k) (h2 : k ≤ 32) : ¬ dig k [5] = zeros32 := by
  intro h
  have h3 := dig_lo (k := k) (p := [5]) (i := 0) (by omega) h2
  have h4 := dig_lo (k := 1) (p := [5]) (i := 0) (by omega) (by omega)
  rw [h] at h3
  rw [dig_nomap] at h4
  rw [← h4] at h3
  exact absurd h3 (by decide)

theorem tags_k (w8 : UInt8) (w : World) (hK : KW w) (a : Nod) (ha : a.o.ok w) (hsa : a.o.small) (b : Nod) (hb : b.o.ok w) (hsb : b.o.small) (k : Nat) (hk : 1 + w8.toNat % 32 = k) (h1 : 1 ≤ k) (h2 : k ≤ 32) : Calls Tryd.prog 12 #[vU8 w8, .agg a.cells.toArray, .agg b.cells.toArray] w fun e w' => ∃ v, e = .returned v ∧ v = .bool true ∧ Mem w [] [] w' := by
  refine calls_of_sw (vs := [vU8 w8, .agg a.cells.toArray, .agg b.cells.toArray]) Tryd.func12 rfl Tryd.ntmps12 rfl (SW.begin ?_)
  refine sw_seq ?_
  refine sw_region ?_
  refine ow_new (acts_box rfl) rfl (fun b4 hb4 => ?_)   -- 4
  refine ow_new (acts_box rfl) rfl (fun b5 hb5 => ?_)   -- 5
  refine ow_val (val_assign rfl) rfl ?_   -- 6
  refine ow_nil (into ?_)
  refine sw_seq ?_
  refine sw_region ?_
  refine ow_val (val_move rfl) rfl ?_   -- 16
  refine ow_call_pure (v := vInt (k : Int)) (callsTo Tryd.func39 rfl (by kernel_rfl) rfl) rfl (fun w hm => tw_is hk w) ?_   -- 17
  refine ow_val (val_assign rfl) rfl ?_   -- 7
  refine ow_nil (into ?_)
  refine sw_seq ?_
  refine sw_region ?_
  refine ow_val (val_move rfl) rfl ?_   -- 19
  refine ow_make (acts_buildSlice (cs := ([5] : List UInt8).map vU8) Tryd.underlying25 Tryd.sizeOf5 Tryd.zeroValue5 rfl rfl (by kernel_rfl)) rfl (fun b20 hb20 => ?_)   -- 20
  refine ow_make (acts_buildSlice (cs := [.slice (some ⟨b20, 0, none⟩) 1 1]) Tryd.underlying32 Tryd.sizeOf25 Tryd.zeroValue25 rfl rfl (by kernel_rfl)) rfl (fun b21 hb21 => ?_)   -- 21
  refine ow_call_pure (v := .tuple #[.agg ((dig k [5]).map vU8).toArray, vInt ((0 : Nat) : Int)]) (callsTo Tryd.func17 rfl (by kernel_rfl) rfl) rfl (fun w hm => (by have h := dsum1_any (k : Int) w (hK.mem0 hm) b21 (Rd.blk (hm.at (i := 0) rfl)) ([5] : List UInt8) rfl (Rd.blk (hm.at (i := 1) rfl)) (by omega) (by omega); rw [digO_yes h1 h2] at h; exact h)) ?_   -- 22
  refine ow_val (val_move rfl) rfl ?_   -- 18
  refine ow_val (val_extract rfl rfl) rfl ?_   -- 23
  refine ow_val (val_extract rfl rfl) rfl ?_   -- 24
  refine ow_new (acts_alloc zD) rfl (fun b8 hb8 => ?_)   -- 8
  refine ow_do_eq (does_store_all 0 rfl rfl rfl (one_u8s _) Tryd.sizeOf27 (by show (List.map vU8 (dig k [5])).length = _; rw [List.length_map]; exact (dig_len _ h2)) (by show (List.map vU8 zeros32).length = _; rw [List.length_map]; exact zeros32_len)) ?_
  refine ow_val (val_assign rfl) rfl ?_   -- 9
  refine ow_nil (into ?_)
  refine sw_seq ?_
  refine sw_region ?_
  refine ow_val (val_move rfl) rfl ?_   -- 26
  refine ow_call_pure (v := .tuple #[.agg ((dig k [5]).map vU8).toArray, vInt ((0 : Nat) : Int)]) (callsTo Tryd.func13 rfl (by kernel_rfl) rfl) rfl (fun w hm => (by have h := nomap_any (k : Int)  w (hK.mem0 hm); rw [digO_yes h1 h2] at h; exact h)) ?_   -- 27
  refine ow_val (val_move rfl) rfl ?_   -- 25
  refine ow_val (val_extract rfl rfl) rfl ?_   -- 28
  refine ow_val (val_extract rfl rfl) rfl ?_   -- 29
  refine ow_new (acts_alloc zD) rfl (fun b10 hb10 => ?_)   -- 10
  refine ow_do_eq (does_store_all 0 rfl rfl rfl (one_u8s _) Tryd.sizeOf27 (by show (List.map vU8 (dig k [5])).length = _; rw [List.length_map]; exact (dig_len _ h2)) (by show (List.map vU8 zeros32).length = _; rw [List.length_map]; exact zeros32_len)) ?_
  refine ow_val (val_assign rfl) rfl ?_   -- 11
  refine ow_nil (into ?_)
  refine sw_seq ?_
  refine sw_seq ?_
  refine sw_region ?_
  refine ow_val (val_move rfl) rfl ?_   -- 30
  refine ow_val ((val_neq_int rfl rfl).to (v' := .bool false) (congrArg Value.bool (decide_eq_false (fun h => h (by simp))))) rfl ?_   -- 31
  refine ow_val (val_move rfl) rfl ?_   -- 32
  refine ow_guard_yes rfl rfl rfl ?_
  refine ow_val (val_move rfl) rfl ?_   -- 33
  refine ow_guard_yes rfl rfl rfl ?_
  refine ow_val ((val_neq_int rfl rfl).to (v' := .bool false) (congrArg Value.bool (decide_eq_false (fun h => h (by simp))))) rfl ?_   -- 34
  refine ow_val (val_pick_false rfl rfl) rfl ?_   -- 35
  refine ow_val (val_move rfl) rfl ?_   -- 36
  refine ow_guard_yes rfl rfl rfl ?_
  refine ow_val (val_load_all 1 rfl rfl Tryd.isAgg27 Tryd.sizeOf27 (by show (List.map vU8 (dig k [5])).length = _; rw [List.length_map]; exact (dig_len _ h2))) rfl ?_   -- 37
  refine ow_guard_yes rfl rfl rfl ?_
  refine ow_val (val_load_all 0 rfl rfl Tryd.isAgg27 Tryd.sizeOf27 (by show (List.map vU8 (dig k [5])).length = _; rw [List.length_map]; exact (dig_len _ h2))) rfl ?_   -- 38
  refine ow_guard_yes rfl rfl rfl ?_
  refine ow_val ((val_neq_u8s rfl rfl Tryd.eqGuardType27 Tryd.underlying27 Tryd.underlying5 Tryd.sizeOf5 Tryd.isAgg5 (dig_len _ h2) (dig_len _ h2)).to (congrArg Value.bool (show _ = false by simp [txt]))) rfl ?_   -- 39
  refine ow_val (val_pick_false rfl rfl) rfl ?_   -- 40
  refine ow_val (val_move rfl) rfl ?_   -- 41
  refine ow_guard_yes rfl rfl rfl ?_
  refine ow_val (val_load_all 1 rfl rfl Tryd.isAgg27 Tryd.sizeOf27 (by show (List.map vU8 (dig k [5])).length = _; rw [List.length_map]; exact (dig_len _ h2))) rfl ?_   -- 42
  refine ow_guard_yes rfl rfl rfl ?_
  refine ow_val (val_build' (cs := zeros32.map vU8) rfl (by kernel_rfl)) rfl ?_   -- 43
  refine ow_guard_yes rfl rfl rfl ?_
  refine ow_val ((val_eql_u8s rfl rfl Tryd.eqGuardType27 Tryd.underlying27 Tryd.underlying5 Tryd.sizeOf5 Tryd.isAgg5 (dig_len _ h2) zeros32_len).to (congrArg Value.bool (decide_eq_false (dig5_ne h1 h2)))) rfl ?_   -- 44
  refine ow_guard_yes rfl rfl rfl ?_
  refine ow_val (val_move rfl) rfl ?_   -- 45
  first | refine ow_guard_no rfl rfl rfl rfl rfl ?_ | refine ow_guard_none rfl rfl rfl rfl rfl ?_
  first | refine ow_guard_no rfl rfl rfl rfl rfl ?_ | refine ow_guard_none rfl rfl rfl rfl rfl ?_
  refine ow_guard_yes rfl rfl rfl ?_
  refine ow_val (val_pick_false rfl rfl) rfl ?_   -- 48
  refine ow_val (val_pick_false rfl rfl) rfl ?_   -- 49
  refine ow_nil (into ?_)
  refine sw_false rfl rfl ?_
  refine sw_skip (into ?_)
  refine sw_seq ?_
  refine sw_seq ?_
  refine sw_region ?_
  refine ow_val (val_fieldAddr (m := 0) (e := 0) rfl Tryd.underlying70 rfl rfl Tryd.sizeOf5 rfl) rfl ?_   -- 50
  refine ow_val (val_load_at 5 rfl rfl Tryd.isAgg5 rfl) rfl ?_   -- 51
  by_cases ha4 : a.k = 4
  · -- yes
    refine ow_val ((val_eql_u8 rfl rfl).to (congrArg Value.bool (decide_eq_true (ha4)))) rfl ?_   -- 52
    refine ow_val (val_move rfl) rfl ?_   -- 53
    refine ow_guard_yes rfl rfl rfl ?_
    refine ow_val (val_fieldAddr (m := 0) (e := 67) rfl Tryd.underlying70 rfl rfl Tryd.sizeOf44 rfl) rfl ?_   -- 54
    refine ow_guard_yes rfl rfl rfl ?_
    refine ow_val (val_load_at 5 rfl rfl Tryd.isAgg44 (Nod.c67 ha)) rfl ?_   -- 55
    by_cases ha0 : a.o.bm = 0
    · -- yes
      refine ow_guard_yes rfl rfl rfl ?_
      refine ow_val ((val_eql_u16 rfl rfl).to (congrArg Value.bool (decide_eq_true (ha0)))) rfl ?_   -- 56
      refine ow_val (val_pick_true rfl rfl) rfl ?_   -- 57
      refine ow_val (val_move rfl) rfl ?_   -- 58
      first | refine ow_guard_no rfl rfl rfl rfl rfl ?_ | refine ow_guard_none rfl rfl rfl rfl rfl ?_
      first | refine ow_guard_no rfl rfl rfl rfl rfl ?_ | refine ow_guard_none rfl rfl rfl rfl rfl ?_
      first | refine ow_guard_no rfl rfl rfl rfl rfl ?_ | refine ow_guard_none rfl rfl rfl rfl rfl ?_
      first | refine ow_guard_no rfl rfl rfl rfl rfl ?_ | refine ow_guard_none rfl rfl rfl rfl rfl ?_
      first | refine ow_guard_no rfl rfl rfl rfl rfl ?_ | refine ow_guard_none rfl rfl rfl rfl rfl ?_
      first | refine ow_guard_no rfl rfl rfl rfl rfl ?_ | refine ow_guard_none rfl rfl rfl rfl rfl ?_
      first | refine ow_guard_no rfl rfl rfl rfl rfl ?_ | refine ow_guard_none rfl rfl rfl rfl rfl ?_
      first | refine ow_guard_no rfl rfl rfl rfl rfl ?_ | refine ow_guard_none rfl rfl rfl rfl rfl ?_
      refine ow_val (val_pick_true rfl rfl) rfl ?_   -- 67
      refine ow_nil (into ?_)
      refine sw_true rfl rfl ?_
      refine sw_seq ?_
      refine sw_region ?_
      refine ow_val (val_assign rfl) rfl ?_   -- 6
      refine ow_nil (into ?_)
      refine sw_ret (fun w hm => ?_)
      try dsimp only [thenP, blockP, Nat.beq, cond]
      exact ret_one _ rfl rfl ⟨rfl, hm.forgetAll⟩
    · -- no
      refine ow_guard_yes rfl rfl rfl ?_
      refine ow_val ((val_eql_u16 rfl rfl).to (congrArg Value.bool (decide_eq_false (ha0)))) rfl ?_   -- 56
      refine ow_val (val_pick_true rfl rfl) rfl ?_   -- 57
      refine ow_val (val_move rfl) rfl ?_   -- 58
      refine ow_guard_yes rfl rfl rfl ?_
      refine ow_val (val_fieldAddr (m := 0) (e := 0) rfl Tryd.underlying70 rfl rfl Tryd.sizeOf5 rfl) rfl ?_   -- 59
      refine ow_guard_yes rfl rfl rfl ?_
      refine ow_val (val_load_at 4 rfl rfl Tryd.isAgg5 rfl) rfl ?_   -- 60
      by_cases hb4 : b.k = 4
      · -- yes
        refine ow_guard_yes rfl rfl rfl ?_
        refine ow_val ((val_eql_u8 rfl rfl).to (congrArg Value.bool (decide_eq_true (hb4)))) rfl ?_   -- 61
        refine ow_guard_yes rfl rfl rfl ?_
        refine ow_val (val_move rfl) rfl ?_   -- 62
        refine ow_guard_yes rfl rfl rfl ?_
        refine ow_val (val_fieldAddr (m := 0) (e := 67) rfl Tryd.underlying70 rfl rfl Tryd.sizeOf44 rfl) rfl ?_   -- 63
        refine ow_guard_yes rfl rfl rfl ?_
        refine ow_val (val_load_at 4 rfl rfl Tryd.isAgg44 (Nod.c67 hb)) rfl ?_   -- 64
        by_cases hb0 : b.o.bm = 0
        · -- yes
          refine ow_guard_yes rfl rfl rfl ?_
          refine ow_val ((val_eql_u16 rfl rfl).to (congrArg Value.bool (decide_eq_true (hb0)))) rfl ?_   -- 65
          refine ow_guard_yes rfl rfl rfl ?_
          refine ow_val (val_pick_true rfl rfl) rfl ?_   -- 66
          refine ow_val (val_pick_false rfl rfl) rfl ?_   -- 67
          refine ow_nil (into ?_)
          refine sw_true rfl rfl ?_
          refine sw_seq ?_
          refine sw_region ?_
          refine ow_val (val_assign rfl) rfl ?_   -- 6
          refine ow_nil (into ?_)
          refine sw_ret (fun w hm => ?_)
          try dsimp only [thenP, blockP, Nat.beq, cond]
          exact ret_one _ rfl rfl ⟨rfl, hm.forgetAll⟩
        · -- no
          refine ow_guard_yes rfl rfl rfl ?_
          refine ow_val ((val_eql_u16 rfl rfl).to (congrArg Value.bool (decide_eq_false (hb0)))) rfl ?_   -- 65
          refine ow_guard_yes rfl rfl rfl ?_
          refine ow_val (val_pick_true rfl rfl) rfl ?_   -- 66
          refine ow_val (val_pick_false rfl rfl) rfl ?_   -- 67
          refine ow_nil (into ?_)
          refine sw_false rfl rfl ?_
          refine sw_skip (into ?_)
          refine sw_seq ?_
          refine sw_region ?_
          refine ow_val (val_move rfl) rfl ?_   -- 69
          refine ow_val (val_load_part 5 rfl rfl Tryd.isAgg70 Tryd.sizeOf70 (Nod.cells_len ha) (show List.take 134 a.cells = a.cells from List.take_of_length_le (Nat.le_of_eq (Nod.cells_len ha)))) rfl ?_   -- 70
          refine ow_call_row2 (E := 5) (size := 1) (k := (nodIn k a).length) (xs := (nodIn k a).map vU8) (x := .bool true) (callsTo Tryd.func40 rfl (by kernel_rfl) rfl) rfl (fun w hm => tin_any w k h1 h2 a (Cop.ok.mem ha hm) hsa (fun h => by first | exact ha4 h.1 | exact ha0 h.2)) (fun a71 c71 e71 hr71 => ?_)   -- 71
          refine ow_val (val_move rfl) rfl ?_   -- 68
          refine ow_val (val_extract rfl rfl) rfl ?_   -- 72
          refine ow_val (val_extract rfl rfl) rfl ?_   -- 73
          refine ow_val (val_assign rfl) rfl ?_   -- 12
          refine ow_val (val_assign rfl) rfl ?_   -- 13
          refine ow_nil (into ?_)
          refine sw_seq ?_
          refine sw_region ?_
          refine ow_val (val_move rfl) rfl ?_   -- 75
          refine ow_val (val_load_part 5 rfl rfl Tryd.isAgg70 Tryd.sizeOf70 (Nod.cells_len hb) (show List.take 134 b.cells = b.cells from List.take_of_length_le (Nat.le_of_eq (Nod.cells_len hb)))) rfl ?_   -- 76
          refine ow_call_row2 (E := 5) (size := 1) (k := (nodIn k b).length) (xs := (nodIn k b).map vU8) (x := .bool true) (callsTo Tryd.func40 rfl (by kernel_rfl) rfl) rfl (fun w hm => tin_any w k h1 h2 b (Cop.ok.mem hb hm) hsb (fun h => by first | exact hb4 h.1 | exact hb0 h.2)) (fun a77 c77 e77 hr77 => ?_)   -- 77
          refine ow_val (val_move rfl) rfl ?_   -- 74
          refine ow_val (val_extract rfl rfl) rfl ?_   -- 78
          refine ow_val (val_extract rfl rfl) rfl ?_   -- 79
          refine ow_val (val_assign rfl) rfl ?_   -- 14
          refine ow_val (val_assign rfl) rfl ?_   -- 15
          refine ow_nil (into ?_)
          refine sw_seq ?_
          refine sw_region_lex _ [] [(0, 0), (1, 0), (2, 0), (3, 0), (4, 0), (5, 0), (6, 0), (8, 0), (9, 1), (10, 1), (7, 2), (11, 2), (12, 0), (13, 0), (14, 0)] (by kernel_rfl) (by kernel_rfl) (fun _ _ _ h => h) (fun _ h => h) (fun _ h => h.drawn _) ?_
          refine lw_pure rfl (val_move rfl) rfl ?_   -- 80
          refine lw_pure rfl (val_move rfl) rfl ?_   -- 81
          refine lwg_pure rfl (wg rfl rfl) (val_move rfl) rfl ?_   -- 82
          refine lw_pure rfl (val_pick_true rfl rfl) rfl ?_   -- 83
          refine lw_pure rfl (val_move rfl) rfl ?_   -- 84
          refine lwg_pure rfl (wg rfl rfl) (val_move rfl) rfl ?_   -- 85
          refine lwg_pure rfl (wg rfl rfl) (val_move rfl) rfl ?_   -- 86
          refine lwg_pure rfl (wg rfl rfl) (val_move rfl) rfl ?_   -- 88
          refine lwg_held rfl (wg rfl rfl) (val_load_part 7 rfl rfl Tryd.isAgg70 Tryd.sizeOf70 (Nod.cells_len ha) (show List.take 134 a.cells = a.cells from List.take_of_length_le (Nat.le_of_eq (Nod.cells_len ha)))) rfl ?_   -- 89
          refine lwg_held rfl (wg rfl rfl) (val_load_part 6 rfl rfl Tryd.isAgg70 Tryd.sizeOf70 (Nod.cells_len hb) (show List.take 134 b.cells = b.cells from List.take_of_length_le (Nat.le_of_eq (Nod.cells_len hb)))) rfl ?_   -- 90
          refine lwg_call_pure rfl (wg rfl rfl) (callsTo Tryd.func41 rfl (by kernel_rfl) rfl) rfl (fun w hm => tsame_any w a71 _ _ (nodIn k a) rfl (hr71.rdAt hm (i := 1) rfl) a77 _ _ (nodIn k b) rfl (hr77.rdAt hm (i := 0) rfl)) ?_   -- 87
          refine lwg_call_pure rfl (wg rfl rfl) (callsTo Tryd.func42 rfl (by kernel_rfl) rfl) rfl (fun w hm => talike_any w k h1 h2 a (Cop.ok.mem ha hm) b (Cop.ok.mem hb hm)) ?_   -- 91
          refine lwg_pure rfl (wg rfl rfl) ((val_eql_bool Tryd.underlying4 rfl rfl).to (v' := .bool true) (by rw [nod_law ha hb h1 h2 (fun h => by first | exact ha4 h.1 | exact ha0 h.2) (fun h => by first | exact hb4 h.1 | exact hb0 h.2)]; simp)) rfl ?_   -- 92
          refine lw_pure rfl (val_pick_true rfl rfl) rfl ?_   -- 93
          refine lw_pure rfl (val_assign rfl) rfl ?_   -- 6
          refine lw_nil (into ?_)
          refine sw_ret (fun w hm => ?_)
          try dsimp only [thenP, blockP, Nat.beq, cond]
          exact ret_one _ rfl rfl ⟨rfl, hm.forgetAll⟩
      · -- no
        refine ow_guard_yes rfl rfl rfl ?_
        refine ow_val ((val_eql_u8 rfl rfl).to (congrArg Value.bool (decide_eq_false (hb4)))) rfl ?_   -- 61
        refine ow_guard_yes rfl rfl rfl ?_
        refine ow_val (val_move rfl) rfl ?_   -- 62
        first | refine ow_guard_no rfl rfl rfl rfl rfl ?_ | refine ow_guard_none rfl rfl rfl rfl rfl ?_
        first | refine ow_guard_no rfl rfl rfl rfl rfl ?_ | refine ow_guard_none rfl rfl rfl rfl rfl ?_
        first | refine ow_guard_no rfl rfl rfl rfl rfl ?_ | refine ow_guard_none rfl rfl rfl rfl rfl ?_
        refine ow_guard_yes rfl rfl rfl ?_
        refine ow_val (val_pick_false rfl rfl) rfl ?_   -- 66
        refine ow_val (val_pick_false rfl rfl) rfl ?_   -- 67
        refine ow_nil (into ?_)
        refine sw_false rfl rfl ?_
        refine sw_skip (into ?_)
        refine sw_seq ?_
        refine sw_region ?_
        refine ow_val (val_move rfl) rfl ?_   -- 69
        refine ow_val (val_load_part 5 rfl rfl Tryd.isAgg70 Tryd.sizeOf70 (Nod.cells_len ha) (show List.take 134 a.cells = a.cells from List.take_of_length_le (Nat.le_of_eq (Nod.cells_len ha)))) rfl ?_   -- 70
        refine ow_call_row2 (E := 5) (size := 1) (k := (nodIn k a).length) (xs := (nodIn k a).map vU8) (x := .bool true) (callsTo Tryd.func40 rfl (by kernel_rfl) rfl) rfl (fun w hm => tin_any w k h1 h2 a (Cop.ok.mem ha hm) hsa (fun h => by first | exact ha4 h.1 | exact ha0 h.2)) (fun a71 c71 e71 hr71 => ?_)   -- 71
        refine ow_val (val_move rfl) rfl ?_   -- 68
        refine ow_val (val_extract rfl rfl) rfl ?_   -- 72
        refine ow_val (val_extract rfl rfl) rfl ?_   -- 73
        refine ow_val (val_assign rfl) rfl ?_   -- 12
        refine ow_val (val_assign rfl) rfl ?_   -- 13
        refine ow_nil (into ?_)
        refine sw_seq ?_
        refine sw_region ?_
        refine ow_val (val_move rfl) rfl ?_   -- 75
        refine ow_val (val_load_part 5 rfl rfl Tryd.isAgg70 Tryd.sizeOf70 (Nod.cells_len hb) (show List.take 134 b.cells = b.cells from List.take_of_length_le (Nat.le_of_eq (Nod.cells_len hb)))) rfl ?_   -- 76
        refine ow_call_row2 (E := 5) (size := 1) (k := (nodIn k b).length) (xs := (nodIn k b).map vU8) (x := .bool true) (callsTo Tryd.func40 rfl (by kernel_rfl) rfl) rfl (fun w hm => tin_any w k h1 h2 b (Cop.ok.mem hb hm) hsb (fun h => by first | exact hb4 h.1 | exact hb0 h.2)) (fun a77 c77 e77 hr77 => ?_)   -- 77
        refine ow_val (val_move rfl) rfl ?_   -- 74
        refine ow_val (val_extract rfl rfl) rfl ?_   -- 78
        refine ow_val (val_extract rfl rfl) rfl ?_   -- 79
        refine ow_val (val_assign rfl) rfl ?_   -- 14
        refine ow_val (val_assign rfl) rfl ?_   -- 15
        refine ow_nil (into ?_)
        refine sw_seq ?_
        refine sw_region_lex _ [] [(0, 0), (1, 0), (2, 0), (3, 0), (4, 0), (5, 0), (6, 0), (8, 0), (9, 1), (10, 1), (7, 2), (11, 2), (12, 0), (13, 0), (14, 0)] (by kernel_rfl) (by kernel_rfl) (fun _ _ _ h => h) (fun _ h => h) (fun _ h => h.drawn _) ?_
        refine lw_pure rfl (val_move rfl) rfl ?_   -- 80
        refine lw_pure rfl (val_move rfl) rfl ?_   -- 81
        refine lwg_pure rfl (wg rfl rfl) (val_move rfl) rfl ?_   -- 82
        refine lw_pure rfl (val_pick_true rfl rfl) rfl ?_   -- 83
        refine lw_pure rfl (val_move rfl) rfl ?_   -- 84
        refine lwg_pure rfl (wg rfl rfl) (val_move rfl) rfl ?_   -- 85
        refine lwg_pure rfl (wg rfl rfl) (val_move rfl) rfl ?_   -- 86
        refine lwg_pure rfl (wg rfl rfl) (val_move rfl) rfl ?_   -- 88
        refine lwg_held rfl (wg rfl rfl) (val_load_part 7 rfl rfl Tryd.isAgg70 Tryd.sizeOf70 (Nod.cells_len ha) (show List.take 134 a.cells = a.cells from List.take_of_length_le (Nat.le_of_eq (Nod.cells_len ha)))) rfl ?_   -- 89
        refine lwg_held rfl (wg rfl rfl) (val_load_part 6 rfl rfl Tryd.isAgg70 Tryd.sizeOf70 (Nod.cells_len hb) (show List.take 134 b.cells = b.cells from List.take_of_length_le (Nat.le_of_eq (Nod.cells_len hb)))) rfl ?_   -- 90
        refine lwg_call_pure rfl (wg rfl rfl) (callsTo Tryd.func41 rfl (by kernel_rfl) rfl) rfl (fun w hm => tsame_any w a71 _ _ (nodIn k a) rfl (hr71.rdAt hm (i := 1) rfl) a77 _ _ (nodIn k b) rfl (hr77.rdAt hm (i := 0) rfl)) ?_   -- 87
        refine lwg_call_pure rfl (wg rfl rfl) (callsTo Tryd.func42 rfl (by kernel_rfl) rfl) rfl (fun w hm => talike_any w k h1 h2 a (Cop.ok.mem ha hm) b (Cop.ok.mem hb hm)) ?_   -- 91
        refine lwg_pure rfl (wg rfl rfl) ((val_eql_bool Tryd.underlying4 rfl rfl).to (v' := .bool true) (by rw [nod_law ha hb h1 h2 (fun h => by first | exact ha4 h.1 | exact ha0 h.2) (fun h => by first | exact hb4 h.1 | exact hb0 h.2)]; simp)) rfl ?_   -- 92
        refine lw_pure rfl (val_pick_true rfl rfl) rfl ?_   -- 93
        refine lw_pure rfl (val_assign rfl) rfl ?_   -- 6
        refine lw_nil (into ?_)
        refine sw_ret (fun w hm => ?_)
        try dsimp only [thenP, blockP, Nat.beq, cond]
        exact ret_one _ rfl rfl ⟨rfl, hm.forgetAll⟩
  · -- no
    refine ow_val ((val_eql_u8 rfl rfl).to (congrArg Value.bool (decide_eq_false (ha4)))) rfl ?_   -- 52
    refine ow_val (val_move rfl) rfl ?_   -- 53
    first | refine ow_guard_no rfl rfl rfl rfl rfl ?_ | refine ow_guard_none rfl rfl rfl rfl rfl ?_
    first | refine ow_guard_no rfl rfl rfl rfl rfl ?_ | refine ow_guard_none rfl rfl rfl rfl rfl ?_
    first | refine ow_guard_no rfl rfl rfl rfl rfl ?_ | refine ow_guard_none rfl rfl rfl rfl rfl ?_
    refine ow_val (val_pick_false rfl rfl) rfl ?_   -- 57
    refine ow_val (val_move rfl) rfl ?_   -- 58
    refine ow_guard_yes rfl rfl rfl ?_
    refine ow_val (val_fieldAddr (m := 0) (e := 0) rfl Tryd.underlying70 rfl rfl Tryd.sizeOf5 rfl) rfl ?_   -- 59
    refine ow_guard_yes rfl rfl rfl ?_
    refine ow_val (val_load_at 4 rfl rfl Tryd.isAgg5 rfl) rfl ?_   -- 60
    by_cases hb4 : b.k = 4
    · -- yes
      refine ow_guard_yes rfl rfl rfl ?_
      refine ow_val ((val_eql_u8 rfl rfl).to (congrArg Value.bool (decide_eq_true (hb4)))) rfl ?_   -- 61
      refine ow_guard_yes rfl rfl rfl ?_
      refine ow_val (val_move rfl) rfl ?_   -- 62
      refine ow_guard_yes rfl rfl rfl ?_
      refine ow_val (val_fieldAddr (m := 0) (e := 67) rfl Tryd.underlying70 rfl rfl Tryd.sizeOf44 rfl) rfl ?_   -- 63
      refine ow_guard_yes rfl rfl rfl ?_
      refine ow_val (val_load_at 4 rfl rfl Tryd.isAgg44 (Nod.c67 hb)) rfl ?_   -- 64
      by_cases hb0 : b.o.bm = 0
      · -- yes
        refine ow_guard_yes rfl rfl rfl ?_
        refine ow_val ((val_eql_u16 rfl rfl).to (congrArg Value.bool (decide_eq_true (hb0)))) rfl ?_   -- 65
        refine ow_guard_yes rfl rfl rfl ?_
        refine ow_val (val_pick_true rfl rfl) rfl ?_   -- 66
        refine ow_val (val_pick_false rfl rfl) rfl ?_   -- 67
        refine ow_nil (into ?_)
        refine sw_true rfl rfl ?_
        refine sw_seq ?_
        refine sw_region ?_
        refine ow_val (val_assign rfl) rfl ?_   -- 6
        refine ow_nil (into ?_)
        refine sw_ret (fun w hm => ?_)
        try dsimp only [thenP, blockP, Nat.beq, cond]
        exact ret_one _ rfl rfl ⟨rfl, hm.forgetAll⟩
      · -- no
        refine ow_guard_yes rfl rfl rfl ?_
        refine ow_val ((val_eql_u16 rfl rfl).to (congrArg Value.bool (decide_eq_false (hb0)))) rfl ?_   -- 65
        refine ow_guard_yes rfl rfl rfl ?_
        refine ow_val (val_pick_true rfl rfl) rfl ?_   -- 66
        refine ow_val (val_pick_false rfl rfl) rfl ?_   -- 67
        refine ow_nil (into ?_)
        refine sw_false rfl rfl ?_
        refine sw_skip (into ?_)
        refine sw_seq ?_
        refine sw_region ?_
        refine ow_val (val_move rfl) rfl ?_   -- 69
        refine ow_val (val_load_part 5 rfl rfl Tryd.isAgg70 Tryd.sizeOf70 (Nod.cells_len ha) (show List.take 134 a.cells = a.cells from List.take_of_length_le (Nat.le_of_eq (Nod.cells_len ha)))) rfl ?_   -- 70
        refine ow_call_row2 (E := 5) (size := 1) (k := (nodIn k a).length) (xs := (nodIn k a).map vU8) (x := .bool true) (callsTo Tryd.func40 rfl (by kernel_rfl) rfl) rfl (fun w hm => tin_any w k h1 h2 a (Cop.ok.mem ha hm) hsa (fun h => by first | exact ha4 h.1 | exact ha0 h.2)) (fun a71 c71 e71 hr71 => ?_)   -- 71
        refine ow_val (val_move rfl) rfl ?_   -- 68
        refine ow_val (val_extract rfl rfl) rfl ?_   -- 72
        refine ow_val (val_extract rfl rfl) rfl ?_   -- 73
        refine ow_val (val_assign rfl) rfl ?_   -- 12
        refine ow_val (val_assign rfl) rfl ?_   -- 13
        refine ow_nil (into ?_)
        refine sw_seq ?_
        refine sw_region ?_
        refine ow_val (val_move rfl) rfl ?_   -- 75
        refine ow_val (val_load_part 5 rfl rfl Tryd.isAgg70 Tryd.sizeOf70 (Nod.cells_len hb) (show List.take 134 b.cells = b.cells from List.take_of_length_le (Nat.le_of_eq (Nod.cells_len hb)))) rfl ?_   -- 76
        refine ow_call_row2 (E := 5) (size := 1) (k := (nodIn k b).length) (xs := (nodIn k b).map vU8) (x := .bool true) (callsTo Tryd.func40 rfl (by kernel_rfl) rfl) rfl (fun w hm => tin_any w k h1 h2 b (Cop.ok.mem hb hm) hsb (fun h => by first | exact hb4 h.1 | exact hb0 h.2)) (fun a77 c77 e77 hr77 => ?_)   -- 77
        refine ow_val (val_move rfl) rfl ?_   -- 74
        refine ow_val (val_extract rfl rfl) rfl ?_   -- 78
        refine ow_val (val_extract rfl rfl) rfl ?_   -- 79
        refine ow_val (val_assign rfl) rfl ?_   -- 14
        refine ow_val (val_assign rfl) rfl ?_   -- 15
        refine ow_nil (into ?_)
        refine sw_seq ?_
        refine sw_region_lex _ [] [(0, 0), (1, 0), (2, 0), (3, 0), (4, 0), (5, 0), (6, 0), (8, 0), (9, 1), (10, 1), (7, 2), (11, 2), (12, 0), (13, 0), (14, 0)] (by kernel_rfl) (by kernel_rfl) (fun _ _ _ h => h) (fun _ h => h) (fun _ h => h.drawn _) ?_
        refine lw_pure rfl (val_move rfl) rfl ?_   -- 80
        refine lw_pure rfl (val_move rfl) rfl ?_   -- 81
        refine lwg_pure rfl (wg rfl rfl) (val_move rfl) rfl ?_   -- 82
        refine lw_pure rfl (val_pick_true rfl rfl) rfl ?_   -- 83
        refine lw_pure rfl (val_move rfl) rfl ?_   -- 84
        refine lwg_pure rfl (wg rfl rfl) (val_move rfl) rfl ?_   -- 85
        refine lwg_pure rfl (wg rfl rfl) (val_move rfl) rfl ?_   -- 86
        refine lwg_pure rfl (wg rfl rfl) (val_move rfl) rfl ?_   -- 88
        refine lwg_held rfl (wg rfl rfl) (val_load_part 7 rfl rfl Tryd.isAgg70 Tryd.sizeOf70 (Nod.cells_len ha) (show List.take 134 a.cells = a.cells from List.take_of_length_le (Nat.le_of_eq (Nod.cells_len ha)))) rfl ?_   -- 89
        refine lwg_held rfl (wg rfl rfl) (val_load_part 6 rfl rfl Tryd.isAgg70 Tryd.sizeOf70 (Nod.cells_len hb) (show List.take 134 b.cells = b.cells from List.take_of_length_le (Nat.le_of_eq (Nod.cells_len hb)))) rfl ?_   -- 90
        refine lwg_call_pure rfl (wg rfl rfl) (callsTo Tryd.func41 rfl (by kernel_rfl) rfl) rfl (fun w hm => tsame_any w a71 _ _ (nodIn k a) rfl (hr71.rdAt hm (i := 1) rfl) a77 _ _ (nodIn k b) rfl (hr77.rdAt hm (i := 0) rfl)) ?_   -- 87
        refine lwg_call_pure rfl (wg rfl rfl) (callsTo Tryd.func42 rfl (by kernel_rfl) rfl) rfl (fun w hm => talike_any w k h1 h2 a (Cop.ok.mem ha hm) b (Cop.ok.mem hb hm)) ?_   -- 91
        refine lwg_pure rfl (wg rfl rfl) ((val_eql_bool Tryd.underlying4 rfl rfl).to (v' := .bool true) (by rw [nod_law ha hb h1 h2 (fun h => by first | exact ha4 h.1 | exact ha0 h.2) (fun h => by first | exact hb4 h.1 | exact hb0 h.2)]; simp)) rfl ?_   -- 92
        refine lw_pure rfl (val_pick_true rfl rfl) rfl ?_   -- 93
        refine lw_pure rfl (val_assign rfl) rfl ?_   -- 6
        refine lw_nil (into ?_)
        refine sw_ret (fun w hm => ?_)
        try dsimp only [thenP, blockP, Nat.beq, cond]
        exact ret_one _ rfl rfl ⟨rfl, hm.forgetAll⟩
    · -- no
      refine ow_guard_yes rfl rfl rfl ?_
      refine ow_val ((val_eql_u8 rfl rfl).to (congrArg Value.bool (decide_eq_false (hb4)))) rfl ?_   -- 61
      refine ow_guard_yes rfl rfl rfl ?_
      refine ow_val (val_move rfl) rfl ?_   -- 62
      first | refine ow_guard_no rfl rfl rfl rfl rfl ?_ | refine ow_guard_none rfl rfl rfl rfl rfl ?_
      first | refine ow_guard_no rfl rfl rfl rfl rfl ?_ | refine ow_guard_none rfl rfl rfl rfl rfl ?_
      first | refine ow_guard_no rfl rfl rfl rfl rfl ?_ | refine ow_guard_none rfl rfl rfl rfl rfl ?_
      refine ow_guard_yes rfl rfl rfl ?_
      refine ow_val (val_pick_false rfl rfl) rfl ?_   -- 66
      refine ow_val (val_pick_false rfl rfl) rfl ?_   -- 67
      refine ow_nil (into ?_)
      refine sw_false rfl rfl ?_
      refine sw_skip (into ?_)
      refine sw_seq ?_
      refine sw_region ?_
      refine ow_val (val_move rfl) rfl ?_   -- 69
      refine ow_val (val_load_part 5 rfl rfl Tryd.isAgg70 Tryd.sizeOf70 (Nod.cells_len ha) (show List.take 134 a.cells = a.cells from List.take_of_length_le (Nat.le_of_eq (Nod.cells_len ha)))) rfl ?_   -- 70
      refine ow_call_row2 (E := 5) (size := 1) (k := (nodIn k a).length) (xs := (nodIn k a).map vU8) (x := .bool true) (callsTo Tryd.func40 rfl (by kernel_rfl) rfl) rfl (fun w hm => tin_any w k h1 h2 a (Cop.ok.mem ha hm) hsa (fun h => by first | exact ha4 h.1 | exact ha0 h.2)) (fun a71 c71 e71 hr71 => ?_)   -- 71
      refine ow_val (val_move rfl) rfl ?_   -- 68
      refine ow_val (val_extract rfl rfl) rfl ?_   -- 72
      refine ow_val (val_extract rfl rfl) rfl ?_   -- 73
      refine ow_val (val_assign rfl) rfl ?_   -- 12
      refine ow_val (val_assign rfl) rfl ?_   -- 13
      refine ow_nil (into ?_)
      refine sw_seq ?_
      refine sw_region ?_
      refine ow_val (val_move rfl) rfl ?_   -- 75
      refine ow_val (val_load_part 5 rfl rfl Tryd.isAgg70 Tryd.sizeOf70 (Nod.cells_len hb) (show List.take 134 b.cells = b.cells from List.take_of_length_le (Nat.le_of_eq (Nod.cells_len hb)))) rfl ?_   -- 76
      refine ow_call_row2 (E := 5) (size := 1) (k := (nodIn k b).length) (xs := (nodIn k b).map vU8) (x := .bool true) (callsTo Tryd.func40 rfl (by kernel_rfl) rfl) rfl (fun w hm => tin_any w k h1 h2 b (Cop.ok.mem hb hm) hsb (fun h => by first | exact hb4 h.1 | exact hb0 h.2)) (fun a77 c77 e77 hr77 => ?_)   -- 77
      refine ow_val (val_move rfl) rfl ?_   -- 74
      refine ow_val (val_extract rfl rfl) rfl ?_   -- 78
      refine ow_val (val_extract rfl rfl) rfl ?_   -- 79
      refine ow_val (val_assign rfl) rfl ?_   -- 14
      refine ow_val (val_assign rfl) rfl ?_   -- 15
      refine ow_nil (into ?_)
      refine sw_seq ?_
      refine sw_region_lex _ [] [(0, 0), (1, 0), (2, 0), (3, 0), (4, 0), (5, 0), (6, 0), (8, 0), (9, 1), (10, 1), (7, 2), (11, 2), (12, 0), (13, 0), (14, 0)] (by kernel_rfl) (by kernel_rfl) (fun _ _ _ h => h) (fun _ h => h) (fun _ h => h.drawn _) ?_
      refine lw_pure rfl (val_move rfl) rfl ?_   -- 80
      refine lw_pure rfl (val_move rfl) rfl ?_   -- 81
      refine lwg_pure rfl (wg rfl rfl) (val_move rfl) rfl ?_   -- 82
      refine lw_pure rfl (val_pick_true rfl rfl) rfl ?_   -- 83
      refine lw_pure rfl (val_move rfl) rfl ?_   -- 84
      refine lwg_pure rfl (wg rfl rfl) (val_move rfl) rfl ?_   -- 85
      refine lwg_pure rfl (wg rfl rfl) (val_move rfl) rfl ?_   -- 86
      refine lwg_pure rfl (wg rfl rfl) (val_move rfl) rfl ?_   -- 88
      refine lwg_held rfl (wg rfl rfl) (val_load_part 7 rfl rfl Tryd.isAgg70 Tryd.sizeOf70 (Nod.cells_len ha) (show List.take 134 a.cells = a.cells from List.take_of_length_le (Nat.le_of_eq (Nod.cells_len ha)))) rfl ?_   -- 89
      refine lwg_held rfl (wg rfl rfl) (val_load_part 6 rfl rfl Tryd.isAgg70 Tryd.sizeOf70 (Nod.cells_len hb) (show List.take 134 b.cells = b.cells from List.take_of_length_le (Nat.le_of_eq (Nod.cells_len hb)))) rfl ?_   -- 90
      refine lwg_call_pure rfl (wg rfl rfl) (callsTo Tryd.func41 rfl (by kernel_rfl) rfl) rfl (fun w hm => tsame_any w a71 _ _ (nodIn k a) rfl (hr71.rdAt hm (i := 1) rfl) a77 _ _ (nodIn k b) rfl (hr77.rdAt hm (i := 0) rfl)) ?_   -- 87
      refine lwg_call_pure rfl (wg rfl rfl) (callsTo Tryd.func42 rfl (by kernel_rfl) rfl) rfl (fun w hm => talike_any w k h1 h2 a (Cop.ok.mem ha hm) b (Cop.ok.mem hb hm)) ?_   -- 91
      refine lwg_pure rfl (wg rfl rfl) ((val_eql_bool Tryd.underlying4 rfl rfl).to (v' := .bool true) (by rw [nod_law ha hb h1 h2 (fun h => by first | exact ha4 h.1 | exact ha0 h.2) (fun h => by first | exact hb4 h.1 | exact hb0 h.2)]; simp)) rfl ?_   -- 92
      refine lw_pure rfl (val_pick_true rfl rfl) rfl ?_   -- 93
      refine lw_pure rfl (val_assign rfl) rfl ?_   -- 6
      refine lw_nil (into ?_)
      refine sw_ret (fun w hm => ?_)
      try dsimp only [thenP, blockP, Nat.beq, cond]
      exact ret_one _ rfl rfl ⟨rfl, hm.forgetAll⟩

theorem wholeTags_any (w8 : UInt8) (w : World) (hK : KW w) (a : Nod) (ha : a.o.ok w) (hsa : a.o.small) (b : Nod) (hb : b.o.ok w) (hsb : b.o.small) : Calls Tryd.prog 12 #[vU8 w8, .agg a.cells.toArray, .agg b.cells.toArray] w fun e w' => ∃ v, e = .returned v ∧ v = .bool true ∧ Mem w [] [] w' :=
  tags_k w8 w hK a ha hsa b hb hsb _ rfl (by omega) (by omega)
end Go.Proofs.YtpmnhmfahgchgaaDoor
