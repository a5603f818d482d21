import Derived.Test.YtpmnhmfahgchgaaDoorDig8
import Derived.Test.YtpmnhmfahgchgaaDoorDigT
import Derived.Test.YtpmnhmfahgchgaaDoorProg
set_option linter.unusedVariables false
set_option linter.unusedSimpArgs false
namespace Go.Proofs.YtpmnhmfahgchgaaDoor
open Go.Sx Go.Ps
theorem two_cases (p q : Prop) : (p ∧ q) ∨ (p ∧ ¬ q) ∨ ¬ p := by
  by_cases h : p
  · by_cases h2 : q
    · exact .inl ⟨h, h2⟩
    · exact .inr (.inl ⟨h, h2⟩)
  · exact .inr (.inr h)

theorem samePairs_any (w : World) (a : Option Addr) (c : Nat) (l : List (Sl UInt8 × Sl UInt8)) (har : Rd w a (l.flatMap fun x => [x.1.v, x.2.v])) (hae : ∀ s ∈ l, SlOk w s.1 ∧ SlOk w s.2) (ham : l.length < 9223372036854775808) (a2 : Option Addr) (c2 : Nat) (m : List (Sl UInt8 × Sl UInt8)) (hbr : Rd w a2 (m.flatMap fun x => [x.1.v, x.2.v])) (hbe : ∀ s ∈ m, SlOk w s.1 ∧ SlOk w s.2) (hbm : m.length < 9223372036854775808) : Calls Tryd.prog 65 #[.slice a l.length c, .slice a2 m.length c2] w fun e w' => ∃ v, e = .returned v ∧ v = .bool (decide (prs l = prs m)) ∧ Mem w [] [] w' := by
  refine calls_of_sw (vs := [.slice a l.length c, .slice a2 m.length c2]) Tryd.func65 rfl Tryd.ntmps65 rfl (SW.begin ?_)
  refine sw_seq ?_
  refine sw_region ?_
  refine ow_val (val_assign rfl) rfl ?_   -- 4
  refine ow_nil (into ?_)
  refine sw_seq ?_
  refine sw_seq ?_
  refine sw_region ?_
  refine ow_val (val_move rfl) rfl ?_   -- 6
  refine ow_val (val_len rfl Tryd.underlying43) rfl ?_   -- 7
  refine ow_val (val_move rfl) rfl ?_   -- 8
  refine ow_val (val_len rfl Tryd.underlying43) rfl ?_   -- 9
  by_cases hne : l.length ≠ m.length
  · -- yes
    refine ow_val ((val_neq_int rfl rfl).to (congrArg Value.bool (decide_eq_true (by omega)))) rfl ?_   -- 10
    refine ow_nil (into ?_)
    refine sw_true rfl rfl ?_
    refine sw_seq ?_
    refine sw_region ?_
    refine ow_val (val_assign rfl) rfl ?_   -- 4
    refine ow_nil (into ?_)
    refine sw_ret (fun w hm => ?_)
    try dsimp only [thenP, blockP, Nat.beq, cond]
    exact ret_one _ rfl rfl ⟨congrArg Value.bool (decide_eq_false (fun h => hne (by have := congrArg List.length h; rwa [prs_len, prs_len] at this))).symm, hm⟩
  · -- no
    refine ow_val ((val_neq_int rfl rfl).to (congrArg Value.bool (decide_eq_false (by omega)))) rfl ?_   -- 10
    refine ow_nil (into ?_)
    refine sw_false rfl rfl ?_
    refine sw_skip (into ?_)
    refine sw_seq ?_
    refine sw_seq ?_
    refine sw_region ?_
    refine ow_val (val_move rfl) rfl ?_   -- 11
    refine ow_val (val_len rfl Tryd.underlying43) rfl ?_   -- 12
    refine ow_val (val_move rfl) rfl ?_   -- 13
    refine ow_nil (into ?_)
    refine sw_block ?_
    have hlm : l.length = m.length := by omega
    refine sw_loop (σ := Nat) (fun j => j ≤ l.length ∧ (prs l).take j = (prs m).take j) (fun j => [(13, vInt (j : Int)), (12, vInt (l.length : Int)), (1, .slice a2 m.length c2), (0, .slice a l.length c)]) (fun _ => Mem w [] []) (fun j => l.length - j) 0 ⟨Nat.zero_le _, by simp⟩ ⟨rfl, rfl, rfl, rfl, trivial⟩ (fun w hm => hm) ?_
    rintro j ⟨hj, hjt⟩
    refine sw_seq ?_
    refine sw_region ?_
    refine ow_val (val_lss_int rfl rfl) rfl ?_   -- 14
    refine ow_nil (into ?_)
    refine sw_seq ?_
    refine sw_if rfl (fun h0 => ?_) (fun h0 => ?_)
    · -- then
      have hjm : j < m.length := by omega
      obtain ⟨ba, oa, rfl⟩ := har.addr (by rw [flatMap_size l (n := 2) (fun _ _ => rfl)]; omega)
      obtain ⟨bb, ob, rfl⟩ := hbr.addr (by rw [flatMap_size m (n := 2) (fun _ _ => rfl)]; omega)
      obtain ⟨⟨k1, v1⟩, hx1⟩ : ∃ z, l.getD j default = z := ⟨_, rfl⟩
      obtain ⟨⟨k2, v2⟩, hx2⟩ : ∃ z, m.getD j default = z := ⟨_, rfl⟩
      have hE1 := hae _ (getD_mem (l := l) (i := j) (by omega))
      have hE2 := hbe _ (getD_mem (l := m) (i := j) (by omega))
      rw [hx1] at hE1
      rw [hx2] at hE2
      have hy1 : (prs l).getD j default = (k1.xs, v1.xs) := by rw [prs_get (by omega), hx1]
      have hy2 : (prs m).getD j default = (k2.xs, v2.xs) := by rw [prs_get (by omega), hx2]
      have hg1 := flat2_get (fun x : Sl UInt8 × Sl UInt8 => x.1.v) (fun x => x.2.v) l j (by omega)
      have hg2 := flat2_get (fun x : Sl UInt8 × Sl UInt8 => x.1.v) (fun x => x.2.v) m j (by omega)
      rw [hx1] at hg1
      rw [hx2] at hg2
      refine sw_skip (into ?_)
      refine sw_seq ?_
      refine sw_block ?_
      refine sw_seq ?_
      refine sw_region ?_
      refine ow_val (val_move rfl) rfl ?_   -- 15
      refine ow_val (val_assign rfl) rfl ?_   -- 5
      refine ow_nil (into ?_)
      refine sw_seq ?_
      rcases two_cases (k1.xs = k2.xs) (v1.xs = v2.xs) with ⟨hk, hv⟩ | ⟨hk, hv⟩ | hk
      · -- case
        refine sw_region_lex _ [] [(0, 0), (1, 0), (2, 0), (3, 0), (5, 0), (6, 0), (7, 0), (8, 0), (4, 1), (9, 1), (10, 2), (11, 0), (12, 0), (13, 0), (14, 0), (15, 0), (16, 0), (18, 0), (19, 0), (20, 0), (21, 0), (17, 1), (22, 1), (23, 2), (24, 0), (25, 0)] (by kernel_rfl) (by kernel_rfl) (fun _ _ _ h => h) (fun _ h => h) (fun _ h => h.drawn _) ?_
        refine lw_pure rfl (val_move rfl) rfl ?_   -- 16
        refine lw_pure rfl (val_move rfl) rfl ?_   -- 17
        refine lw_pure rfl (val_indexAddr_slice j (oa + j * 2) rfl rfl Tryd.underlying43 Tryd.sizeOf101 (by omega) (by omega) (by omega)) rfl ?_   -- 18
        refine lw_pure rfl (val_fieldAddr (m := 0) (e := oa + j * 2 + 0) rfl Tryd.underlying101 rfl rfl Tryd.sizeOf25 rfl) rfl ?_   -- 19
        refine lw_pure rfl (val_move rfl) rfl ?_   -- 21
        refine lw_pure rfl (val_move rfl) rfl ?_   -- 22
        refine lw_pure rfl (val_indexAddr_slice j (ob + j * 2) rfl rfl Tryd.underlying43 Tryd.sizeOf101 (by omega) (by omega) (by omega)) rfl ?_   -- 23
        refine lw_pure rfl (val_fieldAddr (m := 0) (e := ob + j * 2 + 0) rfl Tryd.underlying101 rfl rfl Tryd.sizeOf25 rfl) rfl ?_   -- 24
        refine lw_held rfl ((val_load (v := k1.v) rfl Tryd.isAgg25 (fun w' hm => cell_of_rd (har.mem hm) hg1.1 (by omega))).to (v' := .slice k1.a k1.xs.length k1.c) rfl) rfl ?_   -- 20
        refine lw_held rfl ((val_load (v := k2.v) rfl Tryd.isAgg25 (fun w' hm => cell_of_rd (hbr.mem hm) hg2.1 (by omega))).to (v' := .slice k2.a k2.xs.length k2.c) rfl) rfl ?_   -- 25
        refine lw_call_pure (v := .bool true) rfl (callsTo Tryd.func28 rfl (by kernel_rfl) rfl) rfl (fun w hm => rsame_is w k1.a _ _ k1.xs rfl (hE1.1.1.mem hm) k2.a _ _ k2.xs rfl (hE2.1.1.mem hm) hE1.1.2.2 (decide_eq_true hk)) ?_   -- 26
        refine lw_pure rfl (val_not rfl) rfl ?_   -- 27
        refine lw_pure rfl (val_move rfl) rfl ?_   -- 28
        refine lwg_pure rfl (wg rfl rfl) (val_move rfl) rfl ?_   -- 29
        refine lwg_pure rfl (wg rfl rfl) (val_move rfl) rfl ?_   -- 30
        refine lwg_pure rfl (wg rfl rfl) (val_indexAddr_slice j (oa + j * 2) rfl rfl Tryd.underlying43 Tryd.sizeOf101 (by omega) (by omega) (by omega)) rfl ?_   -- 31
        refine lwg_pure rfl (wg rfl rfl) (val_fieldAddr (m := 0) (e := oa + j * 2 + 1) rfl Tryd.underlying101 rfl rfl Tryd.sizeOf25 rfl) rfl ?_   -- 32
        refine lwg_pure rfl (wg rfl rfl) (val_move rfl) rfl ?_   -- 34
        refine lwg_pure rfl (wg rfl rfl) (val_move rfl) rfl ?_   -- 35
        refine lwg_pure rfl (wg rfl rfl) (val_indexAddr_slice j (ob + j * 2) rfl rfl Tryd.underlying43 Tryd.sizeOf101 (by omega) (by omega) (by omega)) rfl ?_   -- 36
        refine lwg_pure rfl (wg rfl rfl) (val_fieldAddr (m := 0) (e := ob + j * 2 + 1) rfl Tryd.underlying101 rfl rfl Tryd.sizeOf25 rfl) rfl ?_   -- 37
        refine lwg_held rfl (wg rfl rfl) ((val_load (v := v1.v) rfl Tryd.isAgg25 (fun w' hm => cell_of_rd (har.mem hm) hg1.2 (by omega))).to (v' := .slice v1.a v1.xs.length v1.c) rfl) rfl ?_   -- 33
        refine lwg_held rfl (wg rfl rfl) ((val_load (v := v2.v) rfl Tryd.isAgg25 (fun w' hm => cell_of_rd (hbr.mem hm) hg2.2 (by omega))).to (v' := .slice v2.a v2.xs.length v2.c) rfl) rfl ?_   -- 38
        refine lwg_call_pure (v := .bool true) rfl (wg rfl rfl) (callsTo Tryd.func28 rfl (by kernel_rfl) rfl) rfl (fun w hm => rsame_is w v1.a _ _ v1.xs rfl (hE1.2.1.mem hm) v2.a _ _ v2.xs rfl (hE2.2.1.mem hm) hE1.2.2.2 (decide_eq_true hv)) ?_   -- 39
        refine lwg_pure rfl (wg rfl rfl) (val_not rfl) rfl ?_   -- 40
        refine lw_pure rfl (val_pick_false rfl rfl) rfl ?_   -- 41
        refine lw_nil (into ?_)
        refine sw_false rfl rfl ?_
        refine sw_skip (into ?_)
        refine sw_region ?_
        refine ow_val (val_add_int ((j + 1 : Nat) : Int) rfl rfl (by omega) (by omega)) rfl ?_   -- 42
        refine ow_val (val_move rfl) rfl ?_   -- 13
        exact ow_nil (fun w hm => ⟨j + 1, ⟨by omega, take_step (by rw [prs_len]; omega) (by rw [prs_len]; omega) hjt (by rw [hy1, hy2, hk, hv])⟩, by omega, ⟨rfl, rfl, rfl, rfl, trivial⟩, hm.forgetAll⟩)
      · -- case
        refine sw_region_lex _ [] [(0, 0), (1, 0), (2, 0), (3, 0), (5, 0), (6, 0), (7, 0), (8, 0), (4, 1), (9, 1), (10, 2), (11, 0), (12, 0), (13, 0), (14, 0), (15, 0), (16, 0), (18, 0), (19, 0), (20, 0), (21, 0), (17, 1), (22, 1), (23, 2), (24, 0), (25, 0)] (by kernel_rfl) (by kernel_rfl) (fun _ _ _ h => h) (fun _ h => h) (fun _ h => h.drawn _) ?_
        refine lw_pure rfl (val_move rfl) rfl ?_   -- 16
        refine lw_pure rfl (val_move rfl) rfl ?_   -- 17
        refine lw_pure rfl (val_indexAddr_slice j (oa + j * 2) rfl rfl Tryd.underlying43 Tryd.sizeOf101 (by omega) (by omega) (by omega)) rfl ?_   -- 18
        refine lw_pure rfl (val_fieldAddr (m := 0) (e := oa + j * 2 + 0) rfl Tryd.underlying101 rfl rfl Tryd.sizeOf25 rfl) rfl ?_   -- 19
        refine lw_pure rfl (val_move rfl) rfl ?_   -- 21
        refine lw_pure rfl (val_move rfl) rfl ?_   -- 22
        refine lw_pure rfl (val_indexAddr_slice j (ob + j * 2) rfl rfl Tryd.underlying43 Tryd.sizeOf101 (by omega) (by omega) (by omega)) rfl ?_   -- 23
        refine lw_pure rfl (val_fieldAddr (m := 0) (e := ob + j * 2 + 0) rfl Tryd.underlying101 rfl rfl Tryd.sizeOf25 rfl) rfl ?_   -- 24
        refine lw_held rfl ((val_load (v := k1.v) rfl Tryd.isAgg25 (fun w' hm => cell_of_rd (har.mem hm) hg1.1 (by omega))).to (v' := .slice k1.a k1.xs.length k1.c) rfl) rfl ?_   -- 20
        refine lw_held rfl ((val_load (v := k2.v) rfl Tryd.isAgg25 (fun w' hm => cell_of_rd (hbr.mem hm) hg2.1 (by omega))).to (v' := .slice k2.a k2.xs.length k2.c) rfl) rfl ?_   -- 25
        refine lw_call_pure (v := .bool true) rfl (callsTo Tryd.func28 rfl (by kernel_rfl) rfl) rfl (fun w hm => rsame_is w k1.a _ _ k1.xs rfl (hE1.1.1.mem hm) k2.a _ _ k2.xs rfl (hE2.1.1.mem hm) hE1.1.2.2 (decide_eq_true hk)) ?_   -- 26
        refine lw_pure rfl (val_not rfl) rfl ?_   -- 27
        refine lw_pure rfl (val_move rfl) rfl ?_   -- 28
        refine lwg_pure rfl (wg rfl rfl) (val_move rfl) rfl ?_   -- 29
        refine lwg_pure rfl (wg rfl rfl) (val_move rfl) rfl ?_   -- 30
        refine lwg_pure rfl (wg rfl rfl) (val_indexAddr_slice j (oa + j * 2) rfl rfl Tryd.underlying43 Tryd.sizeOf101 (by omega) (by omega) (by omega)) rfl ?_   -- 31
        refine lwg_pure rfl (wg rfl rfl) (val_fieldAddr (m := 0) (e := oa + j * 2 + 1) rfl Tryd.underlying101 rfl rfl Tryd.sizeOf25 rfl) rfl ?_   -- 32
        refine lwg_pure rfl (wg rfl rfl) (val_move rfl) rfl ?_   -- 34
        refine lwg_pure rfl (wg rfl rfl) (val_move rfl) rfl ?_   -- 35
        refine lwg_pure rfl (wg rfl rfl) (val_indexAddr_slice j (ob + j * 2) rfl rfl Tryd.underlying43 Tryd.sizeOf101 (by omega) (by omega) (by omega)) rfl ?_   -- 36
        refine lwg_pure rfl (wg rfl rfl) (val_fieldAddr (m := 0) (e := ob + j * 2 + 1) rfl Tryd.underlying101 rfl rfl Tryd.sizeOf25 rfl) rfl ?_   -- 37
        refine lwg_held rfl (wg rfl rfl) ((val_load (v := v1.v) rfl Tryd.isAgg25 (fun w' hm => cell_of_rd (har.mem hm) hg1.2 (by omega))).to (v' := .slice v1.a v1.xs.length v1.c) rfl) rfl ?_   -- 33
        refine lwg_held rfl (wg rfl rfl) ((val_load (v := v2.v) rfl Tryd.isAgg25 (fun w' hm => cell_of_rd (hbr.mem hm) hg2.2 (by omega))).to (v' := .slice v2.a v2.xs.length v2.c) rfl) rfl ?_   -- 38
        refine lwg_call_pure (v := .bool false) rfl (wg rfl rfl) (callsTo Tryd.func28 rfl (by kernel_rfl) rfl) rfl (fun w hm => rsame_is w v1.a _ _ v1.xs rfl (hE1.2.1.mem hm) v2.a _ _ v2.xs rfl (hE2.2.1.mem hm) hE1.2.2.2 (decide_eq_false hv)) ?_   -- 39
        refine lwg_pure rfl (wg rfl rfl) (val_not rfl) rfl ?_   -- 40
        refine lw_pure rfl (val_pick_false rfl rfl) rfl ?_   -- 41
        refine lw_nil (into ?_)
        refine sw_true rfl rfl ?_
        refine sw_seq ?_
        refine sw_region ?_
        refine ow_val (val_assign rfl) rfl ?_   -- 4
        refine ow_nil (into ?_)
        refine sw_ret (fun w hm => ?_)
        try dsimp only [thenP, blockP, Nat.beq, cond]
        exact ret_one _ rfl rfl ⟨congrArg Value.bool (decide_eq_false (getD_ne' (by rw [hy1, hy2]; exact (fun h => hv (congrArg Prod.snd h))))).symm, hm.forgetAll⟩
      · -- case
        refine sw_region_lex _ [] [(0, 0), (1, 0), (2, 0), (3, 0), (5, 0), (6, 0), (7, 0), (8, 0), (4, 1), (9, 1), (10, 2), (11, 0), (12, 0), (13, 0), (14, 0), (15, 0), (16, 0), (17, 0), (18, 0), (19, 0), (20, 0), (21, 0), (22, 0), (23, 0), (24, 0), (25, 0)] (by kernel_rfl) (by kernel_rfl) (fun _ _ _ h => h) (fun _ h => h) (fun _ h => h.drawn _) ?_
        refine lw_pure rfl (val_move rfl) rfl ?_   -- 16
        refine lw_pure rfl (val_move rfl) rfl ?_   -- 17
        refine lw_pure rfl (val_indexAddr_slice j (oa + j * 2) rfl rfl Tryd.underlying43 Tryd.sizeOf101 (by omega) (by omega) (by omega)) rfl ?_   -- 18
        refine lw_pure rfl (val_fieldAddr (m := 0) (e := oa + j * 2 + 0) rfl Tryd.underlying101 rfl rfl Tryd.sizeOf25 rfl) rfl ?_   -- 19
        refine lw_pure rfl (val_move rfl) rfl ?_   -- 21
        refine lw_pure rfl (val_move rfl) rfl ?_   -- 22
        refine lw_pure rfl (val_indexAddr_slice j (ob + j * 2) rfl rfl Tryd.underlying43 Tryd.sizeOf101 (by omega) (by omega) (by omega)) rfl ?_   -- 23
        refine lw_pure rfl (val_fieldAddr (m := 0) (e := ob + j * 2 + 0) rfl Tryd.underlying101 rfl rfl Tryd.sizeOf25 rfl) rfl ?_   -- 24
        refine lw_held rfl ((val_load (v := k1.v) rfl Tryd.isAgg25 (fun w' hm => cell_of_rd (har.mem hm) hg1.1 (by omega))).to (v' := .slice k1.a k1.xs.length k1.c) rfl) rfl ?_   -- 20
        refine lw_held rfl ((val_load (v := k2.v) rfl Tryd.isAgg25 (fun w' hm => cell_of_rd (hbr.mem hm) hg2.1 (by omega))).to (v' := .slice k2.a k2.xs.length k2.c) rfl) rfl ?_   -- 25
        refine lw_call_pure (v := .bool false) rfl (callsTo Tryd.func28 rfl (by kernel_rfl) rfl) rfl (fun w hm => rsame_is w k1.a _ _ k1.xs rfl (hE1.1.1.mem hm) k2.a _ _ k2.xs rfl (hE2.1.1.mem hm) hE1.1.2.2 (decide_eq_false hk)) ?_   -- 26
        refine lw_pure rfl (val_not rfl) rfl ?_   -- 27
        refine lw_pure rfl (val_move rfl) rfl ?_   -- 28
        first | refine lwg_no rfl (ng1 rfl rfl) rfl ?_ | refine lwg_no rfl (ng2 rfl rfl) rfl ?_   -- 29
        first | refine lwg_no rfl (ng1 rfl rfl) rfl ?_ | refine lwg_no rfl (ng2 rfl rfl) rfl ?_   -- 30
        first | refine lwg_no rfl (ng1 rfl rfl) rfl ?_ | refine lwg_no rfl (ng2 rfl rfl) rfl ?_   -- 31
        first | refine lwg_no rfl (ng1 rfl rfl) rfl ?_ | refine lwg_no rfl (ng2 rfl rfl) rfl ?_   -- 32
        first | refine lwg_no rfl (ng1 rfl rfl) rfl ?_ | refine lwg_no rfl (ng2 rfl rfl) rfl ?_   -- 33
        first | refine lwg_no rfl (ng1 rfl rfl) rfl ?_ | refine lwg_no rfl (ng2 rfl rfl) rfl ?_   -- 34
        first | refine lwg_no rfl (ng1 rfl rfl) rfl ?_ | refine lwg_no rfl (ng2 rfl rfl) rfl ?_   -- 35
        first | refine lwg_no rfl (ng1 rfl rfl) rfl ?_ | refine lwg_no rfl (ng2 rfl rfl) rfl ?_   -- 36
        first | refine lwg_no rfl (ng1 rfl rfl) rfl ?_ | refine lwg_no rfl (ng2 rfl rfl) rfl ?_   -- 37
        first | refine lwg_no rfl (ng1 rfl rfl) rfl ?_ | refine lwg_no rfl (ng2 rfl rfl) rfl ?_   -- 38
        first | refine lwg_no rfl (ng1 rfl rfl) rfl ?_ | refine lwg_no rfl (ng2 rfl rfl) rfl ?_   -- 39
        first | refine lwg_no rfl (ng1 rfl rfl) rfl ?_ | refine lwg_no rfl (ng2 rfl rfl) rfl ?_   -- 40
        refine lw_pure rfl (val_pick_true rfl rfl) rfl ?_   -- 41
        refine lw_nil (into ?_)
        refine sw_true rfl rfl ?_
        refine sw_seq ?_
        refine sw_region ?_
        refine ow_val (val_assign rfl) rfl ?_   -- 4
        refine ow_nil (into ?_)
        refine sw_ret (fun w hm => ?_)
        try dsimp only [thenP, blockP, Nat.beq, cond]
        exact ret_one _ rfl rfl ⟨congrArg Value.bool (decide_eq_false (getD_ne' (by rw [hy1, hy2]; exact (fun h => hk (congrArg Prod.fst h))))).symm, hm.forgetAll⟩
    · -- else
      have hall : prs l = prs m := by
        rw [show j = l.length by omega] at hjt
        rwa [List.take_of_length_le (by rw [prs_len]; omega), List.take_of_length_le (by rw [prs_len]; omega)] at hjt
      refine sw_exit (into ?_)
      refine sw_seq ?_
      refine sw_region ?_
      refine ow_val (val_assign rfl) rfl ?_   -- 4
      refine ow_nil (into ?_)
      refine sw_ret (fun w hm => ?_)
      try dsimp only [thenP, blockP, Nat.beq, cond]
      exact ret_one _ rfl rfl ⟨congrArg Value.bool (decide_eq_true hall).symm, hm.forgetAll⟩

theorem sameKids_any (w : World) (a : Option Addr) (c : Nat) (l : List (List UInt8)) (har : Rd w a (l.flatMap fun d => d.map vU8)) (hae : ∀ d ∈ l, d.length = 32) (ham : l.length ≤ 4398046511000) (a2 : Option Addr) (c2 : Nat) (m : List (List UInt8)) (hbr : Rd w a2 (m.flatMap fun d => d.map vU8)) (hbe : ∀ d ∈ m, d.length = 32) (hbm : m.length ≤ 4398046511000) : Calls Tryd.prog 66 #[.slice a l.length c, .slice a2 m.length c2] w fun e w' => ∃ v, e = .returned v ∧ v = .bool (decide (l = m)) ∧ Mem w [] [] w' := by
  refine calls_of_sw (vs := [.slice a l.length c, .slice a2 m.length c2]) Tryd.func66 rfl Tryd.ntmps66 rfl (SW.begin ?_)
  refine sw_seq ?_
  refine sw_region ?_
  refine ow_val (val_assign rfl) rfl ?_   -- 4
  refine ow_nil (into ?_)
  refine sw_seq ?_
  refine sw_seq ?_
  refine sw_region ?_
  refine ow_val (val_move rfl) rfl ?_   -- 6
  refine ow_val (val_len rfl Tryd.underlying45) rfl ?_   -- 7
  refine ow_val (val_move rfl) rfl ?_   -- 8
  refine ow_val (val_len rfl Tryd.underlying45) rfl ?_   -- 9
  by_cases hne : l.length ≠ m.length
  · -- yes
    refine ow_val ((val_neq_int rfl rfl).to (congrArg Value.bool (decide_eq_true (by omega)))) rfl ?_   -- 10
    refine ow_nil (into ?_)
    refine sw_true rfl rfl ?_
    refine sw_seq ?_
    refine sw_region ?_
    refine ow_val (val_assign rfl) rfl ?_   -- 4
    refine ow_nil (into ?_)
    refine sw_ret (fun w hm => ?_)
    try dsimp only [thenP, blockP, Nat.beq, cond]
    exact ret_one _ rfl rfl ⟨congrArg Value.bool (decide_eq_false (fun h => hne (congrArg List.length h))).symm, hm⟩
  · -- no
    refine ow_val ((val_neq_int rfl rfl).to (congrArg Value.bool (decide_eq_false (by omega)))) rfl ?_   -- 10
    refine ow_nil (into ?_)
    refine sw_false rfl rfl ?_
    refine sw_skip (into ?_)
    refine sw_seq ?_
    refine sw_seq ?_
    refine sw_region ?_
    refine ow_val (val_move rfl) rfl ?_   -- 11
    refine ow_val (val_len rfl Tryd.underlying45) rfl ?_   -- 12
    refine ow_val (val_move rfl) rfl ?_   -- 13
    refine ow_nil (into ?_)
    refine sw_block ?_
    have hlm : l.length = m.length := by omega
    refine sw_loop (σ := Nat) (fun j => j ≤ l.length ∧ l.take j = m.take j) (fun j => [(13, vInt (j : Int)), (12, vInt (l.length : Int)), (1, .slice a2 m.length c2), (0, .slice a l.length c)]) (fun _ => Mem w [] []) (fun j => l.length - j) 0 ⟨Nat.zero_le _, by simp⟩ ⟨rfl, rfl, rfl, rfl, trivial⟩ (fun w hm => hm) ?_
    rintro j ⟨hj, hjt⟩
    refine sw_seq ?_
    refine sw_region ?_
    refine ow_val (val_lss_int rfl rfl) rfl ?_   -- 14
    refine ow_nil (into ?_)
    refine sw_seq ?_
    refine sw_if rfl (fun h0 => ?_) (fun h0 => ?_)
    · -- then
      have hjm : j < m.length := by omega
      obtain ⟨ba, oa, rfl⟩ := har.addr (by rw [flatMap_size l (fun x hx => by rw [List.length_map]; exact hae x hx)]; omega)
      obtain ⟨bb, ob, rfl⟩ := hbr.addr (by rw [flatMap_size m (fun x hx => by rw [List.length_map]; exact hbe x hx)]; omega)
      have hd1 := hae _ (getD_mem (l := l) (i := j) (by omega))
      have hd2 := hbe _ (getD_mem (l := m) (i := j) (by omega))
      refine sw_skip (into ?_)
      refine sw_seq ?_
      refine sw_block ?_
      refine sw_seq ?_
      refine sw_region ?_
      refine ow_val (val_move rfl) rfl ?_   -- 15
      refine ow_val (val_assign rfl) rfl ?_   -- 5
      refine ow_nil (into ?_)
      refine sw_seq ?_
      by_cases hke : l.getD j default ≠ m.getD j default
      · -- yes
        refine sw_region_lex _ [] [(0, 0), (1, 0), (2, 0), (4, 0), (5, 0), (6, 0), (3, 1), (7, 1), (8, 0)] (by kernel_rfl) (by kernel_rfl) (fun _ _ _ h => h) (fun _ h => h) (fun _ h => h.drawn _) ?_
        refine lw_pure rfl (val_move rfl) rfl ?_   -- 16
        refine lw_pure rfl (val_move rfl) rfl ?_   -- 17
        refine lw_pure rfl (val_indexAddr_slice (j) (oa + j * 32) rfl rfl Tryd.underlying45 Tryd.sizeOf27 (by omega) (by omega) (by omega)) rfl ?_   -- 18
        refine lw_pure rfl (val_move rfl) rfl ?_   -- 20
        refine lw_pure rfl (val_move rfl) rfl ?_   -- 21
        refine lw_pure rfl (val_indexAddr_slice (j) (ob + j * 32) rfl rfl Tryd.underlying45 Tryd.sizeOf27 (by omega) (by omega) (by omega)) rfl ?_   -- 22
        refine lw_held rfl (val_load_elem (cells := fun d => d.map vU8) (l := l) (o := oa) (i := j) rfl Tryd.isAgg27 Tryd.sizeOf27 (fun x hx => by rw [List.length_map]; exact hae x hx) (by omega) (by omega) (fun w' hm => har.mem hm)) rfl ?_   -- 19
        refine lw_held rfl (val_load_elem (cells := fun d => d.map vU8) (l := m) (o := ob) (i := j) rfl Tryd.isAgg27 Tryd.sizeOf27 (fun x hx => by rw [List.length_map]; exact hbe x hx) (by omega) (by omega) (fun w' hm => hbr.mem hm)) rfl ?_   -- 23
        refine lw_pure rfl ((val_neq_u8s rfl rfl Tryd.eqGuardType27 Tryd.underlying27 Tryd.underlying5 Tryd.sizeOf5 Tryd.isAgg5 hd1 hd2).to (congrArg Value.bool (by rw [decide_eq_false hke] <;> rfl))) rfl ?_   -- 24
        refine lw_nil (into ?_)
        refine sw_true rfl rfl ?_
        refine sw_seq ?_
        refine sw_region ?_
        refine ow_val (val_assign rfl) rfl ?_   -- 4
        refine ow_nil (into ?_)
        refine sw_ret (fun w hm => ?_)
        try dsimp only [thenP, blockP, Nat.beq, cond]
        exact ret_one _ rfl rfl ⟨congrArg Value.bool (decide_eq_false (getD_ne' hke)).symm, hm.forgetAll⟩
      · -- no
        refine sw_region_lex _ [] [(0, 0), (1, 0), (2, 0), (4, 0), (5, 0), (6, 0), (3, 1), (7, 1), (8, 0)] (by kernel_rfl) (by kernel_rfl) (fun _ _ _ h => h) (fun _ h => h) (fun _ h => h.drawn _) ?_
        refine lw_pure rfl (val_move rfl) rfl ?_   -- 16
        refine lw_pure rfl (val_move rfl) rfl ?_   -- 17
        refine lw_pure rfl (val_indexAddr_slice (j) (oa + j * 32) rfl rfl Tryd.underlying45 Tryd.sizeOf27 (by omega) (by omega) (by omega)) rfl ?_   -- 18
        refine lw_pure rfl (val_move rfl) rfl ?_   -- 20
        refine lw_pure rfl (val_move rfl) rfl ?_   -- 21
        refine lw_pure rfl (val_indexAddr_slice (j) (ob + j * 32) rfl rfl Tryd.underlying45 Tryd.sizeOf27 (by omega) (by omega) (by omega)) rfl ?_   -- 22
        refine lw_held rfl (val_load_elem (cells := fun d => d.map vU8) (l := l) (o := oa) (i := j) rfl Tryd.isAgg27 Tryd.sizeOf27 (fun x hx => by rw [List.length_map]; exact hae x hx) (by omega) (by omega) (fun w' hm => har.mem hm)) rfl ?_   -- 19
        refine lw_held rfl (val_load_elem (cells := fun d => d.map vU8) (l := m) (o := ob) (i := j) rfl Tryd.isAgg27 Tryd.sizeOf27 (fun x hx => by rw [List.length_map]; exact hbe x hx) (by omega) (by omega) (fun w' hm => hbr.mem hm)) rfl ?_   -- 23
        refine lw_pure rfl ((val_neq_u8s rfl rfl Tryd.eqGuardType27 Tryd.underlying27 Tryd.underlying5 Tryd.sizeOf5 Tryd.isAgg5 hd1 hd2).to (congrArg Value.bool (by rw [decide_eq_true (Decidable.not_not.1 hke)] <;> rfl))) rfl ?_   -- 24
        refine lw_nil (into ?_)
        refine sw_false rfl rfl ?_
        refine sw_skip (into ?_)
        refine sw_region ?_
        refine ow_val (val_add_int ((j + 1 : Nat) : Int) rfl rfl (by omega) (by omega)) rfl ?_   -- 25
        refine ow_val (val_move rfl) rfl ?_   -- 13
        exact ow_nil (fun w hm => ⟨j + 1, ⟨by omega, take_step (by omega) (by omega) hjt (Decidable.not_not.1 hke)⟩, by omega, ⟨rfl, rfl, rfl, rfl, trivial⟩, hm.forgetAll⟩)
    · -- else
      have hall : l = m := by
        rw [show j = l.length by omega] at hjt
        rwa [List.take_of_length_le (by omega), List.take_of_length_le (by omega)] at hjt
      refine sw_exit (into ?_)
      refine sw_seq ?_
      refine sw_region ?_
      refine ow_val (val_assign rfl) rfl ?_   -- 4
      refine ow_nil (into ?_)
      refine sw_ret (fun w hm => ?_)
      try dsimp only [thenP, blockP, Nat.beq, cond]
      exact ret_one _ rfl rfl ⟨congrArg Value.bool (decide_eq_true hall).symm, hm.forgetAll⟩

theorem lsame_1 (w : World) (o : Cop) (ho : o.ok w) (q : Cop) (hq : q.ok w) (hk : o.kind = 1) : Calls Tryd.prog 29 #[.agg o.cells.toArray, .agg q.cells.toArray] w fun e w' => ∃ v, e = .returned v ∧ v = .bool (sameO o q) ∧ Mem w [] [] w' := by
  have hpo := ho.p.2.2
  have hpq := hq.p.2.2
  refine calls_of_sw (vs := [.agg o.cells.toArray, .agg q.cells.toArray]) Tryd.func29 rfl Tryd.ntmps29 rfl (SW.begin ?_)
  refine sw_seq ?_
  refine sw_region ?_
  refine ow_new (acts_box rfl) rfl (fun b2 hb2 => ?_)   -- 2
  refine ow_new (acts_box rfl) rfl (fun b3 hb3 => ?_)   -- 3
  refine ow_val (val_assign rfl) rfl ?_   -- 4
  refine ow_nil (into ?_)
  refine sw_seq ?_
  refine sw_seq ?_
  refine sw_region ?_
  refine ow_val (val_fieldAddr (m := 0) (e := 0) rfl Tryd.underlying50 rfl rfl Tryd.sizeOf3 rfl) rfl ?_   -- 5
  refine ow_val (val_load_at 1 rfl rfl Tryd.isAgg3 rfl) rfl ?_   -- 6
  refine ow_nil (into ?_)
  refine sw_block ?_
  refine sw_seq ?_
  refine sw_seq ?_
  refine sw_region ?_
  refine ow_val ((val_eql_int rfl rfl).to (v' := .bool true) (congrArg Value.bool (decide_eq_true (by omega)))) rfl ?_   -- 8
  refine ow_val (val_assign rfl) rfl ?_   -- 7
  refine ow_nil (into ?_)
  refine sw_true rfl rfl ?_
  refine sw_skip (into ?_)
  refine sw_true rfl rfl ?_
  refine sw_seq ?_
  refine sw_region ?_
  refine ow_val (val_fieldAddr (m := 0) (e := 2) rfl Tryd.underlying50 rfl rfl Tryd.sizeOf25 rfl) rfl ?_   -- 10
  refine ow_val (val_load_at 1 rfl rfl Tryd.isAgg25 rfl) rfl ?_   -- 11
  refine ow_val (val_fieldAddr (m := 0) (e := 2) rfl Tryd.underlying50 rfl rfl Tryd.sizeOf25 rfl) rfl ?_   -- 12
  refine ow_val (val_load_at 0 rfl rfl Tryd.isAgg25 rfl) rfl ?_   -- 13
  refine ow_call_pure (callsTo Tryd.func28 rfl (by kernel_rfl) rfl) rfl (fun w hm => rsame_any w o.P.a o.P.xs.length _ o.P.xs rfl (ho.p.1.mem hm) q.P.a q.P.xs.length _ q.P.xs rfl (hq.p.1.mem hm) (by omega)) ?_   -- 14
  refine ow_val (val_assign rfl) rfl ?_   -- 4
  refine ow_nil (into ?_)
  refine sw_ret (fun w hm => ?_)
  try dsimp only [thenP, blockP, Nat.beq, cond]
  exact ret_one _ rfl rfl ⟨by simp [sameO, hk] <;> rfl, hm.forgetAll⟩

theorem lsame_2 (w : World) (o : Cop) (ho : o.ok w) (q : Cop) (hq : q.ok w) (hk : o.kind = 2) : Calls Tryd.prog 29 #[.agg o.cells.toArray, .agg q.cells.toArray] w fun e w' => ∃ v, e = .returned v ∧ v = .bool (sameO o q) ∧ Mem w [] [] w' := by
  have hpo := ho.p.2.2
  have hpq := hq.p.2.2
  refine calls_of_sw (vs := [.agg o.cells.toArray, .agg q.cells.toArray]) Tryd.func29 rfl Tryd.ntmps29 rfl (SW.begin ?_)
  refine sw_seq ?_
  refine sw_region ?_
  refine ow_new (acts_box rfl) rfl (fun b2 hb2 => ?_)   -- 2
  refine ow_new (acts_box rfl) rfl (fun b3 hb3 => ?_)   -- 3
  refine ow_val (val_assign rfl) rfl ?_   -- 4
  refine ow_nil (into ?_)
  refine sw_seq ?_
  refine sw_seq ?_
  refine sw_region ?_
  refine ow_val (val_fieldAddr (m := 0) (e := 0) rfl Tryd.underlying50 rfl rfl Tryd.sizeOf3 rfl) rfl ?_   -- 5
  refine ow_val (val_load_at 1 rfl rfl Tryd.isAgg3 rfl) rfl ?_   -- 6
  refine ow_nil (into ?_)
  refine sw_block ?_
  refine sw_seq ?_
  refine sw_seq ?_
  refine sw_region ?_
  refine ow_val ((val_eql_int rfl rfl).to (v' := .bool false) (congrArg Value.bool (decide_eq_false (by omega)))) rfl ?_   -- 8
  refine ow_val (val_assign rfl) rfl ?_   -- 7
  refine ow_nil (into ?_)
  refine sw_false rfl rfl ?_
  refine sw_region ?_
  refine ow_val ((val_eql_int rfl rfl).to (v' := .bool false) (congrArg Value.bool (decide_eq_false (by omega)))) rfl ?_   -- 9
  refine ow_val (val_assign rfl) rfl ?_   -- 7
  refine ow_nil (into ?_)
  refine sw_false rfl rfl ?_
  refine sw_seq ?_
  refine sw_region ?_
  refine ow_val ((val_eql_int rfl rfl).to (v' := .bool true) (congrArg Value.bool (decide_eq_true (by omega)))) rfl ?_   -- 16
  refine ow_val (val_assign rfl) rfl ?_   -- 15
  refine ow_nil (into ?_)
  refine sw_true rfl rfl ?_
  refine sw_seq ?_
  refine sw_region ?_
  refine ow_val (val_fieldAddr (m := 31) (e := 3) rfl Tryd.underlying50 rfl rfl Tryd.sizeOf27 rfl) rfl ?_   -- 17
  refine ow_val (val_load_part 1 rfl rfl Tryd.isAgg27 Tryd.sizeOf27 (by show (List.map vU8 o.L).length = _; rw [List.length_map]; exact ho.ll) (Cop.cells_L ho)) rfl ?_   -- 18
  refine ow_val (val_fieldAddr (m := 31) (e := 3) rfl Tryd.underlying50 rfl rfl Tryd.sizeOf27 rfl) rfl ?_   -- 19
  refine ow_val (val_load_part 0 rfl rfl Tryd.isAgg27 Tryd.sizeOf27 (by show (List.map vU8 q.L).length = _; rw [List.length_map]; exact hq.ll) (Cop.cells_L hq)) rfl ?_   -- 20
  by_cases hL : o.L = q.L
  · -- yes
    refine ow_val ((val_eql_u8s rfl rfl Tryd.eqGuardType27 Tryd.underlying27 Tryd.underlying5 Tryd.sizeOf5 Tryd.isAgg5 ho.ll hq.ll).to (congrArg Value.bool (decide_eq_true (hL)))) rfl ?_   -- 21
    refine ow_val (val_move rfl) rfl ?_   -- 22
    refine ow_guard_yes rfl rfl rfl ?_
    refine ow_val (val_fieldAddr (m := 31) (e := 35) rfl Tryd.underlying50 rfl rfl Tryd.sizeOf27 rfl) rfl ?_   -- 23
    refine ow_guard_yes rfl rfl rfl ?_
    refine ow_val (val_load_part 1 rfl rfl Tryd.isAgg27 Tryd.sizeOf27 (by show (List.map vU8 o.R).length = _; rw [List.length_map]; exact ho.rl) (Cop.cells_R ho)) rfl ?_   -- 24
    refine ow_guard_yes rfl rfl rfl ?_
    refine ow_val (val_fieldAddr (m := 31) (e := 35) rfl Tryd.underlying50 rfl rfl Tryd.sizeOf27 rfl) rfl ?_   -- 25
    refine ow_guard_yes rfl rfl rfl ?_
    refine ow_val (val_load_part 0 rfl rfl Tryd.isAgg27 Tryd.sizeOf27 (by show (List.map vU8 q.R).length = _; rw [List.length_map]; exact hq.rl) (Cop.cells_R hq)) rfl ?_   -- 26
    refine ow_guard_yes rfl rfl rfl ?_
    refine ow_val (val_eql_u8s rfl rfl Tryd.eqGuardType27 Tryd.underlying27 Tryd.underlying5 Tryd.sizeOf5 Tryd.isAgg5 ho.rl hq.rl) rfl ?_   -- 27
    refine ow_val (val_pick_true rfl rfl) rfl ?_   -- 28
    refine ow_val (val_assign rfl) rfl ?_   -- 4
    refine ow_nil (into ?_)
    refine sw_ret (fun w hm => ?_)
    try dsimp only [thenP, blockP, Nat.beq, cond]
    exact ret_one _ rfl rfl ⟨by simp [sameO, hk, hL] <;> rfl, hm.forgetAll⟩
  · -- no
    refine ow_val ((val_eql_u8s rfl rfl Tryd.eqGuardType27 Tryd.underlying27 Tryd.underlying5 Tryd.sizeOf5 Tryd.isAgg5 ho.ll hq.ll).to (congrArg Value.bool (decide_eq_false (hL)))) rfl ?_   -- 21
    refine ow_val (val_move rfl) rfl ?_   -- 22
    first | refine ow_guard_no rfl rfl rfl rfl rfl ?_ | refine ow_guard_none rfl rfl rfl rfl rfl ?_
    first | refine ow_guard_no rfl rfl rfl rfl rfl ?_ | refine ow_guard_none rfl rfl rfl rfl rfl ?_
    first | refine ow_guard_no rfl rfl rfl rfl rfl ?_ | refine ow_guard_none rfl rfl rfl rfl rfl ?_
    first | refine ow_guard_no rfl rfl rfl rfl rfl ?_ | refine ow_guard_none rfl rfl rfl rfl rfl ?_
    first | refine ow_guard_no rfl rfl rfl rfl rfl ?_ | refine ow_guard_none rfl rfl rfl rfl rfl ?_
    refine ow_val (val_pick_false rfl rfl) rfl ?_   -- 28
    refine ow_val (val_assign rfl) rfl ?_   -- 4
    refine ow_nil (into ?_)
    refine sw_ret (fun w hm => ?_)
    try dsimp only [thenP, blockP, Nat.beq, cond]
    exact ret_one _ rfl rfl ⟨by simp [sameO, hk, hL] <;> rfl, hm.forgetAll⟩

theorem lsame_3 (w : World) (o : Cop) (ho : o.ok w) (q : Cop) (hq : q.ok w) (hk : o.kind = 3) : Calls Tryd.prog 29 #[.agg o.cells.toArray, .agg q.cells.toArray] w fun e w' => ∃ v, e = .returned v ∧ v = .bool (sameO o q) ∧ Mem w [] [] w' := by
  have hpo := ho.p.2.2
  have hpq := hq.p.2.2
  refine calls_of_sw (vs := [.agg o.cells.toArray, .agg q.cells.toArray]) Tryd.func29 rfl Tryd.ntmps29 rfl (SW.begin ?_)
  refine sw_seq ?_
  refine sw_region ?_
  refine ow_new (acts_box rfl) rfl (fun b2 hb2 => ?_)   -- 2
  refine ow_new (acts_box rfl) rfl (fun b3 hb3 => ?_)   -- 3
  refine ow_val (val_assign rfl) rfl ?_   -- 4
  refine ow_nil (into ?_)
  refine sw_seq ?_
  refine sw_seq ?_
  refine sw_region ?_
  refine ow_val (val_fieldAddr (m := 0) (e := 0) rfl Tryd.underlying50 rfl rfl Tryd.sizeOf3 rfl) rfl ?_   -- 5
  refine ow_val (val_load_at 1 rfl rfl Tryd.isAgg3 rfl) rfl ?_   -- 6
  refine ow_nil (into ?_)
  refine sw_block ?_
  refine sw_seq ?_
  refine sw_seq ?_
  refine sw_region ?_
  refine ow_val ((val_eql_int rfl rfl).to (v' := .bool false) (congrArg Value.bool (decide_eq_false (by omega)))) rfl ?_   -- 8
  refine ow_val (val_assign rfl) rfl ?_   -- 7
  refine ow_nil (into ?_)
  refine sw_false rfl rfl ?_
  refine sw_region ?_
  refine ow_val ((val_eql_int rfl rfl).to (v' := .bool true) (congrArg Value.bool (decide_eq_true (by omega)))) rfl ?_   -- 9
  refine ow_val (val_assign rfl) rfl ?_   -- 7
  refine ow_nil (into ?_)
  refine sw_true rfl rfl ?_
  refine sw_seq ?_
  refine sw_region ?_
  refine ow_val (val_fieldAddr (m := 0) (e := 2) rfl Tryd.underlying50 rfl rfl Tryd.sizeOf25 rfl) rfl ?_   -- 10
  refine ow_val (val_load_at 1 rfl rfl Tryd.isAgg25 rfl) rfl ?_   -- 11
  refine ow_val (val_fieldAddr (m := 0) (e := 2) rfl Tryd.underlying50 rfl rfl Tryd.sizeOf25 rfl) rfl ?_   -- 12
  refine ow_val (val_load_at 0 rfl rfl Tryd.isAgg25 rfl) rfl ?_   -- 13
  refine ow_call_pure (callsTo Tryd.func28 rfl (by kernel_rfl) rfl) rfl (fun w hm => rsame_any w o.P.a o.P.xs.length _ o.P.xs rfl (ho.p.1.mem hm) q.P.a q.P.xs.length _ q.P.xs rfl (hq.p.1.mem hm) (by omega)) ?_   -- 14
  refine ow_val (val_assign rfl) rfl ?_   -- 4
  refine ow_nil (into ?_)
  refine sw_ret (fun w hm => ?_)
  try dsimp only [thenP, blockP, Nat.beq, cond]
  exact ret_one _ rfl rfl ⟨by simp [sameO, hk] <;> rfl, hm.forgetAll⟩

theorem lsame_4 (w : World) (o : Cop) (ho : o.ok w) (q : Cop) (hq : q.ok w) (hk : o.kind = 4) : Calls Tryd.prog 29 #[.agg o.cells.toArray, .agg q.cells.toArray] w fun e w' => ∃ v, e = .returned v ∧ v = .bool (sameO o q) ∧ Mem w [] [] w' := by
  have hpo := ho.p.2.2
  have hpq := hq.p.2.2
  refine calls_of_sw (vs := [.agg o.cells.toArray, .agg q.cells.toArray]) Tryd.func29 rfl Tryd.ntmps29 rfl (SW.begin ?_)
  refine sw_seq ?_
  refine sw_region ?_
  refine ow_new (acts_box rfl) rfl (fun b2 hb2 => ?_)   -- 2
  refine ow_new (acts_box rfl) rfl (fun b3 hb3 => ?_)   -- 3
  refine ow_val (val_assign rfl) rfl ?_   -- 4
  refine ow_nil (into ?_)
  refine sw_seq ?_
  refine sw_seq ?_
  refine sw_region ?_
  refine ow_val (val_fieldAddr (m := 0) (e := 0) rfl Tryd.underlying50 rfl rfl Tryd.sizeOf3 rfl) rfl ?_   -- 5
  refine ow_val (val_load_at 1 rfl rfl Tryd.isAgg3 rfl) rfl ?_   -- 6
  refine ow_nil (into ?_)
  refine sw_block ?_
  refine sw_seq ?_
  refine sw_seq ?_
  refine sw_region ?_
  refine ow_val ((val_eql_int rfl rfl).to (v' := .bool false) (congrArg Value.bool (decide_eq_false (by omega)))) rfl ?_   -- 8
  refine ow_val (val_assign rfl) rfl ?_   -- 7
  refine ow_nil (into ?_)
  refine sw_false rfl rfl ?_
  refine sw_region ?_
  refine ow_val ((val_eql_int rfl rfl).to (v' := .bool false) (congrArg Value.bool (decide_eq_false (by omega)))) rfl ?_   -- 9
  refine ow_val (val_assign rfl) rfl ?_   -- 7
  refine ow_nil (into ?_)
  refine sw_false rfl rfl ?_
  refine sw_seq ?_
  refine sw_region ?_
  refine ow_val ((val_eql_int rfl rfl).to (v' := .bool false) (congrArg Value.bool (decide_eq_false (by omega)))) rfl ?_   -- 16
  refine ow_val (val_assign rfl) rfl ?_   -- 15
  refine ow_nil (into ?_)
  refine sw_false rfl rfl ?_
  refine sw_seq ?_
  refine sw_region ?_
  refine ow_val ((val_eql_int rfl rfl).to (v' := .bool true) (congrArg Value.bool (decide_eq_true (by omega)))) rfl ?_   -- 30
  refine ow_val (val_assign rfl) rfl ?_   -- 29
  refine ow_nil (into ?_)
  refine sw_true rfl rfl ?_
  refine sw_seq ?_
  refine sw_region ?_
  refine ow_val (val_fieldAddr (m := 0) (e := 67) rfl Tryd.underlying50 rfl rfl Tryd.sizeOf43 rfl) rfl ?_   -- 31
  refine ow_val (val_load_at 1 rfl rfl Tryd.isAgg43 (Cop.c67 ho)) rfl ?_   -- 32
  refine ow_val (val_fieldAddr (m := 0) (e := 67) rfl Tryd.underlying50 rfl rfl Tryd.sizeOf43 rfl) rfl ?_   -- 33
  refine ow_val (val_load_at 0 rfl rfl Tryd.isAgg43 (Cop.c67 hq)) rfl ?_   -- 34
  refine ow_call_pure (callsTo Tryd.func65 rfl (by kernel_rfl) rfl) rfl (fun w hm => samePairs_any w _ _ o.pairs.xs (ho.pr.mem hm) (fun s hs => ⟨(ho.pe s hs).1.mem hm, (ho.pe s hs).2.mem hm⟩) ho.pm _ _ q.pairs.xs (hq.pr.mem hm) (fun s hs => ⟨(hq.pe s hs).1.mem hm, (hq.pe s hs).2.mem hm⟩) hq.pm) ?_   -- 35
  refine ow_val (val_assign rfl) rfl ?_   -- 4
  refine ow_nil (into ?_)
  refine sw_ret (fun w hm => ?_)
  try dsimp only [thenP, blockP, Nat.beq, cond]
  exact ret_one _ rfl rfl ⟨by simp [sameO, hk] <;> rfl, hm.forgetAll⟩

theorem lsame_5 (w : World) (o : Cop) (ho : o.ok w) (q : Cop) (hq : q.ok w) (hk : o.kind = 5) : Calls Tryd.prog 29 #[.agg o.cells.toArray, .agg q.cells.toArray] w fun e w' => ∃ v, e = .returned v ∧ v = .bool (sameO o q) ∧ Mem w [] [] w' := by
  have hpo := ho.p.2.2
  have hpq := hq.p.2.2
  refine calls_of_sw (vs := [.agg o.cells.toArray, .agg q.cells.toArray]) Tryd.func29 rfl Tryd.ntmps29 rfl (SW.begin ?_)
  refine sw_seq ?_
  refine sw_region ?_
  refine ow_new (acts_box rfl) rfl (fun b2 hb2 => ?_)   -- 2
  refine ow_new (acts_box rfl) rfl (fun b3 hb3 => ?_)   -- 3
  refine ow_val (val_assign rfl) rfl ?_   -- 4
  refine ow_nil (into ?_)
  refine sw_seq ?_
  refine sw_seq ?_
  refine sw_region ?_
  refine ow_val (val_fieldAddr (m := 0) (e := 0) rfl Tryd.underlying50 rfl rfl Tryd.sizeOf3 rfl) rfl ?_   -- 5
  refine ow_val (val_load_at 1 rfl rfl Tryd.isAgg3 rfl) rfl ?_   -- 6
  refine ow_nil (into ?_)
  refine sw_block ?_
  refine sw_seq ?_
  refine sw_seq ?_
  refine sw_region ?_
  refine ow_val ((val_eql_int rfl rfl).to (v' := .bool false) (congrArg Value.bool (decide_eq_false (by omega)))) rfl ?_   -- 8
  refine ow_val (val_assign rfl) rfl ?_   -- 7
  refine ow_nil (into ?_)
  refine sw_false rfl rfl ?_
  refine sw_region ?_
  refine ow_val ((val_eql_int rfl rfl).to (v' := .bool false) (congrArg Value.bool (decide_eq_false (by omega)))) rfl ?_   -- 9
  refine ow_val (val_assign rfl) rfl ?_   -- 7
  refine ow_nil (into ?_)
  refine sw_false rfl rfl ?_
  refine sw_seq ?_
  refine sw_region ?_
  refine ow_val ((val_eql_int rfl rfl).to (v' := .bool false) (congrArg Value.bool (decide_eq_false (by omega)))) rfl ?_   -- 16
  refine ow_val (val_assign rfl) rfl ?_   -- 15
  refine ow_nil (into ?_)
  refine sw_false rfl rfl ?_
  refine sw_seq ?_
  refine sw_region ?_
  refine ow_val ((val_eql_int rfl rfl).to (v' := .bool false) (congrArg Value.bool (decide_eq_false (by omega)))) rfl ?_   -- 30
  refine ow_val (val_assign rfl) rfl ?_   -- 29
  refine ow_nil (into ?_)
  refine sw_false rfl rfl ?_
  refine sw_seq ?_
  refine sw_region ?_
  refine ow_val ((val_eql_int rfl rfl).to (v' := .bool true) (congrArg Value.bool (decide_eq_true (by omega)))) rfl ?_   -- 37
  refine ow_val (val_assign rfl) rfl ?_   -- 36
  refine ow_nil (into ?_)
  refine sw_true rfl rfl ?_
  refine sw_seq ?_
  refine sw_region ?_
  refine ow_val (val_fieldAddr (m := 0) (e := 68) rfl Tryd.underlying50 rfl rfl Tryd.sizeOf44 rfl) rfl ?_   -- 38
  refine ow_val (val_load_at 1 rfl rfl Tryd.isAgg44 (Cop.c68 ho)) rfl ?_   -- 39
  refine ow_val (val_fieldAddr (m := 0) (e := 68) rfl Tryd.underlying50 rfl rfl Tryd.sizeOf44 rfl) rfl ?_   -- 40
  refine ow_val (val_load_at 0 rfl rfl Tryd.isAgg44 (Cop.c68 hq)) rfl ?_   -- 41
  by_cases hB : o.bm = q.bm
  · -- yes
    refine ow_val ((val_eql_u16 rfl rfl).to (congrArg Value.bool (decide_eq_true (hB)))) rfl ?_   -- 42
    refine ow_val (val_move rfl) rfl ?_   -- 43
    refine ow_guard_yes rfl rfl rfl ?_
    refine ow_val (val_fieldAddr (m := 0) (e := 69) rfl Tryd.underlying50 rfl rfl Tryd.sizeOf45 rfl) rfl ?_   -- 44
    refine ow_guard_yes rfl rfl rfl ?_
    refine ow_val (val_load_at 1 rfl rfl Tryd.isAgg45 (Cop.c69 ho)) rfl ?_   -- 45
    refine ow_guard_yes rfl rfl rfl ?_
    refine ow_val (val_fieldAddr (m := 0) (e := 69) rfl Tryd.underlying50 rfl rfl Tryd.sizeOf45 rfl) rfl ?_   -- 46
    refine ow_guard_yes rfl rfl rfl ?_
    refine ow_val (val_load_at 0 rfl rfl Tryd.isAgg45 (Cop.c69 hq)) rfl ?_   -- 47
    refine ow_guard_yes rfl rfl rfl ?_
    refine ow_call_pure (callsTo Tryd.func66 rfl (by kernel_rfl) rfl) rfl (fun w hm => sameKids_any w _ _ o.kids.xs (ho.kr.mem hm) ho.ke ho.km _ _ q.kids.xs (hq.kr.mem hm) hq.ke hq.km) ?_   -- 48
    refine ow_val (val_pick_true rfl rfl) rfl ?_   -- 49
    refine ow_val (val_assign rfl) rfl ?_   -- 4
    refine ow_nil (into ?_)
    refine sw_ret (fun w hm => ?_)
    try dsimp only [thenP, blockP, Nat.beq, cond]
    exact ret_one _ rfl rfl ⟨by simp [sameO, hk, hB] <;> rfl, hm.forgetAll⟩
  · -- no
    refine ow_val ((val_eql_u16 rfl rfl).to (congrArg Value.bool (decide_eq_false (hB)))) rfl ?_   -- 42
    refine ow_val (val_move rfl) rfl ?_   -- 43
    first | refine ow_guard_no rfl rfl rfl rfl rfl ?_ | refine ow_guard_none rfl rfl rfl rfl rfl ?_
    first | refine ow_guard_no rfl rfl rfl rfl rfl ?_ | refine ow_guard_none rfl rfl rfl rfl rfl ?_
    first | refine ow_guard_no rfl rfl rfl rfl rfl ?_ | refine ow_guard_none rfl rfl rfl rfl rfl ?_
    first | refine ow_guard_no rfl rfl rfl rfl rfl ?_ | refine ow_guard_none rfl rfl rfl rfl rfl ?_
    first | refine ow_guard_no rfl rfl rfl rfl rfl ?_ | refine ow_guard_none rfl rfl rfl rfl rfl ?_
    refine ow_val (val_pick_false rfl rfl) rfl ?_   -- 49
    refine ow_val (val_assign rfl) rfl ?_   -- 4
    refine ow_nil (into ?_)
    refine sw_ret (fun w hm => ?_)
    try dsimp only [thenP, blockP, Nat.beq, cond]
    exact ret_one _ rfl rfl ⟨by simp [sameO, hk, hB] <;> rfl, hm.forgetAll⟩

theorem lsame_other (w : World) (o : Cop) (ho : o.ok w) (q : Cop) (hq : q.ok w) (hk1 : ¬ o.kind = 1) (hk2 : ¬ o.kind = 2) (hk3 : ¬ o.kind = 3) (hk4 : ¬ o.kind = 4) (hk5 : ¬ o.kind = 5) : Calls Tryd.prog 29 #[.agg o.cells.toArray, .agg q.cells.toArray] w fun e w' => ∃ v, e = .returned v ∧ v = .bool (sameO o q) ∧ Mem w [] [] w' := by
  have hpo := ho.p.2.2
  have hpq := hq.p.2.2
  refine calls_of_sw (vs := [.agg o.cells.toArray, .agg q.cells.toArray]) Tryd.func29 rfl Tryd.ntmps29 rfl (SW.begin ?_)
  refine sw_seq ?_
  refine sw_region ?_
  refine ow_new (acts_box rfl) rfl (fun b2 hb2 => ?_)   -- 2
  refine ow_new (acts_box rfl) rfl (fun b3 hb3 => ?_)   -- 3
  refine ow_val (val_assign rfl) rfl ?_   -- 4
  refine ow_nil (into ?_)
  refine sw_seq ?_
  refine sw_seq ?_
  refine sw_region ?_
  refine ow_val (val_fieldAddr (m := 0) (e := 0) rfl Tryd.underlying50 rfl rfl Tryd.sizeOf3 rfl) rfl ?_   -- 5
  refine ow_val (val_load_at 1 rfl rfl Tryd.isAgg3 rfl) rfl ?_   -- 6
  refine ow_nil (into ?_)
  refine sw_block ?_
  refine sw_seq ?_
  refine sw_seq ?_
  refine sw_region ?_
  refine ow_val ((val_eql_int rfl rfl).to (v' := .bool false) (congrArg Value.bool (decide_eq_false (by omega)))) rfl ?_   -- 8
  refine ow_val (val_assign rfl) rfl ?_   -- 7
  refine ow_nil (into ?_)
  refine sw_false rfl rfl ?_
  refine sw_region ?_
  refine ow_val ((val_eql_int rfl rfl).to (v' := .bool false) (congrArg Value.bool (decide_eq_false (by omega)))) rfl ?_   -- 9
  refine ow_val (val_assign rfl) rfl ?_   -- 7
  refine ow_nil (into ?_)
  refine sw_false rfl rfl ?_
  refine sw_seq ?_
  refine sw_region ?_
  refine ow_val ((val_eql_int rfl rfl).to (v' := .bool false) (congrArg Value.bool (decide_eq_false (by omega)))) rfl ?_   -- 16
  refine ow_val (val_assign rfl) rfl ?_   -- 15
  refine ow_nil (into ?_)
  refine sw_false rfl rfl ?_
  refine sw_seq ?_
  refine sw_region ?_
  refine ow_val ((val_eql_int rfl rfl).to (v' := .bool false) (congrArg Value.bool (decide_eq_false (by omega)))) rfl ?_   -- 30
  refine ow_val (val_assign rfl) rfl ?_   -- 29
  refine ow_nil (into ?_)
  refine sw_false rfl rfl ?_
  refine sw_seq ?_
  refine sw_region ?_
  refine ow_val ((val_eql_int rfl rfl).to (v' := .bool false) (congrArg Value.bool (decide_eq_false (by omega)))) rfl ?_   -- 37
  refine ow_val (val_assign rfl) rfl ?_   -- 36
  refine ow_nil (into ?_)
  refine sw_false rfl rfl ?_
  refine sw_skip (into ?_)
  refine sw_seq ?_
  refine sw_region ?_
  refine ow_val (val_fieldAddr (m := 64) (e := 70) rfl Tryd.underlying50 rfl rfl Tryd.sizeOf48 rfl) rfl ?_   -- 50
  refine ow_val (val_load_part 1 rfl rfl Tryd.isAgg48 Tryd.sizeOf48 (rootC_len ho.gl ho.ml) (Cop.cells_root ho)) rfl ?_   -- 51
  refine ow_val (val_fieldAddr (m := 64) (e := 70) rfl Tryd.underlying50 rfl rfl Tryd.sizeOf48 rfl) rfl ?_   -- 52
  refine ow_val (val_load_part 0 rfl rfl Tryd.isAgg48 Tryd.sizeOf48 (rootC_len hq.gl hq.ml) (Cop.cells_root hq)) rfl ?_   -- 53
  refine ow_val (val_eql_root (n1 := "Size") (n2 := "Log") (n3 := "Map") (U := 46) (D := 27) (E := 5) rfl rfl Tryd.eqGuardType48 (by kernel_rfl) (by kernel_rfl) (by kernel_rfl) (by decide) (by decide) (by decide) Tryd.underlying46 Tryd.isAgg46 Tryd.underlying27 Tryd.isAgg27 Tryd.sizeOf27 Tryd.underlying5 Tryd.sizeOf5 Tryd.isAgg5 ho.gl ho.ml hq.gl hq.ml) rfl ?_   -- 54
  refine ow_val (val_assign rfl) rfl ?_   -- 4
  refine ow_nil (into ?_)
  exact sw_ret (fun w hm => ret_one _ rfl rfl ⟨by simp [sameO, hk1, hk2, hk3, hk4, hk5] <;> rfl, hm.forgetAll⟩)

theorem lsame_any (w : World) (o : Cop) (ho : o.ok w) (q : Cop) (hq : q.ok w) : Calls Tryd.prog 29 #[.agg o.cells.toArray, .agg q.cells.toArray] w fun e w' => ∃ v, e = .returned v ∧ v = .bool (sameO o q) ∧ Mem w [] [] w' := by
  by_cases hk1 : o.kind = 1
  · exact lsame_1 w o ho q hq hk1
  by_cases hk2 : o.kind = 2
  · exact lsame_2 w o ho q hq hk2
  by_cases hk3 : o.kind = 3
  · exact lsame_3 w o ho q hq hk3
  by_cases hk4 : o.kind = 4
  · exact lsame_4 w o ho q hq hk4
  by_cases hk5 : o.kind = 5
  · exact lsame_5 w o ho q hq hk5
  · exact lsame_other w o ho q hq hk1 hk2 hk3 hk4 hk5

theorem digestOneThing_any (v0 : Int) (w : World) (hK : KW w) (a : Cop) (ha : a.ok w) (hsa : a.small) (b : Cop) (hb : b.ok w) (hsb : b.small) : Calls Tryd.prog 8 #[vInt v0, .agg a.cells.toArray, .agg b.cells.toArray] w fun e w' => ∃ v, e = .returned v ∧ v = .bool true ∧ Mem w [] [] w' := by
  have hwr := wid_range v0
  refine calls_of_sw (vs := [vInt v0, .agg a.cells.toArray, .agg b.cells.toArray]) Tryd.func8 rfl Tryd.ntmps8 rfl (SW.begin ?_)
  refine sw_seq ?_
  refine sw_region ?_
  refine ow_new (acts_box rfl) rfl (fun b4 hb4 => ?_)   -- 4
  refine ow_new (acts_box rfl) rfl (fun b5 hb5 => ?_)   -- 5
  refine ow_val (val_assign rfl) rfl ?_   -- 6
  refine ow_nil (into ?_)
  refine sw_seq ?_
  refine sw_seq ?_
  refine sw_region ?_
  refine ow_call_pure (v := .bool true) (callsTo Tryd.func14 rfl (by kernel_rfl) rfl) rfl (fun w hm => awake_any w (hK.mem0 hm)) ?_   -- 11
  refine ow_val (val_not rfl) rfl ?_   -- 12
  refine ow_nil (into ?_)
  refine sw_false rfl rfl ?_
  refine sw_skip (into ?_)
  refine sw_seq ?_
  refine sw_seq ?_
  rcases two_cases (known a = true) (known b = true) with ⟨hka, hkb⟩ | ⟨hka, hkb⟩ | hka
  · -- case
    refine sw_region ?_
    refine ow_val (val_load_part 1 rfl rfl Tryd.isAgg50 Tryd.sizeOf50 (Cop.cells_len ha) (show List.take 135 a.cells = a.cells from List.take_of_length_le (Nat.le_of_eq (Cop.cells_len ha)))) rfl ?_   -- 13
    refine ow_call_pure (v := .bool true) (callsTo Tryd.func25 rfl (by kernel_rfl) rfl) rfl (fun w hm => (by have h := known_any w a (ha.mem hm) hsa; rw [hka] at h; exact h)) ?_   -- 14
    refine ow_val (val_not rfl) rfl ?_   -- 15
    refine ow_val (val_move rfl) rfl ?_   -- 16
    refine ow_guard_yes rfl rfl rfl ?_
    refine ow_val (val_load_part 0 rfl rfl Tryd.isAgg50 Tryd.sizeOf50 (Cop.cells_len hb) (show List.take 135 b.cells = b.cells from List.take_of_length_le (Nat.le_of_eq (Cop.cells_len hb)))) rfl ?_   -- 17
    refine ow_guard_yes rfl rfl rfl ?_
    refine ow_call_pure (v := .bool true) (callsTo Tryd.func25 rfl (by kernel_rfl) rfl) rfl (fun w hm => (by have h := known_any w b (hb.mem hm) hsb; rw [hkb] at h; exact h)) ?_   -- 18
    refine ow_guard_yes rfl rfl rfl ?_
    refine ow_val (val_not rfl) rfl ?_   -- 19
    refine ow_val (val_pick_false rfl rfl) rfl ?_   -- 20
    refine ow_nil (into ?_)
    refine sw_false rfl rfl ?_
    refine sw_skip (into ?_)
    refine sw_seq ?_
    refine sw_region ?_
    refine ow_val (val_move rfl) rfl ?_   -- 21
    refine ow_call_pure (v := vInt ((wid v0 : Nat) : Int)) (callsTo Tryd.func23 rfl (by kernel_rfl) rfl) rfl (fun w hm => lwidth_any v0 w) ?_   -- 22
    refine ow_val (val_move rfl) rfl ?_   -- 23
    refine ow_call_pure (v := vInt ((wid v0 : Nat) : Int)) (callsTo Tryd.func23 rfl (by kernel_rfl) rfl) rfl (fun w hm => lwidth_any v0 w) ?_   -- 24
    refine ow_val (val_fieldAddr (m := 0) (e := 1) rfl Tryd.underlying50 rfl rfl Tryd.sizeOf3 rfl) rfl ?_   -- 25
    refine ow_do (does_store 1 rfl rfl rfl rfl Tryd.sizeOf3 (by show 1 < a.cells.length; rw [Cop.cells_len ha]; omega)) (fun _ _ => ?_)
    rw [show (Value.agg a.cells.toArray).cells.toList.set 1 (vInt ((wid v0 : Nat) : Int)) = (a.setW ((wid v0 : Nat) : Int)).cells from rfl]
    obtain ⟨a2, ha2e⟩ : ∃ z, z = a.setW ((wid v0 : Nat) : Int) := ⟨_, rfl⟩
    rw [← ha2e]
    have ha2 : a2.ok w := by rw [ha2e]; exact Cop.setW_ok ha (by omega)
    have hsa2 : a2.small := by rw [ha2e]; exact hsa
    have hka2 : known a2 = true := by rw [ha2e]; exact hka
    have hwa2 : a2.w = ((wid v0 : Nat) : Int) := by rw [ha2e]; rfl
    have hla2 := opIn_len a2 ha2 hsa2
    refine ow_val (val_fieldAddr (m := 0) (e := 1) rfl Tryd.underlying50 rfl rfl Tryd.sizeOf3 rfl) rfl ?_   -- 26
    refine ow_do (does_store 0 rfl rfl rfl rfl Tryd.sizeOf3 (by show 1 < b.cells.length; rw [Cop.cells_len hb]; omega)) (fun _ _ => ?_)
    rw [show (Value.agg b.cells.toArray).cells.toList.set 1 (vInt ((wid v0 : Nat) : Int)) = (b.setW ((wid v0 : Nat) : Int)).cells from rfl]
    obtain ⟨b2, hb2e⟩ : ∃ z, z = b.setW ((wid v0 : Nat) : Int) := ⟨_, rfl⟩
    rw [← hb2e]
    have hb2 : b2.ok w := by rw [hb2e]; exact Cop.setW_ok hb (by omega)
    have hsb2 : b2.small := by rw [hb2e]; exact hsb
    have hkb2 : known b2 = true := by rw [hb2e]; exact hkb
    have hwb2 : b2.w = ((wid v0 : Nat) : Int) := by rw [hb2e]; rfl
    have hlb2 := opIn_len b2 hb2 hsb2
    refine ow_nil (into ?_)
    refine sw_seq ?_
    refine sw_region ?_
    refine ow_val (val_load_part 1 rfl rfl Tryd.isAgg50 Tryd.sizeOf50 (Cop.cells_len ha2) (show List.take 135 a2.cells = a2.cells from List.take_of_length_le (Nat.le_of_eq (Cop.cells_len ha2)))) rfl ?_   -- 28
    refine ow_call_row2 (E := 5) (size := 1) (k := (opIn a2).1.length) (xs := (opIn a2).1.map vU8) (x := vInt (((opIn a2).2 : Nat) : Int)) (callsTo Tryd.func26 rfl (by kernel_rfl) rfl) rfl (fun w hm => input_any w a2 (ha2.mem hm) hsa2) (fun a29 c29 e29 hr29 => ?_)   -- 29
    refine ow_val (val_move rfl) rfl ?_   -- 27
    refine ow_val (val_extract rfl rfl) rfl ?_   -- 30
    refine ow_val (val_extract rfl rfl) rfl ?_   -- 31
    refine ow_val (val_assign rfl) rfl ?_   -- 7
    refine ow_val (val_assign rfl) rfl ?_   -- 8
    refine ow_nil (into ?_)
    refine sw_seq ?_
    refine sw_region ?_
    refine ow_val (val_load_part 1 rfl rfl Tryd.isAgg50 Tryd.sizeOf50 (Cop.cells_len hb2) (show List.take 135 b2.cells = b2.cells from List.take_of_length_le (Nat.le_of_eq (Cop.cells_len hb2)))) rfl ?_   -- 33
    refine ow_call_row2 (E := 5) (size := 1) (k := (opIn b2).1.length) (xs := (opIn b2).1.map vU8) (x := vInt (((opIn b2).2 : Nat) : Int)) (callsTo Tryd.func26 rfl (by kernel_rfl) rfl) rfl (fun w hm => input_any w b2 (hb2.mem hm) hsb2) (fun a34 c34 e34 hr34 => ?_)   -- 34
    refine ow_val (val_move rfl) rfl ?_   -- 32
    refine ow_val (val_extract rfl rfl) rfl ?_   -- 35
    refine ow_val (val_extract rfl rfl) rfl ?_   -- 36
    refine ow_val (val_assign rfl) rfl ?_   -- 9
    refine ow_val (val_assign rfl) rfl ?_   -- 10
    refine ow_nil (into ?_)
    refine sw_seq ?_
    refine sw_seq ?_
    rcases two_cases ((opIn a2).2 = 0) ((opIn b2).2 = 0) with ⟨hea, heb⟩ | ⟨hea, heb⟩ | hea
    · -- case
      have hone := one_thing ha2 hb2 hka2 hkb2 (hwa2.trans hwb2.symm) hea heb
      have hhd := opIn_head a2 hea
      refine sw_region ?_
      refine ow_val (val_move rfl) rfl ?_   -- 37
      refine ow_val ((val_neq_int rfl rfl).to (v' := .bool false) (congrArg Value.bool (decide_eq_false (fun h => h (by omega))))) rfl ?_   -- 38
      refine ow_val (val_move rfl) rfl ?_   -- 39
      refine ow_guard_yes rfl rfl rfl ?_
      refine ow_val (val_move rfl) rfl ?_   -- 40
      refine ow_guard_yes rfl rfl rfl ?_
      refine ow_val ((val_neq_int rfl rfl).to (v' := .bool false) (congrArg Value.bool (decide_eq_false (fun h => h (by omega))))) rfl ?_   -- 41
      refine ow_val (val_pick_false rfl rfl) rfl ?_   -- 42
      refine ow_nil (into ?_)
      refine sw_false rfl rfl ?_
      refine sw_skip (into ?_)
      refine sw_seq ?_
      refine sw_seq ?_
      refine sw_region ?_
      refine ow_val (val_move rfl) rfl ?_   -- 43
      refine ow_val (val_len rfl Tryd.underlying25) rfl ?_   -- 44
      refine ow_val ((val_eql_int rfl rfl).to (congrArg Value.bool (decide_eq_false (by omega)))) rfl ?_   -- 45
      refine ow_val (val_move rfl) rfl ?_   -- 46
      refine ow_guard_yes rfl rfl rfl ?_
      refine ow_val (val_move rfl) rfl ?_   -- 47
      refine ow_guard_yes rfl rfl rfl ?_
      refine ow_val (val_len rfl Tryd.underlying25) rfl ?_   -- 48
      by_cases hl1 : (opIn a2).1.length = 1
      · -- yes
        refine ow_guard_yes rfl rfl rfl ?_
        refine ow_val ((val_eql_int rfl rfl).to (congrArg Value.bool (decide_eq_true (by omega)))) rfl ?_   -- 49
        refine ow_guard_yes rfl rfl rfl ?_
        refine ow_val (val_move rfl) rfl ?_   -- 50
        refine ow_guard_yes rfl rfl rfl ?_
        refine ow_val (val_move rfl) rfl ?_   -- 51
        refine ow_guard_yes rfl rfl rfl ?_
        obtain ⟨bp, rfl⟩ := hr29.addr0 hhd.1
        refine ow_val (val_indexAddr_slice 0 0 rfl rfl Tryd.underlying25 Tryd.sizeOf5 (by omega) (by omega) (by omega)) rfl ?_   -- 52
        refine ow_guard_yes rfl rfl rfl ?_
        refine ow_val (val_load (v := vU8 ((opIn a2).1.getD 0 default)) rfl Tryd.isAgg5 (fun w' hm => cell_of_rd (hr29.rdAt hm (i := 1) rfl) (get_map vU8 (opIn a2).1 0 hhd.1) rfl)) rfl ?_   -- 53
        refine ow_guard_yes rfl rfl rfl ?_
        refine ow_val ((val_eql_u8 rfl rfl).to (congrArg Value.bool (decide_eq_false (hhd.2)))) rfl ?_   -- 54
        refine ow_guard_yes rfl rfl rfl ?_
        refine ow_val (val_pick_true rfl rfl) rfl ?_   -- 55
        refine ow_val (val_pick_false rfl rfl) rfl ?_   -- 56
        refine ow_nil (into ?_)
        refine sw_false rfl rfl ?_
        refine sw_skip (into ?_)
        refine sw_seq ?_
        by_cases hkk : a2.kind = b2.kind
        · -- case
          refine sw_region_lex _ [] [(0, 0), (1, 0), (3, 0), (5, 0), (4, 1), (6, 1), (7, 0), (2, 2), (8, 0), (9, 1), (10, 1), (11, 2), (12, 0), (13, 0), (14, 0)] (by kernel_rfl) (by kernel_rfl) (fun _ _ _ h => h) (fun _ h => h) (fun _ h => h.drawn _) ?_
          refine lw_pure rfl (val_move rfl) rfl ?_   -- 57
          refine lw_pure rfl (val_move rfl) rfl ?_   -- 58
          refine lw_pure rfl (val_fieldAddr (m := 0) (e := 0) rfl Tryd.underlying50 rfl rfl Tryd.sizeOf3 rfl) rfl ?_   -- 60
          refine lw_pure rfl (val_fieldAddr (m := 0) (e := 0) rfl Tryd.underlying50 rfl rfl Tryd.sizeOf3 rfl) rfl ?_   -- 62
          refine lw_held rfl (val_load_at 3 rfl rfl Tryd.isAgg3 rfl) rfl ?_   -- 61
          refine lw_held rfl (val_load_at 2 rfl rfl Tryd.isAgg3 rfl) rfl ?_   -- 63
          refine lw_pure rfl ((val_eql_int rfl rfl).to (congrArg Value.bool (decide_eq_true (hkk)))) rfl ?_   -- 64
          refine lw_call_pure rfl (callsTo Tryd.func28 rfl (by kernel_rfl) rfl) rfl (fun w hm => rsame_any w (some ⟨bp, 0, none⟩) ((opIn a2).1.length) _ ((opIn a2).1) rfl (hr29.rdAt hm (i := 1) rfl) a34 ((opIn b2).1.length) _ ((opIn b2).1) rfl (hr34.rdAt hm (i := 0) rfl) (by omega)) ?_   -- 59
          refine lw_pure rfl (val_move rfl) rfl ?_   -- 65
          refine lwg_held rfl (wg rfl rfl) (val_load_part 3 rfl rfl Tryd.isAgg50 Tryd.sizeOf50 (Cop.cells_len ha2) (show List.take 135 a2.cells = a2.cells from List.take_of_length_le (Nat.le_of_eq (Cop.cells_len ha2)))) rfl ?_   -- 66
          refine lwg_held rfl (wg rfl rfl) (val_load_part 2 rfl rfl Tryd.isAgg50 Tryd.sizeOf50 (Cop.cells_len hb2) (show List.take 135 b2.cells = b2.cells from List.take_of_length_le (Nat.le_of_eq (Cop.cells_len hb2)))) rfl ?_   -- 67
          refine lwg_call_pure rfl (wg rfl rfl) (callsTo Tryd.func29 rfl (by kernel_rfl) rfl) rfl (fun w hm => lsame_any w a2 (ha2.mem hm) b2 (hb2.mem hm)) ?_   -- 68
          refine lw_pure rfl (val_pick_true rfl rfl) rfl ?_   -- 69
          refine lw_pure rfl ((val_eql_bool Tryd.underlying4 rfl rfl).to (v' := .bool true) (by rw [hone.1 hkk]; simp)) rfl ?_   -- 70
          refine lw_pure rfl (val_assign rfl) rfl ?_   -- 6
          refine lw_nil (into ?_)
          exact sw_ret (fun w hm => ret_one _ rfl rfl ⟨rfl, hm.forgetAll⟩)
        · -- case
          refine sw_region_lex _ [] [(0, 0), (1, 0), (3, 0), (5, 0), (4, 1), (6, 1), (7, 0), (2, 2), (8, 0), (9, 0), (10, 0), (11, 0), (12, 0), (13, 0), (14, 0)] (by kernel_rfl) (by kernel_rfl) (fun _ _ _ h => h) (fun _ h => h) (fun _ h => h.drawn _) ?_
          refine lw_pure rfl (val_move rfl) rfl ?_   -- 57
          refine lw_pure rfl (val_move rfl) rfl ?_   -- 58
          refine lw_pure rfl (val_fieldAddr (m := 0) (e := 0) rfl Tryd.underlying50 rfl rfl Tryd.sizeOf3 rfl) rfl ?_   -- 60
          refine lw_pure rfl (val_fieldAddr (m := 0) (e := 0) rfl Tryd.underlying50 rfl rfl Tryd.sizeOf3 rfl) rfl ?_   -- 62
          refine lw_held rfl (val_load_at 3 rfl rfl Tryd.isAgg3 rfl) rfl ?_   -- 61
          refine lw_held rfl (val_load_at 2 rfl rfl Tryd.isAgg3 rfl) rfl ?_   -- 63
          refine lw_pure rfl ((val_eql_int rfl rfl).to (congrArg Value.bool (decide_eq_false (hkk)))) rfl ?_   -- 64
          refine lw_call_pure rfl (callsTo Tryd.func28 rfl (by kernel_rfl) rfl) rfl (fun w hm => rsame_any w (some ⟨bp, 0, none⟩) ((opIn a2).1.length) _ ((opIn a2).1) rfl (hr29.rdAt hm (i := 1) rfl) a34 ((opIn b2).1.length) _ ((opIn b2).1) rfl (hr34.rdAt hm (i := 0) rfl) (by omega)) ?_   -- 59
          refine lw_pure rfl (val_move rfl) rfl ?_   -- 65
          first | refine lwg_no rfl (ng1 rfl rfl) rfl ?_ | refine lwg_no rfl (ng2 rfl rfl) rfl ?_   -- 66
          first | refine lwg_no rfl (ng1 rfl rfl) rfl ?_ | refine lwg_no rfl (ng2 rfl rfl) rfl ?_   -- 67
          first | refine lwg_no rfl (ng1 rfl rfl) rfl ?_ | refine lwg_no rfl (ng2 rfl rfl) rfl ?_   -- 68
          refine lw_pure rfl (val_pick_false rfl rfl) rfl ?_   -- 69
          refine lw_pure rfl ((val_eql_bool Tryd.underlying4 rfl rfl).to (v' := .bool true) (by rw [hone.2 hkk]; rfl)) rfl ?_   -- 70
          refine lw_pure rfl (val_assign rfl) rfl ?_   -- 6
          refine lw_nil (into ?_)
          exact sw_ret (fun w hm => ret_one _ rfl rfl ⟨rfl, hm.forgetAll⟩)
      · -- no
        refine ow_guard_yes rfl rfl rfl ?_
        refine ow_val ((val_eql_int rfl rfl).to (congrArg Value.bool (decide_eq_false (by omega)))) rfl ?_   -- 49
        refine ow_guard_yes rfl rfl rfl ?_
        refine ow_val (val_move rfl) rfl ?_   -- 50
        first | refine ow_guard_no rfl rfl rfl rfl rfl ?_ | refine ow_guard_none rfl rfl rfl rfl rfl ?_
        first | refine ow_guard_no rfl rfl rfl rfl rfl ?_ | refine ow_guard_none rfl rfl rfl rfl rfl ?_
        first | refine ow_guard_no rfl rfl rfl rfl rfl ?_ | refine ow_guard_none rfl rfl rfl rfl rfl ?_
        first | refine ow_guard_no rfl rfl rfl rfl rfl ?_ | refine ow_guard_none rfl rfl rfl rfl rfl ?_
        refine ow_guard_yes rfl rfl rfl ?_
        refine ow_val (val_pick_false rfl rfl) rfl ?_   -- 55
        refine ow_val (val_pick_false rfl rfl) rfl ?_   -- 56
        refine ow_nil (into ?_)
        refine sw_false rfl rfl ?_
        refine sw_skip (into ?_)
        refine sw_seq ?_
        by_cases hkk : a2.kind = b2.kind
        · -- case
          refine sw_region_lex _ [] [(0, 0), (1, 0), (3, 0), (5, 0), (4, 1), (6, 1), (7, 0), (2, 2), (8, 0), (9, 1), (10, 1), (11, 2), (12, 0), (13, 0), (14, 0)] (by kernel_rfl) (by kernel_rfl) (fun _ _ _ h => h) (fun _ h => h) (fun _ h => h.drawn _) ?_
          refine lw_pure rfl (val_move rfl) rfl ?_   -- 57
          refine lw_pure rfl (val_move rfl) rfl ?_   -- 58
          refine lw_pure rfl (val_fieldAddr (m := 0) (e := 0) rfl Tryd.underlying50 rfl rfl Tryd.sizeOf3 rfl) rfl ?_   -- 60
          refine lw_pure rfl (val_fieldAddr (m := 0) (e := 0) rfl Tryd.underlying50 rfl rfl Tryd.sizeOf3 rfl) rfl ?_   -- 62
          refine lw_held rfl (val_load_at 3 rfl rfl Tryd.isAgg3 rfl) rfl ?_   -- 61
          refine lw_held rfl (val_load_at 2 rfl rfl Tryd.isAgg3 rfl) rfl ?_   -- 63
          refine lw_pure rfl ((val_eql_int rfl rfl).to (congrArg Value.bool (decide_eq_true (hkk)))) rfl ?_   -- 64
          refine lw_call_pure rfl (callsTo Tryd.func28 rfl (by kernel_rfl) rfl) rfl (fun w hm => rsame_any w a29 ((opIn a2).1.length) _ ((opIn a2).1) rfl (hr29.rdAt hm (i := 1) rfl) a34 ((opIn b2).1.length) _ ((opIn b2).1) rfl (hr34.rdAt hm (i := 0) rfl) (by omega)) ?_   -- 59
          refine lw_pure rfl (val_move rfl) rfl ?_   -- 65
          refine lwg_held rfl (wg rfl rfl) (val_load_part 3 rfl rfl Tryd.isAgg50 Tryd.sizeOf50 (Cop.cells_len ha2) (show List.take 135 a2.cells = a2.cells from List.take_of_length_le (Nat.le_of_eq (Cop.cells_len ha2)))) rfl ?_   -- 66
          refine lwg_held rfl (wg rfl rfl) (val_load_part 2 rfl rfl Tryd.isAgg50 Tryd.sizeOf50 (Cop.cells_len hb2) (show List.take 135 b2.cells = b2.cells from List.take_of_length_le (Nat.le_of_eq (Cop.cells_len hb2)))) rfl ?_   -- 67
          refine lwg_call_pure rfl (wg rfl rfl) (callsTo Tryd.func29 rfl (by kernel_rfl) rfl) rfl (fun w hm => lsame_any w a2 (ha2.mem hm) b2 (hb2.mem hm)) ?_   -- 68
          refine lw_pure rfl (val_pick_true rfl rfl) rfl ?_   -- 69
          refine lw_pure rfl ((val_eql_bool Tryd.underlying4 rfl rfl).to (v' := .bool true) (by rw [hone.1 hkk]; simp)) rfl ?_   -- 70
          refine lw_pure rfl (val_assign rfl) rfl ?_   -- 6
          refine lw_nil (into ?_)
          exact sw_ret (fun w hm => ret_one _ rfl rfl ⟨rfl, hm.forgetAll⟩)
        · -- case
          refine sw_region_lex _ [] [(0, 0), (1, 0), (3, 0), (5, 0), (4, 1), (6, 1), (7, 0), (2, 2), (8, 0), (9, 0), (10, 0), (11, 0), (12, 0), (13, 0), (14, 0)] (by kernel_rfl) (by kernel_rfl) (fun _ _ _ h => h) (fun _ h => h) (fun _ h => h.drawn _) ?_
          refine lw_pure rfl (val_move rfl) rfl ?_   -- 57
          refine lw_pure rfl (val_move rfl) rfl ?_   -- 58
          refine lw_pure rfl (val_fieldAddr (m := 0) (e := 0) rfl Tryd.underlying50 rfl rfl Tryd.sizeOf3 rfl) rfl ?_   -- 60
          refine lw_pure rfl (val_fieldAddr (m := 0) (e := 0) rfl Tryd.underlying50 rfl rfl Tryd.sizeOf3 rfl) rfl ?_   -- 62
          refine lw_held rfl (val_load_at 3 rfl rfl Tryd.isAgg3 rfl) rfl ?_   -- 61
          refine lw_held rfl (val_load_at 2 rfl rfl Tryd.isAgg3 rfl) rfl ?_   -- 63
          refine lw_pure rfl ((val_eql_int rfl rfl).to (congrArg Value.bool (decide_eq_false (hkk)))) rfl ?_   -- 64
          refine lw_call_pure rfl (callsTo Tryd.func28 rfl (by kernel_rfl) rfl) rfl (fun w hm => rsame_any w a29 ((opIn a2).1.length) _ ((opIn a2).1) rfl (hr29.rdAt hm (i := 1) rfl) a34 ((opIn b2).1.length) _ ((opIn b2).1) rfl (hr34.rdAt hm (i := 0) rfl) (by omega)) ?_   -- 59
          refine lw_pure rfl (val_move rfl) rfl ?_   -- 65
          first | refine lwg_no rfl (ng1 rfl rfl) rfl ?_ | refine lwg_no rfl (ng2 rfl rfl) rfl ?_   -- 66
          first | refine lwg_no rfl (ng1 rfl rfl) rfl ?_ | refine lwg_no rfl (ng2 rfl rfl) rfl ?_   -- 67
          first | refine lwg_no rfl (ng1 rfl rfl) rfl ?_ | refine lwg_no rfl (ng2 rfl rfl) rfl ?_   -- 68
          refine lw_pure rfl (val_pick_false rfl rfl) rfl ?_   -- 69
          refine lw_pure rfl ((val_eql_bool Tryd.underlying4 rfl rfl).to (v' := .bool true) (by rw [hone.2 hkk]; rfl)) rfl ?_   -- 70
          refine lw_pure rfl (val_assign rfl) rfl ?_   -- 6
          refine lw_nil (into ?_)
          exact sw_ret (fun w hm => ret_one _ rfl rfl ⟨rfl, hm.forgetAll⟩)
    · -- case
      refine sw_region ?_
      refine ow_val (val_move rfl) rfl ?_   -- 37
      refine ow_val ((val_neq_int rfl rfl).to (v' := .bool false) (congrArg Value.bool (decide_eq_false (fun h => h (by omega))))) rfl ?_   -- 38
      refine ow_val (val_move rfl) rfl ?_   -- 39
      refine ow_guard_yes rfl rfl rfl ?_
      refine ow_val (val_move rfl) rfl ?_   -- 40
      refine ow_guard_yes rfl rfl rfl ?_
      refine ow_val ((val_neq_int rfl rfl).to (v' := .bool true) (congrArg Value.bool (decide_eq_true (by omega)))) rfl ?_   -- 41
      refine ow_val (val_pick_false rfl rfl) rfl ?_   -- 42
      refine ow_nil (into ?_)
      refine sw_true rfl rfl ?_
      refine sw_seq ?_
      refine sw_region ?_
      refine ow_val (val_assign rfl) rfl ?_   -- 6
      refine ow_nil (into ?_)
      refine sw_ret (fun w hm => ?_)
      try dsimp only [thenP, blockP, Nat.beq, cond]
      exact ret_one _ rfl rfl ⟨rfl, hm.forgetAll⟩
    · -- case
      refine sw_region ?_
      refine ow_val (val_move rfl) rfl ?_   -- 37
      refine ow_val ((val_neq_int rfl rfl).to (v' := .bool true) (congrArg Value.bool (decide_eq_true (by omega)))) rfl ?_   -- 38
      refine ow_val (val_move rfl) rfl ?_   -- 39
      first | refine ow_guard_no rfl rfl rfl rfl rfl ?_ | refine ow_guard_none rfl rfl rfl rfl rfl ?_
      first | refine ow_guard_no rfl rfl rfl rfl rfl ?_ | refine ow_guard_none rfl rfl rfl rfl rfl ?_
      refine ow_val (val_pick_true rfl rfl) rfl ?_   -- 42
      refine ow_nil (into ?_)
      refine sw_true rfl rfl ?_
      refine sw_seq ?_
      refine sw_region ?_
      refine ow_val (val_assign rfl) rfl ?_   -- 6
      refine ow_nil (into ?_)
      refine sw_ret (fun w hm => ?_)
      try dsimp only [thenP, blockP, Nat.beq, cond]
      exact ret_one _ rfl rfl ⟨rfl, hm.forgetAll⟩
  · -- case
    rw [Bool.not_eq_true] at hkb
    refine sw_region ?_
    refine ow_val (val_load_part 1 rfl rfl Tryd.isAgg50 Tryd.sizeOf50 (Cop.cells_len ha) (show List.take 135 a.cells = a.cells from List.take_of_length_le (Nat.le_of_eq (Cop.cells_len ha)))) rfl ?_   -- 13
    refine ow_call_pure (v := .bool true) (callsTo Tryd.func25 rfl (by kernel_rfl) rfl) rfl (fun w hm => (by have h := known_any w a (ha.mem hm) hsa; rw [hka] at h; exact h)) ?_   -- 14
    refine ow_val (val_not rfl) rfl ?_   -- 15
    refine ow_val (val_move rfl) rfl ?_   -- 16
    refine ow_guard_yes rfl rfl rfl ?_
    refine ow_val (val_load_part 0 rfl rfl Tryd.isAgg50 Tryd.sizeOf50 (Cop.cells_len hb) (show List.take 135 b.cells = b.cells from List.take_of_length_le (Nat.le_of_eq (Cop.cells_len hb)))) rfl ?_   -- 17
    refine ow_guard_yes rfl rfl rfl ?_
    refine ow_call_pure (v := .bool false) (callsTo Tryd.func25 rfl (by kernel_rfl) rfl) rfl (fun w hm => (by have h := known_any w b (hb.mem hm) hsb; rw [hkb] at h; exact h)) ?_   -- 18
    refine ow_guard_yes rfl rfl rfl ?_
    refine ow_val (val_not rfl) rfl ?_   -- 19
    refine ow_val (val_pick_false rfl rfl) rfl ?_   -- 20
    refine ow_nil (into ?_)
    refine sw_true rfl rfl ?_
    refine sw_seq ?_
    refine sw_region ?_
    refine ow_val (val_assign rfl) rfl ?_   -- 6
    refine ow_nil (into ?_)
    refine sw_ret (fun w hm => ?_)
    try dsimp only [thenP, blockP, Nat.beq, cond]
    exact ret_one _ rfl rfl ⟨rfl, hm.forgetAll⟩
  · -- case
    rw [Bool.not_eq_true] at hka
    refine sw_region ?_
    refine ow_val (val_load_part 1 rfl rfl Tryd.isAgg50 Tryd.sizeOf50 (Cop.cells_len ha) (show List.take 135 a.cells = a.cells from List.take_of_length_le (Nat.le_of_eq (Cop.cells_len ha)))) rfl ?_   -- 13
    refine ow_call_pure (v := .bool false) (callsTo Tryd.func25 rfl (by kernel_rfl) rfl) rfl (fun w hm => (by have h := known_any w a (ha.mem hm) hsa; rw [hka] at h; exact h)) ?_   -- 14
    refine ow_val (val_not rfl) rfl ?_   -- 15
    refine ow_val (val_move rfl) rfl ?_   -- 16
    first | refine ow_guard_no rfl rfl rfl rfl rfl ?_ | refine ow_guard_none rfl rfl rfl rfl rfl ?_
    first | refine ow_guard_no rfl rfl rfl rfl rfl ?_ | refine ow_guard_none rfl rfl rfl rfl rfl ?_
    first | refine ow_guard_no rfl rfl rfl rfl rfl ?_ | refine ow_guard_none rfl rfl rfl rfl rfl ?_
    refine ow_val (val_pick_true rfl rfl) rfl ?_   -- 20
    refine ow_nil (into ?_)
    refine sw_true rfl rfl ?_
    refine sw_seq ?_
    refine sw_region ?_
    refine ow_val (val_assign rfl) rfl ?_   -- 6
    refine ow_nil (into ?_)
    refine sw_ret (fun w hm => ?_)
    try dsimp only [thenP, blockP, Nat.beq, cond]
    exact ret_one _ rfl rfl ⟨rfl, hm.forgetAll⟩
end Go.Proofs.YtpmnhmfahgchgaaDoor
