import Derived.Test.YtpmnhmfahgchgaaDoorDig11
import Derived.Test.YtpmnhmfahgchgaaDoorRowF
import Derived.Test.YtpmnhmfahgchgaaDoorProg
set_option linter.unusedVariables false
set_option linter.unusedSimpArgs false
namespace Go.Proofs.YtpmnhmfahgchgaaDoor
open Go.Sx Go.Ps
theorem marked_any (r i n m : Nat) (hi : i < 16777216) (hn : n < 1073741824) (hm' : m < 1073741824) (a : Option Addr) (c : Nat) (ag : Option Addr) (cg : Nat) (w : World) (hra : Rd w a ((ms r i n).map vU8)) (hrg : Rd w ag ((ms r i m).map vU8)) (hc : n ≤ c) (hcg : m ≤ cg) : Calls Tryd.prog 78 #[.slice a n c, .slice ag m cg, vInt (r : Int), vInt (i : Int)] w fun e w' => ∃ v, e = .returned v ∧ v = .bool true ∧ Mem w [] [] w' := by
  refine calls_of_sw (vs := [.slice a n c, .slice ag m cg, vInt (r : Int), vInt (i : Int)]) Tryd.func78 rfl Tryd.ntmps78 rfl (SW.begin ?_)
  refine sw_seq ?_
  refine sw_region ?_
  refine ow_val (val_assign rfl) rfl ?_   -- 8
  refine ow_nil (into ?_)
  refine sw_seq ?_
  refine sw_seq ?_
  refine sw_region ?_
  refine ow_val (val_move rfl) rfl ?_   -- 11
  refine ow_val (val_len rfl Tryd.underlying25) rfl ?_   -- 12
  refine ow_val (val_move rfl) rfl ?_   -- 13
  refine ow_nil (into ?_)
  refine sw_block ?_
  refine sw_loop (σ := Nat) (fun j => j ≤ n) (fun j => [(13, vInt (j : Int)), (12, vInt (n : Int)), (0, .slice a n c), (1, .slice ag m cg), (2, vInt (r : Int)), (3, vInt (i : Int))]) (fun _ => Mem w [] []) (fun j => n - j) 0 (by omega) ⟨rfl, rfl, rfl, rfl, rfl, rfl, trivial⟩ (fun w hm => hm) ?_
  intro j hj
  refine sw_seq ?_
  refine sw_region ?_
  refine ow_val (val_lss_int rfl rfl) rfl ?_   -- 14
  refine ow_nil (into ?_)
  refine sw_seq ?_
  refine sw_if rfl (fun h0 => ?_) (fun h0 => ?_)
  · -- then
    obtain ⟨ba, oa, rfl⟩ := hra.addr (by rw [List.length_map, ms_len]; omega)
    refine sw_skip (into ?_)
    refine sw_seq ?_
    refine sw_block ?_
    refine sw_seq ?_
    refine sw_region ?_
    refine ow_val (val_move rfl) rfl ?_   -- 15
    refine ow_val (val_assign rfl) rfl ?_   -- 9
    refine ow_nil (into ?_)
    refine sw_seq ?_
    refine sw_region_lex _ [] [(0, 0), (1, 0), (2, 0), (4, 0), (5, 0), (6, 0), (3, 1), (7, 2), (8, 0)] (by kernel_rfl) (by kernel_rfl) (fun _ _ _ h => h) (fun _ h => h) (fun _ h => h.drawn _) ?_
    refine lw_pure rfl (val_move rfl) rfl ?_   -- 16
    refine lw_pure rfl (val_move rfl) rfl ?_   -- 17
    refine lw_pure rfl (val_indexAddr_slice (j) (oa + j) rfl rfl Tryd.underlying25 Tryd.sizeOf5 (by omega) (by omega) (by omega)) rfl ?_   -- 18
    refine lw_pure rfl (val_move rfl) rfl ?_   -- 20
    refine lw_pure rfl (val_move rfl) rfl ?_   -- 21
    refine lw_pure rfl (val_move rfl) rfl ?_   -- 22
    refine lw_held rfl ((val_load rfl Tryd.isAgg5 (fun w' hm => Rd.get (p := (ms r i n)) (k := j) (hra.mem hm) (by rw [ms_len]; omega) (by omega))).to (v' := vU8 (mk r i j)) (by rw [ms_get (by omega)])) rfl ?_   -- 19
    refine lw_call_pure (v := vU8 (mk r i j)) rfl (callsTo Tryd.func76 rfl (by kernel_rfl) rfl) rfl (fun w hm => mark_any r i j (by omega) (by omega) w) ?_   -- 23
    refine lw_pure rfl ((val_neq_u8 rfl rfl).to (congrArg Value.bool (decide_eq_false ((fun h => h rfl))))) rfl ?_   -- 24
    refine lw_nil (into ?_)
    refine sw_false rfl rfl ?_
    refine sw_skip (into ?_)
    refine sw_region ?_
    refine ow_val (val_add_int ((j + 1 : Nat) : Int) rfl rfl (by omega) (by omega)) rfl ?_   -- 25
    refine ow_val (val_move rfl) rfl ?_   -- 13
    exact ow_nil (fun w hm => ⟨j + 1, by omega, by omega, ⟨rfl, rfl, rfl, rfl, rfl, rfl, trivial⟩, hm.forgetAll⟩)
  · -- else
    refine sw_exit (into ?_)
    refine sw_seq ?_
    refine sw_seq ?_
    refine sw_region ?_
    refine ow_val (val_move rfl) rfl ?_   -- 26
    refine ow_val (val_len rfl Tryd.underlying25) rfl ?_   -- 27
    refine ow_val (val_move rfl) rfl ?_   -- 28
    refine ow_nil (into ?_)
    refine sw_block ?_
    refine sw_loop (σ := Nat) (fun j => j ≤ m) (fun j => [(28, vInt (j : Int)), (27, vInt (m : Int)), (0, .slice a n c), (1, .slice ag m cg), (2, vInt (r : Int)), (3, vInt (i : Int))]) (fun _ => Mem w [] []) (fun j => m - j) 0 (by omega) ⟨rfl, rfl, rfl, rfl, rfl, rfl, trivial⟩ (fun w hm => hm) ?_
    intro j hj
    refine sw_seq ?_
    refine sw_region ?_
    refine ow_val (val_lss_int rfl rfl) rfl ?_   -- 29
    refine ow_nil (into ?_)
    refine sw_seq ?_
    refine sw_if rfl (fun h8 => ?_) (fun h8 => ?_)
    · -- then
      obtain ⟨bg, og, rfl⟩ := hrg.addr (by rw [List.length_map, ms_len]; omega)
      refine sw_skip (into ?_)
      refine sw_seq ?_
      refine sw_block ?_
      refine sw_seq ?_
      refine sw_region ?_
      refine ow_val (val_move rfl) rfl ?_   -- 30
      refine ow_val (val_assign rfl) rfl ?_   -- 10
      refine ow_nil (into ?_)
      refine sw_seq ?_
      refine sw_region_lex _ [] [(0, 0), (1, 0), (2, 0), (4, 0), (5, 0), (6, 0), (3, 1), (7, 2), (8, 0)] (by kernel_rfl) (by kernel_rfl) (fun _ _ _ h => h) (fun _ h => h) (fun _ h => h.drawn _) ?_
      refine lw_pure rfl (val_move rfl) rfl ?_   -- 31
      refine lw_pure rfl (val_move rfl) rfl ?_   -- 32
      refine lw_pure rfl (val_indexAddr_slice (j) (og + j) rfl rfl Tryd.underlying25 Tryd.sizeOf5 (by omega) (by omega) (by omega)) rfl ?_   -- 33
      refine lw_pure rfl (val_move rfl) rfl ?_   -- 35
      refine lw_pure rfl (val_move rfl) rfl ?_   -- 36
      refine lw_pure rfl (val_move rfl) rfl ?_   -- 37
      refine lw_held rfl ((val_load rfl Tryd.isAgg5 (fun w' hm => Rd.get (p := (ms r i m)) (k := j) (hrg.mem hm) (by rw [ms_len]; omega) (by omega))).to (v' := vU8 (mk r i j)) (by rw [ms_get (by omega)])) rfl ?_   -- 34
      refine lw_call_pure (v := vU8 (mk r i j)) rfl (callsTo Tryd.func76 rfl (by kernel_rfl) rfl) rfl (fun w hm => mark_any r i j (by omega) (by omega) w) ?_   -- 38
      refine lw_pure rfl ((val_neq_u8 rfl rfl).to (congrArg Value.bool (decide_eq_false ((fun h => h rfl))))) rfl ?_   -- 39
      refine lw_nil (into ?_)
      refine sw_false rfl rfl ?_
      refine sw_skip (into ?_)
      refine sw_region ?_
      refine ow_val (val_add_int ((j + 1 : Nat) : Int) rfl rfl (by omega) (by omega)) rfl ?_   -- 40
      refine ow_val (val_move rfl) rfl ?_   -- 28
      exact ow_nil (fun w hm => ⟨j + 1, by omega, by omega, ⟨rfl, rfl, rfl, rfl, rfl, rfl, trivial⟩, hm.forgetAll⟩)
    · -- else
      refine sw_exit (into ?_)
      refine sw_seq ?_
      refine sw_region ?_
      refine ow_val (val_assign rfl) rfl ?_   -- 8
      refine ow_nil (into ?_)
      exact sw_ret (fun w hm => ret_one _ rfl rfl ⟨rfl, hm.forgetAll⟩)

theorem grow_1 (r i k : Nat) (hi : i < 16777216) (hk : k < 1073741000) (a : Option Addr) (c : Nat) (e : Ent) (hrow : RowE (.slice a k c) 5 1 k ((ms r i k).map vU8) e) (w : World) (hm0 : Mem w (keys [e]) [e] w) : Calls Tryd.prog 77 #[.slice a k c, vInt (r : Int), vInt (i : Int), vInt ((1 : Nat) : Int)] w fun en w' => ∃ u, en = .returned u ∧ ∃ t : Option Addr × Nat × Ent × Ent, u = .slice t.1 (k + 24) t.2.1 ∧ GrE 5 1 a k c ((ms r i k).map vU8) ((mt r i k 24).map vU8) 24 t.1 t.2.1 t.2.2.1 t.2.2.2 ∧ Mem w (keys [e]) [t.2.2.1, t.2.2.2] w' := by
  obtain ⟨ti, hti, htz, htsz, htby⟩ := info_parts iu8'
  refine calls_of_sw (vs := [.slice a k c, vInt (r : Int), vInt (i : Int), vInt ((1 : Nat) : Int)]) Tryd.func77 rfl Tryd.ntmps77 rfl (SW.beginM hm0 ?_)
  refine sw_seq ?_
  refine sw_region ?_
  refine ow_val (val_assign rfl) rfl ?_   -- 8
  refine ow_nil (into ?_)
  refine sw_seq ?_
  refine sw_region ?_
  refine ow_val (val_move rfl) rfl ?_   -- 13
  refine ow_val (val_assign rfl) rfl ?_   -- 9
  refine ow_nil (into ?_)
  refine sw_seq ?_
  refine sw_seq ?_
  refine sw_region ?_
  refine ow_val (val_move rfl) rfl ?_   -- 14
  refine ow_val ((val_eql_int rfl rfl).to (v' := .bool true) (congrArg Value.bool (decide_eq_true rfl))) rfl ?_   -- 15
  refine ow_nil (into ?_)
  refine sw_true rfl rfl ?_
  refine sw_seq ?_
  refine sw_seq ?_
  refine sw_region ?_
  refine ow_val (val_assign rfl) rfl ?_   -- 10
  refine ow_nil (into ?_)
  refine sw_block ?_
  refine sw_loop (σ := Nat × Option Addr × Nat × Ent × Ent) (fun t => t.1 ≤ 24 ∧ GrE 5 1 a k c ((ms r i k).map vU8) ((mt r i k t.1).map vU8) t.1 t.2.1 t.2.2.1 t.2.2.2.1 t.2.2.2.2) (fun t => [(10, vInt (t.1 : Int)), (9, .slice t.2.1 (k + t.1) t.2.2.1), (0, .slice a k c), (1, vInt (r : Int)), (2, vInt (i : Int))]) (fun t => Mem w (keys [e]) [t.2.2.2.1, t.2.2.2.2]) (fun t => 24 - t.1) (0, a, c, e, none) ⟨Nat.zero_le _, GrE.start hrow⟩ ⟨rfl, rfl, rfl, rfl, rfl, trivial⟩ (fun w hm => (hm.place).perm (.swap _ _ _)) ?_
  rintro ⟨j, ag, cg, er, eg⟩ ⟨hj, hgr⟩
  simp only at hj hgr ⊢
  refine sw_seq ?_
  refine sw_seq ?_
  refine sw_region ?_
  refine ow_val (val_move rfl) rfl ?_   -- 16
  refine ow_val (val_lss_int rfl rfl) rfl ?_   -- 17
  refine ow_nil (into ?_)
  refine sw_if rfl (fun h4 => ?_) (fun h4 => ?_)
  · -- then
    refine sw_skip (into ?_)
    refine sw_seq ?_
    refine sw_block ?_
    refine sw_region ?_
    refine ow_val (val_move rfl) rfl ?_   -- 20
    refine ow_val (val_move rfl) rfl ?_   -- 21
    refine ow_val (val_move rfl) rfl ?_   -- 22
    refine ow_val (val_move rfl) rfl ?_   -- 23
    refine ow_val (val_len rfl Tryd.underlying25) rfl ?_   -- 24
    refine ow_val (val_move rfl) rfl ?_   -- 25
    refine ow_val (val_add_int ((k + j : Nat) : Int) rfl rfl (by omega) (by omega)) rfl ?_   -- 26
    refine ow_call_pure (v := vU8 (mk r i (k + j))) (callsTo Tryd.func76 rfl (by kernel_rfl) rfl) rfl (fun w hm => mark_any r i (k + j) (by omega) (by omega) w) ?_   -- 27
    refine ow_make (acts_buildSlice (cs := ([(mk r i (k + j))] : List UInt8).map vU8) Tryd.underlying25 Tryd.sizeOf5 Tryd.zeroValue5 rfl rfl (by kernel_rfl)) rfl (fun b28 hb28 => ?_)   -- 28
    refine ow_grow (acts_grow (bytes := 1) 1 2 rfl rfl rfl rfl (by decide) rfl hgr (by rw [List.length_map, ms_len, Nat.mul_one]) Tryd.underlying25 hti htz htsz htby rfl (by decide) (by decide) (fun w hm => Rd.blk (hm.at (i := 0) rfl)) rfl (one_u8s [mk r i (k + j)]) (by omega) (by omega)) rfl (fun ag9 cg9 er9 eg9 hgr9 => ?_)   -- 29
    refine ow_val (val_assign rfl) rfl ?_   -- 9
    refine ow_nil (into ?_)
    refine sw_region ?_
    refine ow_val (val_move rfl) rfl ?_   -- 18
    refine ow_val (val_add_int ((j + 1 : Nat) : Int) rfl rfl (by omega) (by omega)) rfl ?_   -- 19
    refine ow_val (val_assign rfl) rfl ?_   -- 10
    exact ow_nil (fun w hm => ⟨(j + 1, ag9, cg9, er9, eg9), ⟨by dsimp only; omega, by dsimp only; rw [mt_succ, List.map_append]; exact hgr9⟩, by dsimp only; omega, ⟨rfl, rfl, rfl, rfl, rfl, trivial⟩, hm.only (.cons _ (.cons_cons _ (.cons_cons _ (List.nil_sublist _))))⟩)
  · -- else
    obtain rfl : j = 24 := by omega
    refine sw_exit (into ?_)
    refine sw_seq ?_
    refine sw_region ?_
    refine ow_val (val_move rfl) rfl ?_   -- 30
    refine ow_val (val_assign rfl) rfl ?_   -- 8
    refine ow_nil (into ?_)
    refine sw_ret (fun w hm => ?_)
    try dsimp only [thenP, blockP, Nat.beq, cond]
    exact ret_one _ rfl rfl ⟨(ag, cg, er, eg), rfl, hgr, hm⟩

theorem grow_s (s : Nat) (hs : 2 ≤ s) (hs2 : s ≤ 90) (r i k : Nat) (hi : i < 16777216) (hk : k < 1073741000) (a : Option Addr) (c : Nat) (e : Ent) (hrow : RowE (.slice a k c) 5 1 k ((ms r i k).map vU8) e) (w : World) (hm0 : Mem w (keys [e]) [e] w) : Calls Tryd.prog 77 #[.slice a k c, vInt (r : Int), vInt (i : Int), vInt (s : Int)] w fun en w' => ∃ u, en = .returned u ∧ ∃ t : Option Addr × Nat × Ent × Ent, u = .slice t.1 (k + s) t.2.1 ∧ GrE 5 1 a k c ((ms r i k).map vU8) ((mt r i k s).map vU8) s t.1 t.2.1 t.2.2.1 t.2.2.2 ∧ Mem w (keys [e]) [t.2.2.1, t.2.2.2] w' := by
  obtain ⟨ti, hti, htz, htsz, htby⟩ := info_parts iu8'
  refine calls_of_sw (vs := [.slice a k c, vInt (r : Int), vInt (i : Int), vInt (s : Int)]) Tryd.func77 rfl Tryd.ntmps77 rfl (SW.beginM hm0 ?_)
  refine sw_seq ?_
  refine sw_region ?_
  refine ow_val (val_assign rfl) rfl ?_   -- 8
  refine ow_nil (into ?_)
  refine sw_seq ?_
  refine sw_region ?_
  refine ow_val (val_move rfl) rfl ?_   -- 13
  refine ow_val (val_assign rfl) rfl ?_   -- 9
  refine ow_nil (into ?_)
  refine sw_seq ?_
  refine sw_seq ?_
  refine sw_region ?_
  refine ow_val (val_move rfl) rfl ?_   -- 14
  refine ow_val ((val_eql_int rfl rfl).to (congrArg Value.bool (decide_eq_false (by omega)))) rfl ?_   -- 15
  refine ow_nil (into ?_)
  refine sw_false rfl rfl ?_
  refine sw_skip (into ?_)
  refine sw_seq ?_
  refine sw_region ?_
  refine ow_val (val_assign rfl) rfl ?_   -- 11
  refine ow_nil (into ?_)
  refine sw_seq ?_
  refine sw_seq ?_
  refine sw_region ?_
  refine ow_val (val_assign rfl) rfl ?_   -- 12
  refine ow_nil (into ?_)
  refine sw_block ?_
  refine sw_loop (σ := Nat × Option Addr × Nat × Ent) (fun t => t.1 ≤ s ∧ RowE (.slice t.2.1 t.1 t.2.2.1) 5 1 t.1 ((mt r i k t.1).map vU8) t.2.2.2) (fun t => [(12, vInt (t.1 : Int)), (11, .slice t.2.1 t.1 t.2.2.1), (9, .slice a k c), (0, .slice a k c), (1, vInt (r : Int)), (2, vInt (i : Int)), (3, vInt (s : Int))]) (fun t => Mem w (keys [e]) [t.2.2.2, e]) (fun t => s - t.1) (0, none, 0, none) ⟨Nat.zero_le _, RowE.nil _ _⟩ ⟨rfl, rfl, rfl, rfl, rfl, rfl, rfl, trivial⟩ (fun w hm => hm.place) ?_
  rintro ⟨j, am, cm, em⟩ ⟨hj, hrm⟩
  simp only at hj hrm ⊢
  refine sw_seq ?_
  refine sw_seq ?_
  refine sw_region ?_
  refine ow_val (val_move rfl) rfl ?_   -- 31
  refine ow_val (val_move rfl) rfl ?_   -- 32
  refine ow_val (val_lss_int rfl rfl) rfl ?_   -- 33
  refine ow_nil (into ?_)
  refine sw_if rfl (fun h10 => ?_) (fun h10 => ?_)
  · -- then
    refine sw_skip (into ?_)
    refine sw_seq ?_
    refine sw_block ?_
    refine sw_region ?_
    refine ow_val (val_move rfl) rfl ?_   -- 36
    refine ow_val (val_move rfl) rfl ?_   -- 37
    refine ow_val (val_move rfl) rfl ?_   -- 38
    refine ow_val (val_move rfl) rfl ?_   -- 39
    refine ow_val (val_len rfl Tryd.underlying25) rfl ?_   -- 40
    refine ow_val (val_move rfl) rfl ?_   -- 41
    refine ow_val (val_add_int ((k + j : Nat) : Int) rfl rfl (by omega) (by omega)) rfl ?_   -- 42
    refine ow_call_pure (v := vU8 (mk r i (k + j))) (callsTo Tryd.func76 rfl (by kernel_rfl) rfl) rfl (fun w hm => mark_any r i (k + j) (by omega) (by omega) w) ?_   -- 43
    refine ow_make (acts_buildSlice (cs := ([(mk r i (k + j))] : List UInt8).map vU8) Tryd.underlying25 Tryd.sizeOf5 Tryd.zeroValue5 rfl rfl (by kernel_rfl)) rfl (fun b44 hb44 => ?_)   -- 44
    refine ow_append' (k := j + 1) (acts_append (size := 1) (bytes := 1) 1 rfl rfl rfl hrm rfl Tryd.underlying25 hti htz htsz htby rfl (by decide) (fun w hm => Rd.blk (hm.at (i := 0) rfl)) rfl (one_u8s [mk r i (k + j)]) (by omega) (by omega)) rfl (fun a45 c45 e45 hr45 => ?_)   -- 45
    refine ow_val (val_assign rfl) rfl ?_   -- 11
    refine ow_nil (into ?_)
    refine sw_region ?_
    refine ow_val (val_move rfl) rfl ?_   -- 34
    refine ow_val (val_add_int ((j + 1 : Nat) : Int) rfl rfl (by omega) (by omega)) rfl ?_   -- 35
    refine ow_val (val_assign rfl) rfl ?_   -- 12
    exact ow_nil (fun w hm => ⟨(j + 1, a45, c45, e45), ⟨by dsimp only; omega, by dsimp only; rw [mt_succ, List.map_append]; exact hr45⟩, by dsimp only; omega, ⟨rfl, rfl, rfl, rfl, rfl, rfl, rfl, trivial⟩, hm.only (.cons _ (.cons_cons _ (.cons_cons _ (List.nil_sublist _))))⟩)
  · -- else
    obtain rfl : s = j := by omega
    obtain ⟨bm, rfl⟩ := hrm.addr0 (by omega)
    obtain ⟨restm, hem⟩ : ∃ rest, em = some (bm, blk ((mt r i k s).map vU8 ++ rest) 5) := by
      obtain ⟨_, ⟨h, _⟩ | ⟨b, cap, rest, hv, _, _, _, he⟩⟩ := hrm
      · simp only [Value.slice.injEq] at h; exact absurd h.1 (by simp)
      · simp only [Value.slice.injEq, Option.some.injEq, Addr.mk.injEq] at hv; exact ⟨rest, by rw [he, ← hv.1.1]⟩
    refine sw_exit (into ?_)
    refine sw_seq ?_
    refine sw_region ?_
    refine ow_val (val_move rfl) rfl ?_   -- 46
    refine ow_val (val_move rfl) rfl ?_   -- 47
    refine ow_mem (fun w hm => (hm.place)) ?_
    refine ow_grow (j := 0 + s) (acts_grow (bytes := 1) 2 0 rfl rfl rfl rfl (by decide) rfl (GrE.start hrow) (by rw [List.length_map, ms_len, Nat.mul_one]) Tryd.underlying25 hti htz htsz htby rfl (by decide) (by omega) (fun w hm => Rd.own (xs := (mt r i k s).map vU8) hm (i := 1) hem (by rw [List.drop_zero, List.take_left' (by rw [List.length_map])])) (by rw [List.length_map, mt_len, Nat.mul_one]) (one_u8s _) (by omega) (by omega)) rfl (fun ag9 cg9 er9 eg9 hgr9 => ?_)   -- 48
    rw [Nat.zero_add, List.nil_append] at hgr9
    refine ow_val (val_assign rfl) rfl ?_   -- 8
    refine ow_nil (into ?_)
    exact sw_ret (fun w hm => ret_one _ rfl rfl ⟨(ag9, cg9, er9, eg9), by simp, hgr9, (hm.only (.cons_cons _ (.cons _ (.cons_cons _ (List.nil_sublist _))))).perm (.swap _ _ _)⟩)

theorem grow_any (s : Nat) (hs : 1 ≤ s ∧ s ≤ 90) (r i k : Nat) (hi : i < 16777216) (hk : k < 1073741000) (a : Option Addr) (c : Nat) (e : Ent) (hrow : RowE (.slice a k c) 5 1 k ((ms r i k).map vU8) e) (w : World) (hm0 : Mem w (keys [e]) [e] w) : Calls Tryd.prog 77 #[.slice a k c, vInt (r : Int), vInt (i : Int), vInt (s : Int)] w fun en w' => ∃ u, en = .returned u ∧ ∃ t : Option Addr × Nat × Ent × Ent, u = .slice t.1 (k + (gn s)) t.2.1 ∧ GrE 5 1 a k c ((ms r i k).map vU8) ((mt r i k (gn s)).map vU8) (gn s) t.1 t.2.1 t.2.2.1 t.2.2.2 ∧ Mem w (keys [e]) [t.2.2.1, t.2.2.2] w' := by
  by_cases h1 : s = 1
  · subst h1; exact grow_1 r i k hi hk a c e hrow w hm0
  · rw [show gn s = s from if_neg h1]; exact grow_s s (by omega) (by omega) r i k hi hk a c e hrow w hm0
end Go.Proofs.YtpmnhmfahgchgaaDoor
