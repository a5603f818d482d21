import Derived.Test.YtpmnhmfahgchgaaDoorDig7
import Derived.Test.YtpmnhmfahgchgaaDoorRowB
import Derived.Test.YtpmnhmfahgchgaaDoorProg
set_option linter.unusedVariables false
set_option linter.unusedSimpArgs false
namespace Go.Proofs.YtpmnhmfahgchgaaDoor
open Go.Sx Go.Ps
theorem behind_any (j : Nat) (hj : j < 1000) (w : World) : Calls Tryd.prog 102 #[vInt (j : Int)] w fun e w' => ∃ v, e = .returned v ∧ v = vU8 (bh j) ∧ Mem w [] [] w' := by
  have hjj : j * j ≤ 999 * 999 := Nat.mul_le_mul (by omega) (by omega)
  obtain ⟨q, hq⟩ : ∃ q, j * j = q := ⟨_, rfl⟩
  rw [hq] at hjj
  refine calls_of_sw (vs := [vInt (j : Int)]) Tryd.func102 rfl Tryd.ntmps102 rfl (SW.begin ?_)
  refine sw_seq ?_
  refine sw_region ?_
  refine ow_val (val_assign rfl) rfl ?_   -- 2
  refine ow_nil (into ?_)
  refine sw_seq ?_
  refine sw_region ?_
  refine ow_val (val_move rfl) rfl ?_   -- 3
  refine ow_val (val_move rfl) rfl ?_   -- 4
  refine ow_val ((val_mul_int ((j * j : Nat) : Int) rfl rfl (Int.natCast_mul j j) (by omega)).to (v' := vInt (q : Int)) (by rw [hq])) rfl ?_   -- 5
  refine ow_val (val_mul_int ((q * 3 : Nat) : Int) rfl rfl (by omega) (by omega)) rfl ?_   -- 6
  refine ow_val (val_move rfl) rfl ?_   -- 7
  refine ow_val (val_mul_int ((j * 7 : Nat) : Int) rfl rfl (by omega) (by omega)) rfl ?_   -- 8
  refine ow_val (val_add_int ((q * 3 + j * 7 : Nat) : Int) rfl rfl (by omega) (by omega)) rfl ?_   -- 9
  refine ow_val (val_add_int ((q * 3 + j * 7 + 91 : Nat) : Int) rfl rfl (by omega) (by omega)) rfl ?_   -- 10
  refine ow_val (val_conv_n_u8 (q * 3 + j * 7 + 91) Tryd.underlying3 Tryd.underlying5 rfl rfl) rfl ?_   -- 11
  refine ow_val (val_assign rfl) rfl ?_   -- 2
  refine ow_nil (into ?_)
  exact sw_ret (fun w hm => ret_one _ rfl rfl ⟨congrArg vU8 (by rw [bh, hq] <;> rfl), hm⟩)

theorem mark_0 (r i j : Nat) (hi : i < 16777216) (hj : j < 1073741824) (hr : r = 0) (w : World) : Calls Tryd.prog 76 #[vInt (r : Int), vInt (i : Int), vInt (j : Int)] w fun e w' => ∃ v, e = .returned v ∧ v = vU8 (mk r i j) ∧ Mem w [] [] w' := by
  refine calls_of_sw (vs := [vInt (r : Int), vInt (i : Int), vInt (j : Int)]) Tryd.func76 rfl Tryd.ntmps76 rfl (SW.begin ?_)
  refine sw_seq ?_
  refine sw_region ?_
  refine ow_val (val_assign rfl) rfl ?_   -- 6
  refine ow_nil (into ?_)
  refine sw_seq ?_
  refine sw_seq ?_
  refine sw_region ?_
  refine ow_val (val_move rfl) rfl ?_   -- 7
  refine ow_val ((val_eql_int rfl rfl).to (congrArg Value.bool (decide_eq_true (by omega)))) rfl ?_   -- 8
  refine ow_nil (into ?_)
  refine sw_true rfl rfl ?_
  refine sw_seq ?_
  refine sw_region ?_
  refine ow_val (val_move rfl) rfl ?_   -- 9
  refine ow_val (val_mul_int ((101 * i : Nat) : Int) rfl rfl (by omega) (by omega)) rfl ?_   -- 10
  refine ow_val (val_move rfl) rfl ?_   -- 11
  refine ow_val (val_mul_int ((59 * j : Nat) : Int) rfl rfl (by omega) (by omega)) rfl ?_   -- 12
  refine ow_val (val_add_int ((101 * i + 59 * j : Nat) : Int) rfl rfl (by omega) (by omega)) rfl ?_   -- 13
  refine ow_val (val_add_int ((101 * i + 59 * j + 17 : Nat) : Int) rfl rfl (by omega) (by omega)) rfl ?_   -- 14
  refine ow_val (val_conv_n_u8 (101 * i + 59 * j + 17) Tryd.underlying3 Tryd.underlying5 rfl rfl) rfl ?_   -- 15
  refine ow_val (val_assign rfl) rfl ?_   -- 6
  refine ow_nil (into ?_)
  refine sw_ret (fun w hm => ?_)
  try dsimp only [thenP, blockP, Nat.beq, cond]
  exact ret_one _ rfl rfl ⟨congrArg vU8 (by rw [mk, if_pos hr] <;> rfl), hm⟩

theorem mark_1 (r i j : Nat) (hi : i < 16777216) (hj : j < 1073741824) (hr : ¬ r = 0) (w : World) : Calls Tryd.prog 76 #[vInt (r : Int), vInt (i : Int), vInt (j : Int)] w fun e w' => ∃ v, e = .returned v ∧ v = vU8 (mk r i j) ∧ Mem w [] [] w' := by
  have hij : (i + 1) * (j + 3) ≤ 16777216 * 1073741827 := Nat.mul_le_mul (by omega) (by omega)
  obtain ⟨q, hq⟩ : ∃ q, (i + 1) * (j + 3) = q := ⟨_, rfl⟩
  rw [hq] at hij
  refine calls_of_sw (vs := [vInt (r : Int), vInt (i : Int), vInt (j : Int)]) Tryd.func76 rfl Tryd.ntmps76 rfl (SW.begin ?_)
  refine sw_seq ?_
  refine sw_region ?_
  refine ow_val (val_assign rfl) rfl ?_   -- 6
  refine ow_nil (into ?_)
  refine sw_seq ?_
  refine sw_seq ?_
  refine sw_region ?_
  refine ow_val (val_move rfl) rfl ?_   -- 7
  refine ow_val ((val_eql_int rfl rfl).to (congrArg Value.bool (decide_eq_false (by omega)))) rfl ?_   -- 8
  refine ow_nil (into ?_)
  refine sw_false rfl rfl ?_
  refine sw_skip (into ?_)
  refine sw_seq ?_
  refine sw_region ?_
  refine ow_val (val_move rfl) rfl ?_   -- 16
  refine ow_val (val_add_int ((i + 1 : Nat) : Int) rfl rfl (by omega) (by omega)) rfl ?_   -- 17
  refine ow_val (val_move rfl) rfl ?_   -- 18
  refine ow_val (val_add_int ((j + 3 : Nat) : Int) rfl rfl (by omega) (by omega)) rfl ?_   -- 19
  refine ow_val ((val_mul_int (((i + 1) * (j + 3) : Nat) : Int) rfl rfl (Int.natCast_mul _ _) (by omega)).to (v' := vInt (q : Int)) (by rw [hq])) rfl ?_   -- 20
  refine ow_val (val_mul_int ((q * 29 : Nat) : Int) rfl rfl (by omega) (by omega)) rfl ?_   -- 21
  refine ow_val (val_move rfl) rfl ?_   -- 22
  refine ow_val (val_mul_int ((i * 7 : Nat) : Int) rfl rfl (by omega) (by omega)) rfl ?_   -- 23
  refine ow_val (val_add_int ((q * 29 + i * 7 : Nat) : Int) rfl rfl (by omega) (by omega)) rfl ?_   -- 24
  refine ow_val (val_move rfl) rfl ?_   -- 25
  refine ow_val (val_quo_int ((j / 5 : Nat) : Int) rfl rfl (by omega) (by omega) (by omega)) rfl ?_   -- 26
  refine ow_val (val_add_int ((q * 29 + i * 7 + j / 5 : Nat) : Int) rfl rfl (by omega) (by omega)) rfl ?_   -- 27
  refine ow_val (val_add_int ((q * 29 + i * 7 + j / 5 + 3 : Nat) : Int) rfl rfl (by omega) (by omega)) rfl ?_   -- 28
  refine ow_val (val_conv_n_u8 (q * 29 + i * 7 + j / 5 + 3) Tryd.underlying3 Tryd.underlying5 rfl rfl) rfl ?_   -- 29
  refine ow_val (val_assign rfl) rfl ?_   -- 6
  refine ow_nil (into ?_)
  exact sw_ret (fun w hm => ret_one _ rfl rfl ⟨congrArg vU8 (by rw [mk, if_neg hr, hq] <;> rfl), hm⟩)

theorem mark_any (r i j : Nat) (hi : i < 16777216) (hj : j < 1073741824) (w : World) : Calls Tryd.prog 76 #[vInt (r : Int), vInt (i : Int), vInt (j : Int)] w fun e w' => ∃ v, e = .returned v ∧ v = vU8 (mk r i j) ∧ Mem w [] [] w' := by
  by_cases hr : r = 0
  · exact mark_0 r i j hi hj hr w
  · exact mark_1 r i j hi hj hr w

theorem spare_any (w : World) (ap : Option Addr) (cp : Nat) (p : List UInt8) (hr : Rd w ap (p.map vU8)) (hb : p.length ≤ 1073741824) : Calls Tryd.prog 73 #[.slice ap p.length cp] w fun e w' => ∃ u, e = .returned u ∧ ∃ t : Option Addr × Nat × Ent, u = .tuple #[.slice t.1 p.length t.2.1, .slice t.1 (p.length + 40) t.2.1] ∧ RowE (.slice t.1 (p.length + 40) t.2.1) 5 1 (p.length + 40) ((p ++ rm).map vU8) t.2.2 ∧ Mem w [] [t.2.2] w' := by
  obtain ⟨ti, hti, htz, htsz, htby⟩ := info_parts iu8'
  refine calls_of_sw (vs := [.slice ap p.length cp]) Tryd.func73 rfl Tryd.ntmps73 rfl (SW.begin ?_)
  refine sw_seq ?_
  refine sw_region ?_
  refine ow_val (val_assign rfl) rfl ?_   -- 2
  refine ow_val (val_assign rfl) rfl ?_   -- 3
  refine ow_nil (into ?_)
  refine sw_seq ?_
  refine sw_region ?_
  refine ow_val (val_move rfl) rfl ?_   -- 6
  refine ow_val (val_len rfl Tryd.underlying25) rfl ?_   -- 7
  refine ow_val (val_add_int ((p.length + 40 : Nat) : Int) rfl rfl (by omega) (by omega)) rfl ?_   -- 8
  refine ow_make (o := blk ((List.replicate (p.length + 40) (0 : UInt8)).map vU8) 5) (acts_make_to (vs := (List.replicate (p.length + 40) (0 : UInt8)).map vU8) (0) (p.length + 40) rfl rfl (by simp) (by simp) Tryd.underlying25 hti htz (by omega) (by rw [htby]; omega) (by omega) (by rw [htsz, Nat.mul_one]; exact made8 _)) rfl (fun b9 hb9 => ?_)   -- 9
  refine ow_val (val_assign rfl) rfl ?_   -- 4
  refine ow_nil (into ?_)
  refine sw_seq ?_
  refine sw_region ?_
  refine ow_val (val_move rfl) rfl ?_   -- 10
  refine ow_val (val_move rfl) rfl ?_   -- 11
  refine ow_append' (k := 0 + p.length) (acts_append (size := 1) (bytes := 1) 0 rfl rfl rfl (rowMade (by omega)) rfl Tryd.underlying25 hti htz htsz htby rfl (by decide) (fun w hm => hr.mem hm) (by rw [List.length_map, Nat.mul_one]) (one_u8s _) (by omega) (by omega)) rfl (fun a12 c12 e12 hq12 => ?_)   -- 12
  rw [Nat.zero_add] at hq12 ⊢
  have hr12 : RowE (.slice a12 p.length c12) 5 1 p.length (p.map vU8) e12 := hq12
  refine ow_val (val_assign rfl) rfl ?_   -- 4
  refine ow_nil (into ?_)
  refine sw_seq ?_
  refine sw_seq ?_
  refine sw_region ?_
  refine ow_val (val_assign rfl) rfl ?_   -- 5
  refine ow_nil (into ?_)
  refine sw_block ?_
  refine sw_loop (σ := Nat × Option Addr × Nat × Ent) (fun t => t.1 ≤ 40 ∧ RowE (.slice t.2.1 (p.length + t.1) t.2.2.1) 5 1 (p.length + t.1) ((p ++ rm.take t.1).map vU8) t.2.2.2) (fun t => [(5, vInt (t.1 : Int)), (4, .slice t.2.1 (p.length + t.1) t.2.2.1), (0, .slice ap p.length cp)]) (fun t => Mem w [] [t.2.2.2]) (fun t => 40 - t.1) (0, a12, c12, e12) ⟨Nat.zero_le _, by dsimp only; rw [List.take_zero, List.append_nil]; exact hr12⟩ ⟨rfl, rfl, rfl, trivial⟩ (fun w hm => hm) ?_
  rintro ⟨j, a4, c4, er⟩ ⟨hj, hrow⟩
  simp only at hj hrow ⊢
  refine sw_seq ?_
  refine sw_seq ?_
  refine sw_region ?_
  refine ow_val (val_move rfl) rfl ?_   -- 13
  refine ow_val (val_lss_int rfl rfl) rfl ?_   -- 14
  refine ow_nil (into ?_)
  refine sw_if rfl (fun h0 => ?_) (fun h0 => ?_)
  · -- then
    refine sw_skip (into ?_)
    refine sw_seq ?_
    refine sw_block ?_
    refine sw_region ?_
    refine ow_val (val_move rfl) rfl ?_   -- 17
    refine ow_val (val_move rfl) rfl ?_   -- 18
    refine ow_call_pure (v := vU8 (bh j)) (callsTo Tryd.func102 rfl (by kernel_rfl) rfl) rfl (fun w hm => behind_any j (by omega) w) ?_   -- 19
    refine ow_make (acts_buildSlice (cs := ([(bh j)] : List UInt8).map vU8) Tryd.underlying25 Tryd.sizeOf5 Tryd.zeroValue5 rfl rfl (by kernel_rfl)) rfl (fun b20 hb20 => ?_)   -- 20
    refine ow_append' (k := p.length + j + 1) (acts_append (size := 1) (bytes := 1) 1 rfl rfl rfl hrow rfl Tryd.underlying25 hti htz htsz htby rfl (by decide) (fun w hm => Rd.blk (hm.at (i := 0) rfl)) rfl (one_u8s _) (by omega) (by omega)) rfl (fun a21 c21 e21 hr21 => ?_)   -- 21
    refine ow_val (val_assign rfl) rfl ?_   -- 4
    refine ow_nil (into ?_)
    refine sw_region ?_
    refine ow_val (val_move rfl) rfl ?_   -- 15
    refine ow_val (val_add_int ((j + 1 : Nat) : Int) rfl rfl (by omega) (by omega)) rfl ?_   -- 16
    refine ow_val (val_assign rfl) rfl ?_   -- 5
    have hrj : rm.take (j + 1) = rm.take j ++ [bh j] := by
      rw [take_getD (l := rm) (by rw [rm_len]; omega), rm, List.getD_eq_getElem?_getD, List.getElem?_map, List.getElem?_range (by omega)]; rfl
    exact ow_nil (fun w hm => ⟨(j + 1, a21, c21, e21), ⟨by dsimp only; omega, by dsimp only; rw [hrj]; exact hr21.cong rfl rfl (by rw [← List.append_assoc, List.map_append (l₁ := p ++ rm.take j)])⟩, by dsimp only; omega, ⟨rfl, rfl, rfl, trivial⟩, hm.only (.cons _ (.cons_cons _ (List.nil_sublist _)))⟩)
  · -- else
    obtain rfl : j = 40 := by omega
    rw [List.take_of_length_le (by rw [rm_len]; exact Nat.le_refl _)] at hrow
    refine sw_exit (into ?_)
    refine sw_seq ?_
    refine sw_region ?_
    refine ow_val (val_move rfl) rfl ?_   -- 22
    refine ow_val (val_move rfl) rfl ?_   -- 23
    refine ow_val (val_len rfl Tryd.underlying25) rfl ?_   -- 24
    refine ow_val (val_slice_hi p.length rfl rfl Tryd.underlying25 Tryd.sizeOf5 rfl (by have := hrow.le; omega)) rfl ?_   -- 25
    refine ow_val (val_move rfl) rfl ?_   -- 26
    refine ow_val (val_assign rfl) rfl ?_   -- 2
    refine ow_val (val_assign rfl) rfl ?_   -- 3
    refine ow_nil (into ?_)
    exact sw_ret (fun w hm => ret_two _ _ rfl rfl rfl ⟨(a4, c4, er), rfl, hrow, hm⟩)

theorem keep_take {w : World} {a : Option Addr} {px ys : List UInt8} (h : Rd w a ((px ++ ys).map vU8)) : Rd w a (px.map vU8) := fun j x hj => h j x (by
  rw [List.map_append, List.getElem?_append_left (List.getElem?_eq_some_iff.1 hj).1]; exact hj)
theorem keep_get {px : List UInt8} {j : Nat} (h : j < 40) : (px ++ rm).getD (px.length + j) default = bh j := by
  rw [List.getD_eq_getElem?_getD, List.getElem?_append_right (by omega), Nat.add_sub_cancel_left, rm, List.getElem?_map, List.getElem?_range h]; rfl

theorem kept1_any (w : World) (af : Option Addr) (cf : Nat) (ap : Option Addr) (cp : Nat) (px : List UInt8) (hrf : Rd w af ((px ++ rm).map vU8)) (hrp : Rd w ap (px.map vU8)) (hcf : px.length + 40 ≤ cf) (hb : px.length ≤ 1073741824) : Calls Tryd.prog 75 #[.slice af (px.length + 40) cf, .slice ap px.length cp] w fun e w' => ∃ v, e = .returned v ∧ v = .bool true ∧ Mem w [] [] w' := by
  refine calls_of_sw (vs := [.slice af (px.length + 40) cf, .slice ap px.length cp]) Tryd.func75 rfl Tryd.ntmps75 rfl (SW.begin ?_)
  refine sw_seq ?_
  refine sw_region ?_
  refine ow_val (val_assign rfl) rfl ?_   -- 4
  refine ow_nil (into ?_)
  refine sw_seq ?_
  refine sw_seq ?_
  refine sw_region ?_
  refine ow_val (val_move rfl) rfl ?_   -- 6
  refine ow_val (val_len rfl Tryd.underlying25) rfl ?_   -- 7
  refine ow_val (val_move rfl) rfl ?_   -- 8
  refine ow_val (val_len rfl Tryd.underlying25) rfl ?_   -- 9
  refine ow_val (val_add_int ((px.length + 40 : Nat) : Int) rfl rfl (by omega) (by omega)) rfl ?_   -- 10
  refine ow_val ((val_neq_int rfl rfl).to (congrArg Value.bool (decide_eq_false (by omega)))) rfl ?_   -- 11
  refine ow_val (val_move rfl) rfl ?_   -- 12
  refine ow_guard_yes rfl rfl rfl ?_
  refine ow_val (val_move rfl) rfl ?_   -- 13
  refine ow_guard_yes rfl rfl rfl ?_
  refine ow_val (val_move rfl) rfl ?_   -- 14
  refine ow_guard_yes rfl rfl rfl ?_
  refine ow_val (val_len rfl Tryd.underlying25) rfl ?_   -- 15
  refine ow_guard_yes rfl rfl rfl ?_
  refine ow_val (val_slice_hi px.length rfl rfl Tryd.underlying25 Tryd.sizeOf5 rfl (by omega)) rfl ?_   -- 16
  refine ow_guard_yes rfl rfl rfl ?_
  refine ow_val (val_move rfl) rfl ?_   -- 17
  refine ow_guard_yes rfl rfl rfl ?_
  refine ow_call_pure (v := .bool true) (callsTo Tryd.func28 rfl (by kernel_rfl) rfl) rfl (fun w hm => (rsame_is w af px.length _ px rfl (keep_take (hrf.mem hm)) ap px.length _ px rfl (hrp.mem hm) (by omega) (decide_eq_true rfl))) ?_   -- 18
  refine ow_guard_yes rfl rfl rfl ?_
  refine ow_val (val_not rfl) rfl ?_   -- 19
  refine ow_val (val_pick_false rfl rfl) rfl ?_   -- 20
  refine ow_nil (into ?_)
  refine sw_false rfl rfl ?_
  refine sw_skip (into ?_)
  refine sw_seq ?_
  refine sw_seq ?_
  refine sw_region ?_
  refine ow_val (val_assign rfl) rfl ?_   -- 5
  refine ow_nil (into ?_)
  refine sw_block ?_
  refine sw_loop (σ := Nat) (fun j => j ≤ 40) (fun j => [(5, vInt (j : Int)), (1, .slice ap px.length cp), (0, .slice af (px.length + 40) cf)]) (fun _ => Mem w [] []) (fun j => 40 - j) 0 (by omega) ⟨rfl, rfl, rfl, trivial⟩ (fun w hm => hm) ?_
  intro j hj
  refine sw_seq ?_
  refine sw_seq ?_
  refine sw_region ?_
  refine ow_val (val_move rfl) rfl ?_   -- 21
  refine ow_val (val_lss_int rfl rfl) rfl ?_   -- 22
  refine ow_nil (into ?_)
  refine sw_if rfl (fun h0 => ?_) (fun h0 => ?_)
  · -- then
    obtain ⟨bf, of_, rfl⟩ := hrf.addr (by rw [List.length_map, List.length_append, rm_len]; omega)
    refine sw_skip (into ?_)
    refine sw_seq ?_
    refine sw_block ?_
    refine sw_seq ?_
    refine sw_region_lex _ [] [(0, 0), (1, 0), (2, 0), (3, 0), (4, 0), (5, 0), (7, 0), (6, 1), (8, 2), (9, 0)] (by kernel_rfl) (by kernel_rfl) (fun _ _ _ h => h) (fun _ h => h) (fun _ h => h.drawn _) ?_
    refine lw_pure rfl (val_move rfl) rfl ?_   -- 25
    refine lw_pure rfl (val_move rfl) rfl ?_   -- 26
    refine lw_pure rfl (val_len rfl Tryd.underlying25) rfl ?_   -- 27
    refine lw_pure rfl (val_move rfl) rfl ?_   -- 28
    refine lw_pure rfl (val_add_int ((px.length + j : Nat) : Int) rfl rfl (by omega) (by omega)) rfl ?_   -- 29
    refine lw_pure rfl (val_indexAddr_slice (px.length + j) (of_ + px.length + j) rfl rfl Tryd.underlying25 Tryd.sizeOf5 (by omega) (by omega) (by omega)) rfl ?_   -- 30
    refine lw_pure rfl (val_move rfl) rfl ?_   -- 32
    refine lw_held rfl ((val_load rfl Tryd.isAgg5 (fun w' hm => Rd.get (p := (px ++ rm)) (k := px.length + j) (hrf.mem hm) (by rw [List.length_append, rm_len]; omega) (by omega))).to (v' := vU8 (bh j)) (by rw [keep_get (by omega)])) rfl ?_   -- 31
    refine lw_call_pure (v := vU8 (bh j)) rfl (callsTo Tryd.func102 rfl (by kernel_rfl) rfl) rfl (fun w hm => behind_any j (by omega) w) ?_   -- 33
    refine lw_pure rfl ((val_neq_u8 rfl rfl).to (congrArg Value.bool (decide_eq_false ((fun h => h rfl))))) rfl ?_   -- 34
    refine lw_nil (into ?_)
    refine sw_false rfl rfl ?_
    refine sw_skip (into ?_)
    refine sw_region ?_
    refine ow_val (val_move rfl) rfl ?_   -- 23
    refine ow_val (val_add_int ((j + 1 : Nat) : Int) rfl rfl (by omega) (by omega)) rfl ?_   -- 24
    refine ow_val (val_assign rfl) rfl ?_   -- 5
    exact ow_nil (fun w hm => ⟨j + 1, by omega, by omega, ⟨rfl, rfl, rfl, trivial⟩, hm.forgetAll⟩)
  · -- else
    refine sw_exit (into ?_)
    refine sw_seq ?_
    refine sw_region ?_
    refine ow_val (val_assign rfl) rfl ?_   -- 4
    refine ow_nil (into ?_)
    exact sw_ret (fun w hm => ret_one _ rfl rfl ⟨rfl, hm.forgetAll⟩)

theorem over_any (a : Option Addr) (c m N : Nat) (L : List UInt8) (e : Ent) (hrow : RowE (.slice a (m + N) c) 5 1 (m + N) (L.map vU8) e) (hL : L.length = m + N) (hb : m + N ≤ 1073741824) (w : World) (hm0 : Mem w (keys [e]) [e] w) : Calls Tryd.prog 37 #[.slice a m c] w fun en w' => ∃ u, en = .returned u ∧ ∃ t : List UInt8 × Ent, u = .tuple #[] ∧ (t.1.length = m + N ∧ t.1.drop m = L.drop m ∧ RowE (.slice a (m + N) c) 5 1 (m + N) (t.1.map vU8) t.2) ∧ Mem w (keys [e]) [t.2] w' := by
  refine calls_of_sw (vs := [.slice a m c]) Tryd.func37 rfl Tryd.ntmps37 rfl (SW.beginM hm0 ?_)
  refine sw_seq ?_
  refine sw_region ?_
  refine ow_val (val_move rfl) rfl ?_   -- 3
  refine ow_val (val_len rfl Tryd.underlying25) rfl ?_   -- 4
  refine ow_val (val_move rfl) rfl ?_   -- 5
  refine ow_nil (into ?_)
  refine sw_block ?_
  refine sw_loop (σ := Nat × List UInt8 × Ent) (fun t => t.1 ≤ m ∧ t.2.1.length = m + N ∧ t.2.1.drop m = L.drop m ∧ RowE (.slice a (m + N) c) 5 1 (m + N) (t.2.1.map vU8) t.2.2) (fun t => [(5, vInt (t.1 : Int)), (4, vInt (m : Int)), (0, .slice a m c)]) (fun t => Mem w (keys [e]) [t.2.2]) (fun t => m - t.1) (0, L, e) ⟨Nat.zero_le _, hL, rfl, hrow⟩ ⟨rfl, rfl, rfl, trivial⟩ (fun w hm => hm) ?_
  rintro ⟨j, K, e0⟩ ⟨hj, hKl, hKd, hrk⟩
  simp only at hj hKl hKd hrk ⊢
  refine sw_seq ?_
  refine sw_region ?_
  refine ow_val (val_lss_int rfl rfl) rfl ?_   -- 6
  refine ow_nil (into ?_)
  refine sw_seq ?_
  refine sw_if rfl (fun h0 => ?_) (fun h0 => ?_)
  · -- then
    obtain ⟨b1, rest1, rfl, rfl, hre⟩ := hrk.open1 (by omega)
    refine sw_skip (into ?_)
    refine sw_seq ?_
    refine sw_block ?_
    refine sw_seq ?_
    refine sw_region ?_
    refine ow_val (val_move rfl) rfl ?_   -- 7
    refine ow_val (val_assign rfl) rfl ?_   -- 2
    refine ow_nil (into ?_)
    refine sw_region ?_
    refine ow_val (val_move rfl) rfl ?_   -- 8
    refine ow_val (val_move rfl) rfl ?_   -- 9
    refine ow_val (val_move rfl) rfl ?_   -- 10
    refine ow_val (val_move rfl) rfl ?_   -- 11
    refine ow_val (val_indexAddr_slice (j) (j) rfl rfl Tryd.underlying25 Tryd.sizeOf5 (by omega) (by omega) (by omega)) rfl ?_   -- 12
    refine ow_val (val_load_at (v := vU8 (K.getD j default)) 0 rfl rfl Tryd.isAgg5 (by rw [List.getElem?_append_left (by rw [List.length_map]; omega)]; exact get_map vU8 K j (by omega))) rfl ?_   -- 13
    refine ow_val (val_mul_u8 rfl rfl) rfl ?_   -- 14
    refine ow_val (val_move rfl) rfl ?_   -- 15
    refine ow_val (val_conv_n_u8 j Tryd.underlying3 Tryd.underlying5 rfl rfl) rfl ?_   -- 16
    refine ow_val (val_add_u8 rfl rfl) rfl ?_   -- 17
    refine ow_val (val_add_u8 rfl rfl) rfl ?_   -- 18
    refine ow_val (val_indexAddr_slice (j) (j) rfl rfl Tryd.underlying25 Tryd.sizeOf5 (by omega) (by omega) (by omega)) rfl ?_   -- 19
    refine ow_do (does_set1 0 rfl rfl rfl Tryd.sizeOf5 (by omega)) (fun _ _ => ?_)
    refine ow_nil (into ?_)
    refine sw_region ?_
    refine ow_val (val_add_int ((j + 1 : Nat) : Int) rfl rfl (by omega) (by omega)) rfl ?_   -- 20
    refine ow_val (val_move rfl) rfl ?_   -- 5
    exact ow_nil (fun w hm => ⟨(j + 1, K.set j (K.getD j default * 3 + UInt8.ofNat j + 85), _), ⟨by dsimp only; omega, by dsimp only; rw [List.length_set]; exact hKl, by dsimp only; rw [List.drop_set_of_lt (by omega)]; exact hKd, hre (K.set j (K.getD j default * 3 + UInt8.ofNat j + 85)) (by rw [List.length_set])⟩, by dsimp only; omega, ⟨rfl, rfl, rfl, trivial⟩, hm⟩)
  · -- else
    refine sw_exit (fun w hm => ?_)
    try dsimp only [thenP, blockP, Nat.beq, cond]
    exact ret_end rfl ⟨(K, e0), rfl, ⟨hKl, hKd, hrk⟩, hm⟩

theorem lists_any (w_0 : World) (o : Cop) (ho : o.ok w_0) (hn : o.pairs.xs.length ≤ 1048576) : Calls Tryd.prog 36 #[.agg o.cells.toArray] w_0 fun e w' => ∃ v, e = .returned v ∧ ∃ e', RowE v 25 1 (lsO o).length ((lsO o).map Sl.v) e' ∧ Mem w_0 [] [e'] w' := by
  obtain ⟨tiS, hSi, hSz, hSsz, hSby⟩ := info_parts isl
  refine calls_of_sw (vs := [.agg o.cells.toArray]) Tryd.func36 rfl Tryd.ntmps36 rfl (SW.begin ?_)
  refine sw_seq ?_
  refine sw_region ?_
  refine ow_new (acts_box rfl) rfl (fun b1 hb1 => ?_)   -- 1
  refine ow_val (val_assign rfl) rfl ?_   -- 2
  refine ow_nil (into ?_)
  refine sw_seq ?_
  refine sw_region ?_
  refine ow_val (val_fieldAddr (m := 0) (e := 2) rfl Tryd.underlying50 rfl rfl Tryd.sizeOf25 rfl) rfl ?_   -- 6
  refine ow_val (val_load_at 0 rfl rfl Tryd.isAgg25 rfl) rfl ?_   -- 7
  refine ow_make (acts_buildSlice (cs := [o.P.v]) Tryd.underlying32 Tryd.sizeOf25 Tryd.zeroValue25 rfl rfl (by kernel_rfl)) rfl (fun b8 hb8 => ?_)   -- 8
  refine ow_val (val_assign rfl) rfl ?_   -- 3
  refine ow_nil (into ?_)
  refine sw_seq ?_
  refine sw_seq ?_
  refine sw_region ?_
  refine ow_val (val_fieldAddr (m := 0) (e := 67) rfl Tryd.underlying50 rfl rfl Tryd.sizeOf43 rfl) rfl ?_   -- 9
  refine ow_val (val_load_at 1 rfl rfl Tryd.isAgg43 (Cop.c67 ho)) rfl ?_   -- 10
  refine ow_val (val_len rfl Tryd.underlying43) rfl ?_   -- 11
  refine ow_val (val_move rfl) rfl ?_   -- 12
  refine ow_nil (into ?_)
  refine sw_block ?_
  refine sw_loop (σ := Nat × Option Addr × Nat × Ent) (fun t => t.1 ≤ o.pairs.xs.length ∧ RowE (.slice t.2.1 (1 + 2 * t.1) t.2.2.1) 25 1 (1 + 2 * t.1) ((o.P :: (o.pairs.xs.take t.1).flatMap fun x => [x.1, x.2]).map Sl.v) t.2.2.2) (fun t => [(12, vInt (t.1 : Int)), (11, vInt (o.pairs.xs.length : Int)), (10, o.pairs.v), (3, .slice t.2.1 (1 + 2 * t.1) t.2.2.1)]) (fun t => Mem w_0 [] [t.2.2.2]) (fun t => o.pairs.xs.length - t.1) (0, some ⟨b8, 0, none⟩, 1, some (b8, blk [o.P.v] 25)) ⟨Nat.zero_le _, RowE.full rfl (by dsimp only; omega)⟩ ⟨rfl, rfl, rfl, rfl, trivial⟩ (fun w hm => hm.only (.cons_cons _ (List.nil_sublist _))) ?_
  rintro ⟨i, ar, cr, er⟩ ⟨hi, hrow⟩
  simp only at hi hrow ⊢
  refine sw_seq ?_
  refine sw_region ?_
  refine ow_val (val_lss_int rfl rfl) rfl ?_   -- 13
  refine ow_nil (into ?_)
  refine sw_seq ?_
  refine sw_if rfl (fun h0 => ?_) (fun h0 => ?_)
  · -- then
    obtain ⟨ba, oa, hba⟩ := ho.pr.addr (by rw [flatMap_size o.pairs.xs (n := 2) (fun _ _ => rfl)]; omega)
    have hkv : o.pairs.v = .slice (some ⟨ba, oa, none⟩) o.pairs.xs.length o.pairs.c := by rw [Sl.v, hba]
    rw [hkv]
    have hrb : Rd w_0 (some ⟨ba, oa, none⟩) (o.pairs.xs.flatMap fun x => [x.1.v, x.2.v]) := hba ▸ ho.pr
    obtain ⟨⟨k1, v1⟩, hx1⟩ : ∃ z, o.pairs.xs.getD i default = z := ⟨_, rfl⟩
    refine sw_skip (into ?_)
    refine sw_seq ?_
    refine sw_block ?_
    refine sw_seq ?_
    refine sw_region ?_
    refine ow_val (val_indexAddr_slice i (oa + i * 2) rfl rfl Tryd.underlying43 Tryd.sizeOf101 (by omega) (by omega) (by omega)) rfl ?_   -- 14
    refine ow_val ((val_load_elem (cells := fun x : Sl UInt8 × Sl UInt8 => [x.1.v, x.2.v]) (l := o.pairs.xs) (o := oa) (i := i) rfl Tryd.isAgg101 Tryd.sizeOf101 (fun _ _ => rfl) (by omega) (by omega) (fun w' hm => hrb.mem hm)).to (v' := .agg #[k1.v, v1.v]) (by rw [hx1])) rfl ?_   -- 15
    refine ow_new (acts_alloc zPr) rfl (fun b5 hb5 => ?_)   -- 5
    refine ow_do_eq (does_store_all 0 rfl rfl rfl (fun v hv => by rcases List.mem_cons.1 hv with rfl | hv <;> first | rfl | (rw [List.mem_singleton.1 hv]; rfl)) Tryd.sizeOf101 rfl rfl) ?_
    refine ow_nil (into ?_)
    refine sw_region ?_
    refine ow_val (val_move rfl) rfl ?_   -- 16
    refine ow_val (val_fieldAddr (m := 0) (e := 0) rfl Tryd.underlying101 rfl rfl Tryd.sizeOf25 rfl) rfl ?_   -- 17
    refine ow_val (val_load_at 0 rfl rfl Tryd.isAgg25 rfl) rfl ?_   -- 18
    refine ow_val (val_fieldAddr (m := 0) (e := 1) rfl Tryd.underlying101 rfl rfl Tryd.sizeOf25 rfl) rfl ?_   -- 19
    refine ow_val (val_load_at 0 rfl rfl Tryd.isAgg25 rfl) rfl ?_   -- 20
    refine ow_make (acts_buildSlice (cs := [k1.v, v1.v]) Tryd.underlying32 Tryd.sizeOf25 Tryd.zeroValue25 rfl rfl (by kernel_rfl)) rfl (fun b21 hb21 => ?_)   -- 21
    refine ow_append' (k := 1 + 2 * i + 2) (acts_append (size := 1) (bytes := 24) 2 rfl rfl rfl hrow rfl Tryd.underlying32 hSi hSz hSsz hSby rfl (by decide) (fun w hm => Rd.blk (hm.at (i := 0) rfl)) rfl (fun u hu => by rcases List.mem_cons.1 hu with rfl | hu <;> first | rfl | (rw [List.mem_singleton.1 hu]; rfl)) (by omega) (by omega)) rfl (fun a22 c22 e22 hr22 => ?_)   -- 22
    refine ow_val (val_assign rfl) rfl ?_   -- 3
    refine ow_nil (into ?_)
    refine sw_region ?_
    refine ow_val (val_add_int ((i + 1 : Nat) : Int) rfl rfl (by omega) (by omega)) rfl ?_   -- 23
    refine ow_val (val_move rfl) rfl ?_   -- 12
    have hli : (o.P :: (o.pairs.xs.take (i + 1)).flatMap fun x => [x.1, x.2]) = (o.P :: (o.pairs.xs.take i).flatMap fun x => [x.1, x.2]) ++ [k1, v1] := by rw [take_getD (l := o.pairs.xs) (by omega), hx1, List.flatMap_append]; rfl
    exact ow_nil (fun w hm => ⟨(i + 1, a22, c22, e22), ⟨by dsimp only; omega, by dsimp only; rw [hli, show 1 + 2 * (i + 1) = 1 + 2 * i + 2 by omega]; exact hr22.cong rfl rfl (by rw [List.map_append]; rfl)⟩, by dsimp only; omega, ⟨rfl, rfl, by first | rfl | (rw [hkv]; rfl), by dsimp only; rw [show 1 + 2 * (i + 1) = 1 + 2 * i + 2 by omega]; rfl, trivial⟩, hm.only (.cons _ (.cons _ (.cons_cons _ (List.nil_sublist _))))⟩)
  · -- else
    obtain rfl : i = o.pairs.xs.length := by omega
    rw [List.take_length, ← lsO_len o] at hrow
    refine sw_exit (into ?_)
    refine sw_seq ?_
    refine sw_region ?_
    refine ow_val (val_move rfl) rfl ?_   -- 24
    refine ow_val (val_assign rfl) rfl ?_   -- 2
    refine ow_nil (into ?_)
    exact sw_ret (fun w hm => ret_one _ rfl rfl ⟨er, by rw [← lsO_len o]; exact hrow, hm⟩)
end Go.Proofs.YtpmnhmfahgchgaaDoor
