import Derived.Test.YtigogbodobifdaaLk
import Derived.Test.YtigogbodobifdaaSxZ
import Derived.Test.YtigogbodobifdaaSxY
import Derived.Test.YtigogbodobifdaaProg
set_option linter.unusedVariables false
set_option linter.unusedSimpArgs false
namespace Go.Proofs.Ytigogbodobifdaa
open Go.Sx
theorem iInt : (Try.prog.info? 3).map (fun i => (i.zero, i.size, i.bytes)) = some (some (vInt 0), 1, 8) := by kernel_rfl
theorem iSl : (Try.prog.info? 41).map (fun i => (i.zero, i.size, i.bytes)) = some (some (.slice none 0 0), 1, 24) := by kernel_rfl
theorem info_parts {o : Option TypeInfo} {z : Value} {s b : Nat} (h : o.map (fun i => (i.zero, i.size, i.bytes)) = some (some z, s, b)) : ∃ i, o = some i ∧ i.zero = some z ∧ i.size = s ∧ i.bytes = b := by
  obtain ⟨i, hi, he⟩ := Option.map_eq_some_iff.1 h
  simp only [Prod.mk.injEq] at he
  exact ⟨i, hi, he.1, he.2.1, he.2.2⟩
theorem qset {pre r rest : List Value} {x z : Value} : (pre ++ x :: r ++ rest).set pre.length z = pre ++ z :: r ++ rest := by
  rw [List.append_assoc, List.set_append_right _ _ (Nat.le_refl _), Nat.sub_self, List.append_assoc]; rfl
theorem qget {pre r rest : List Value} {x : Value} : (pre ++ x :: r ++ rest)[pre.length]? = some x := by
  rw [List.append_assoc, List.getElem?_append_right (Nat.le_refl _), Nat.sub_self]; rfl

theorem iPut_nil (v : Value) (w : World) : Calls Try.prog 19 #[.pointer none, v] w fun e w' => ∃ v, e = .returned v ∧ v = .tuple #[.bool false, vInt 5] ∧ Mem w [] [] w' := by
  refine calls_of_sw_d (vs := [.pointer none, v]) Try.func19 rfl Try.ntmps19 rfl (SW.begin ?_)
  refine sw_seq ?_
  refine sw_region ?_
  refine ow_val (val_assign rfl) rfl ?_   -- 4
  refine ow_val (val_assign rfl) rfl ?_   -- 5
  refine ow_nil (into ?_)
  refine sw_seq ?_
  refine sw_seq ?_
  refine sw_region ?_
  refine ow_val (val_move rfl) rfl ?_   -- 7
  refine ow_val (val_eql_nilptr Try.underlying24 rfl rfl) rfl ?_   -- 8
  refine ow_nil (into ?_)
  refine sw_true rfl rfl ?_
  refine sw_seq ?_
  refine sw_region ?_
  refine ow_val (val_assign rfl) rfl ?_   -- 4
  refine ow_val (val_assign rfl) rfl ?_   -- 5
  refine ow_nil (into ?_)
  refine sw_ret (fun w hm => ?_)
  try dsimp only [thenP, blockP, Nat.beq, cond]
  exact retd_none _ (res_two rfl rfl rfl) ⟨rfl, hm⟩

theorem iTake_nil (w : World) : Calls Try.prog 21 #[.pointer none] w fun e w' => ∃ v, e = .returned v ∧ v = .tuple #[vInt 0, .bool false] ∧ Mem w [] [] w' := by
  refine calls_of_sw_d (vs := [.pointer none]) Try.func21 rfl Try.ntmps21 rfl (SW.begin ?_)
  refine sw_seq ?_
  refine sw_region ?_
  refine ow_val (val_assign rfl) rfl ?_   -- 2
  refine ow_val (val_assign rfl) rfl ?_   -- 3
  refine ow_nil (into ?_)
  refine sw_seq ?_
  refine sw_region ?_
  refine ow_val (val_assign rfl) rfl ?_   -- 4
  refine ow_nil (into ?_)
  refine sw_seq ?_
  refine sw_seq ?_
  refine sw_region ?_
  refine ow_val (val_move rfl) rfl ?_   -- 6
  refine ow_val (val_eql_nilptr Try.underlying24 rfl rfl) rfl ?_   -- 7
  refine ow_nil (into ?_)
  refine sw_true rfl rfl ?_
  refine sw_seq ?_
  refine sw_region ?_
  refine ow_val (val_move rfl) rfl ?_   -- 8
  refine ow_val (val_assign rfl) rfl ?_   -- 2
  refine ow_val (val_assign rfl) rfl ?_   -- 3
  refine ow_nil (into ?_)
  refine sw_ret (fun w hm => ?_)
  try dsimp only [thenP, blockP, Nat.beq, cond]
  exact retd_none _ (res_two rfl rfl rfl) ⟨rfl, hm⟩

theorem iLen_nil (w : World) : Calls Try.prog 23 #[.pointer none] w fun e w' => ∃ v, e = .returned v ∧ v = vInt 0 ∧ Mem w [] [] w' := by
  refine calls_of_sw_d (vs := [.pointer none]) Try.func23 rfl Try.ntmps23 rfl (SW.begin ?_)
  refine sw_seq ?_
  refine sw_region ?_
  refine ow_val (val_assign rfl) rfl ?_   -- 2
  refine ow_nil (into ?_)
  refine sw_seq ?_
  refine sw_seq ?_
  refine sw_region ?_
  refine ow_val (val_move rfl) rfl ?_   -- 3
  refine ow_val (val_eql_nilptr Try.underlying24 rfl rfl) rfl ?_   -- 4
  refine ow_nil (into ?_)
  refine sw_true rfl rfl ?_
  refine sw_seq ?_
  refine sw_region ?_
  refine ow_val (val_assign rfl) rfl ?_   -- 2
  refine ow_nil (into ?_)
  refine sw_ret (fun w hm => ?_)
  try dsimp only [thenP, blockP, Nat.beq, cond]
  exact retd_none _ (res_one rfl rfl) ⟨rfl, hm⟩

theorem iLine_nil (w : World) : Calls Try.prog 24 #[.pointer none] w fun e w' => ∃ v, e = .returned v ∧ v = vInt 0 ∧ Mem w [] [] w' := by
  refine calls_of_sw_d (vs := [.pointer none]) Try.func24 rfl Try.ntmps24 rfl (SW.begin ?_)
  refine sw_seq ?_
  refine sw_region ?_
  refine ow_val (val_assign rfl) rfl ?_   -- 2
  refine ow_nil (into ?_)
  refine sw_seq ?_
  refine sw_seq ?_
  refine sw_region ?_
  refine ow_val (val_move rfl) rfl ?_   -- 3
  refine ow_val (val_eql_nilptr Try.underlying24 rfl rfl) rfl ?_   -- 4
  refine ow_nil (into ?_)
  refine sw_true rfl rfl ?_
  refine sw_seq ?_
  refine sw_region ?_
  refine ow_val (val_assign rfl) rfl ?_   -- 2
  refine ow_nil (into ?_)
  refine sw_ret (fun w hm => ?_)
  try dsimp only [thenP, blockP, Nat.beq, cond]
  exact retd_none _ (res_one rfl rfl) ⟨rfl, hm⟩

theorem iClose_nil (w : World) : Calls Try.prog 25 #[.pointer none] w fun e w' => ∃ v, e = .returned v ∧ v = vInt 5 ∧ Mem w [] [] w' := by
  refine calls_of_sw_d (vs := [.pointer none]) Try.func25 rfl Try.ntmps25 rfl (SW.begin ?_)
  refine sw_seq ?_
  refine sw_region ?_
  refine ow_val (val_assign rfl) rfl ?_   -- 2
  refine ow_nil (into ?_)
  refine sw_seq ?_
  refine sw_seq ?_
  refine sw_region ?_
  refine ow_val (val_move rfl) rfl ?_   -- 3
  refine ow_val (val_eql_nilptr Try.underlying24 rfl rfl) rfl ?_   -- 4
  refine ow_nil (into ?_)
  refine sw_true rfl rfl ?_
  refine sw_seq ?_
  refine sw_region ?_
  refine ow_val (val_assign rfl) rfl ?_   -- 2
  refine ow_nil (into ?_)
  refine sw_ret (fun w hm => ?_)
  try dsimp only [thenP, blockP, Nat.beq, cond]
  exact retd_none _ (res_one rfl rfl) ⟨rfl, hm⟩

theorem iClosed_nil (w : World) : Calls Try.prog 26 #[.pointer none] w fun e w' => ∃ v, e = .returned v ∧ v = .bool false ∧ Mem w [] [] w' := by
  refine calls_of_sw_d (vs := [.pointer none]) Try.func26 rfl Try.ntmps26 rfl (SW.begin ?_)
  refine sw_seq ?_
  refine sw_region ?_
  refine ow_val (val_assign rfl) rfl ?_   -- 2
  refine ow_nil (into ?_)
  refine sw_seq ?_
  refine sw_seq ?_
  refine sw_region ?_
  refine ow_val (val_move rfl) rfl ?_   -- 3
  refine ow_val (val_eql_nilptr Try.underlying24 rfl rfl) rfl ?_   -- 4
  refine ow_nil (into ?_)
  refine sw_true rfl rfl ?_
  refine sw_seq ?_
  refine sw_region ?_
  refine ow_val (val_assign rfl) rfl ?_   -- 2
  refine ow_nil (into ?_)
  refine sw_ret (fun w hm => ?_)
  try dsimp only [thenP, blockP, Nat.beq, cond]
  exact retd_none _ (res_one rfl rfl) ⟨rfl, hm⟩

theorem iLen_any (w : World) (cl : Bool) (b : Nat) (a : Option Addr) (c : Nat) (xs : List Value) (e : Ent) (pl : Int) (hpl : 1 ≤ pl ∧ pl ≤ 64) (hrow : RowO (.slice a xs.length c) 3 xs e) (hle : xs.length < 9223372036854775807) (hm0 : Mem w (b :: keys [e]) [some (b, blk [Value.int .i32 0, Value.int .u32 0, vInt pl, .slice a xs.length c, Value.bool cl] 70), e] w) : Calls Try.prog 23 #[.pointer (some ⟨b, 0, none⟩)] w fun en w' => ∃ u, en = .returned u ∧ u = vInt (min (xs.length : Int) pl) ∧ Mem w (b :: keys [e]) [some (b, blk [Value.int .i32 0, Value.int .u32 0, vInt pl, .slice a xs.length c, Value.bool cl] 70), e] w' := by
  refine calls_of_sw_d (vs := [.pointer (some ⟨b, 0, none⟩)]) Try.func23 rfl Try.ntmps23 rfl (SW.beginM hm0 ?_)
  refine sw_seq ?_
  refine sw_region ?_
  refine ow_val (val_assign rfl) rfl ?_   -- 2
  refine ow_nil (into ?_)
  refine sw_seq ?_
  refine sw_seq ?_
  refine sw_region ?_
  refine ow_val (val_move rfl) rfl ?_   -- 3
  refine ow_val (val_eql_nilptr Try.underlying24 rfl rfl) rfl ?_   -- 4
  refine ow_nil (into ?_)
  refine sw_false rfl rfl ?_
  refine sw_skip (into ?_)
  refine sw_seq ?_
  refine sw_region ?_
  refine ow_val (val_move rfl) rfl ?_   -- 5
  refine ow_val (val_nilCheck rfl) rfl ?_   -- 6
  refine ow_val (val_fieldAddr (m := 1) (e := 0) rfl Try.underlying70 rfl rfl Try.sizeOf67 rfl) rfl ?_   -- 7
  refine ow_call_turn 0 rfl (callsTo Try.func37 rfl (by kernel_rfl) rfl) rfl (fun w hm => lock_blk muLib (hm.at (i := 0) rfl)) ?_   -- 8
  refine ow_nil (into ?_)
  refine sw_seq ?_
  refine sw_region ?_
  refine ow_val (val_move rfl) rfl ?_   -- 9
  refine ow_val (val_nilCheck rfl) rfl ?_   -- 10
  refine ow_val (val_fieldAddr (m := 1) (e := 0) rfl Try.underlying70 rfl rfl Try.sizeOf67 rfl) rfl ?_   -- 11
  refine ow_defer rfl rfl ?_
  refine ow_nil (into ?_)
  refine sw_seq ?_
  refine sw_region_lex _ [] [(0, 0), (1, 0), (2, 0), (5, 0), (6, 0), (7, 0), (3, 1), (4, 0), (8, 1), (9, 0), (10, 0)] (by kernel_rfl) (by kernel_rfl) (fun _ _ _ h => h) (fun _ h => h) (fun _ h => h.drawn _) ?_
  refine lw_pure rfl (val_move rfl) rfl ?_   -- 12
  refine lw_pure rfl (val_nilCheck rfl) rfl ?_   -- 13
  refine lw_pure rfl (val_fieldAddr (m := 0) (e := 3) rfl Try.underlying70 rfl rfl Try.sizeOf68 rfl) rfl ?_   -- 14
  refine lw_pure rfl (val_move rfl) rfl ?_   -- 17
  refine lw_pure rfl (val_nilCheck rfl) rfl ?_   -- 18
  refine lw_pure rfl (val_fieldAddr (m := 0) (e := 2) rfl Try.underlying70 rfl rfl Try.sizeOf3 rfl) rfl ?_   -- 19
  refine lw_held rfl (val_load_at 0 rfl rfl Try.isAgg68 rfl) rfl ?_   -- 15
  refine lw_pure rfl (val_len rfl Try.underlying68) rfl ?_   -- 16
  refine lw_held rfl (val_load_at 0 rfl rfl Try.isAgg3 rfl) rfl ?_   -- 20
  refine lw_pure rfl (val_min rfl rfl) rfl ?_   -- 21
  refine lw_pure rfl (val_assign rfl) rfl ?_   -- 2
  refine lw_nil (into ?_)
  exact sw_ret (fun w hm => retd_any _ (res_one rfl rfl) muLib 0 rfl hm rfl (fun w' hm' => ⟨rfl, hm'⟩))

theorem iLine_any (w : World) (cl : Bool) (b : Nat) (a : Option Addr) (c : Nat) (xs : List Value) (e : Ent) (pl : Int) (hpl : 1 ≤ pl ∧ pl ≤ 64) (hrow : RowO (.slice a xs.length c) 3 xs e) (hle : xs.length < 9223372036854775807) (hm0 : Mem w (b :: keys [e]) [some (b, blk [Value.int .i32 0, Value.int .u32 0, vInt pl, .slice a xs.length c, Value.bool cl] 70), e] w) : Calls Try.prog 24 #[.pointer (some ⟨b, 0, none⟩)] w fun en w' => ∃ u, en = .returned u ∧ u = vInt (max 0 ((xs.length : Int) - pl)) ∧ Mem w (b :: keys [e]) [some (b, blk [Value.int .i32 0, Value.int .u32 0, vInt pl, .slice a xs.length c, Value.bool cl] 70), e] w' := by
  refine calls_of_sw_d (vs := [.pointer (some ⟨b, 0, none⟩)]) Try.func24 rfl Try.ntmps24 rfl (SW.beginM hm0 ?_)
  refine sw_seq ?_
  refine sw_region ?_
  refine ow_val (val_assign rfl) rfl ?_   -- 2
  refine ow_nil (into ?_)
  refine sw_seq ?_
  refine sw_seq ?_
  refine sw_region ?_
  refine ow_val (val_move rfl) rfl ?_   -- 3
  refine ow_val (val_eql_nilptr Try.underlying24 rfl rfl) rfl ?_   -- 4
  refine ow_nil (into ?_)
  refine sw_false rfl rfl ?_
  refine sw_skip (into ?_)
  refine sw_seq ?_
  refine sw_region ?_
  refine ow_val (val_move rfl) rfl ?_   -- 5
  refine ow_val (val_nilCheck rfl) rfl ?_   -- 6
  refine ow_val (val_fieldAddr (m := 1) (e := 0) rfl Try.underlying70 rfl rfl Try.sizeOf67 rfl) rfl ?_   -- 7
  refine ow_call_turn 0 rfl (callsTo Try.func37 rfl (by kernel_rfl) rfl) rfl (fun w hm => lock_blk muLib (hm.at (i := 0) rfl)) ?_   -- 8
  refine ow_nil (into ?_)
  refine sw_seq ?_
  refine sw_region ?_
  refine ow_val (val_move rfl) rfl ?_   -- 9
  refine ow_val (val_nilCheck rfl) rfl ?_   -- 10
  refine ow_val (val_fieldAddr (m := 1) (e := 0) rfl Try.underlying70 rfl rfl Try.sizeOf67 rfl) rfl ?_   -- 11
  refine ow_defer rfl rfl ?_
  refine ow_nil (into ?_)
  refine sw_seq ?_
  refine sw_region_lex _ [] [(0, 0), (1, 0), (2, 0), (5, 0), (6, 0), (7, 0), (3, 1), (4, 0), (8, 1), (9, 0), (10, 0), (11, 0)] (by kernel_rfl) (by kernel_rfl) (fun _ _ _ h => h) (fun _ h => h) (fun _ h => h.drawn _) ?_
  refine lw_pure rfl (val_move rfl) rfl ?_   -- 12
  refine lw_pure rfl (val_nilCheck rfl) rfl ?_   -- 13
  refine lw_pure rfl (val_fieldAddr (m := 0) (e := 3) rfl Try.underlying70 rfl rfl Try.sizeOf68 rfl) rfl ?_   -- 14
  refine lw_pure rfl (val_move rfl) rfl ?_   -- 17
  refine lw_pure rfl (val_nilCheck rfl) rfl ?_   -- 18
  refine lw_pure rfl (val_fieldAddr (m := 0) (e := 2) rfl Try.underlying70 rfl rfl Try.sizeOf3 rfl) rfl ?_   -- 19
  refine lw_held rfl (val_load_at 0 rfl rfl Try.isAgg68 rfl) rfl ?_   -- 15
  refine lw_pure rfl (val_len rfl Try.underlying68) rfl ?_   -- 16
  refine lw_held rfl (val_load_at 0 rfl rfl Try.isAgg3 rfl) rfl ?_   -- 20
  refine lw_pure rfl (val_sub_int ((xs.length : Int) - pl) rfl rfl rfl (by omega)) rfl ?_   -- 21
  refine lw_pure rfl (val_max rfl rfl) rfl ?_   -- 22
  refine lw_pure rfl (val_assign rfl) rfl ?_   -- 2
  refine lw_nil (into ?_)
  exact sw_ret (fun w hm => retd_any _ (res_one rfl rfl) muLib 0 rfl hm rfl (fun w' hm' => ⟨rfl, hm'⟩))

theorem iClosed_any (w : World) (cl : Bool) (b : Nat) (a : Option Addr) (c : Nat) (xs : List Value) (e : Ent) (pl : Int) (hpl : 1 ≤ pl ∧ pl ≤ 64) (hrow : RowO (.slice a xs.length c) 3 xs e) (hle : xs.length < 9223372036854775807) (hm0 : Mem w (b :: keys [e]) [some (b, blk [Value.int .i32 0, Value.int .u32 0, vInt pl, .slice a xs.length c, Value.bool cl] 70), e] w) : Calls Try.prog 26 #[.pointer (some ⟨b, 0, none⟩)] w fun en w' => ∃ u, en = .returned u ∧ u = .bool cl ∧ Mem w (b :: keys [e]) [some (b, blk [Value.int .i32 0, Value.int .u32 0, vInt pl, .slice a xs.length c, Value.bool cl] 70), e] w' := by
  refine calls_of_sw_d (vs := [.pointer (some ⟨b, 0, none⟩)]) Try.func26 rfl Try.ntmps26 rfl (SW.beginM hm0 ?_)
  refine sw_seq ?_
  refine sw_region ?_
  refine ow_val (val_assign rfl) rfl ?_   -- 2
  refine ow_nil (into ?_)
  refine sw_seq ?_
  refine sw_seq ?_
  refine sw_region ?_
  refine ow_val (val_move rfl) rfl ?_   -- 3
  refine ow_val (val_eql_nilptr Try.underlying24 rfl rfl) rfl ?_   -- 4
  refine ow_nil (into ?_)
  refine sw_false rfl rfl ?_
  refine sw_skip (into ?_)
  refine sw_seq ?_
  refine sw_region ?_
  refine ow_val (val_move rfl) rfl ?_   -- 5
  refine ow_val (val_nilCheck rfl) rfl ?_   -- 6
  refine ow_val (val_fieldAddr (m := 1) (e := 0) rfl Try.underlying70 rfl rfl Try.sizeOf67 rfl) rfl ?_   -- 7
  refine ow_call_turn 0 rfl (callsTo Try.func37 rfl (by kernel_rfl) rfl) rfl (fun w hm => lock_blk muLib (hm.at (i := 0) rfl)) ?_   -- 8
  refine ow_nil (into ?_)
  refine sw_seq ?_
  refine sw_region ?_
  refine ow_val (val_move rfl) rfl ?_   -- 9
  refine ow_val (val_nilCheck rfl) rfl ?_   -- 10
  refine ow_val (val_fieldAddr (m := 1) (e := 0) rfl Try.underlying70 rfl rfl Try.sizeOf67 rfl) rfl ?_   -- 11
  refine ow_defer rfl rfl ?_
  refine ow_nil (into ?_)
  refine sw_seq ?_
  refine sw_region ?_
  refine ow_val (val_move rfl) rfl ?_   -- 12
  refine ow_val (val_nilCheck rfl) rfl ?_   -- 13
  refine ow_val (val_fieldAddr (m := 0) (e := 4) rfl Try.underlying70 rfl rfl Try.sizeOf4 rfl) rfl ?_   -- 14
  refine ow_val (val_load_at 0 rfl rfl Try.isAgg4 rfl) rfl ?_   -- 15
  refine ow_val (val_assign rfl) rfl ?_   -- 2
  refine ow_nil (into ?_)
  exact sw_ret (fun w hm => retd_any _ (res_one rfl rfl) muLib 0 rfl hm rfl (fun w' hm' => ⟨rfl, hm'⟩))

theorem iClose_yes (w : World) (b : Nat) (a : Option Addr) (c : Nat) (xs : List Value) (e : Ent) (pl : Int) (hpl : 1 ≤ pl ∧ pl ≤ 64) (hrow : RowO (.slice a xs.length c) 3 xs e) (hle : xs.length < 9223372036854775807) (hm0 : Mem w (b :: keys [e]) [some (b, blk [Value.int .i32 0, Value.int .u32 0, vInt pl, .slice a xs.length c, Value.bool true] 70), e] w) : Calls Try.prog 25 #[.pointer (some ⟨b, 0, none⟩)] w fun en w' => ∃ u, en = .returned u ∧ u = vInt 9 ∧ Mem w (b :: keys [e]) [some (b, blk [Value.int .i32 0, Value.int .u32 0, vInt pl, .slice a xs.length c, Value.bool true] 70), e] w' := by
  refine calls_of_sw_d (vs := [.pointer (some ⟨b, 0, none⟩)]) Try.func25 rfl Try.ntmps25 rfl (SW.beginM hm0 ?_)
  refine sw_seq ?_
  refine sw_region ?_
  refine ow_val (val_assign rfl) rfl ?_   -- 2
  refine ow_nil (into ?_)
  refine sw_seq ?_
  refine sw_seq ?_
  refine sw_region ?_
  refine ow_val (val_move rfl) rfl ?_   -- 3
  refine ow_val (val_eql_nilptr Try.underlying24 rfl rfl) rfl ?_   -- 4
  refine ow_nil (into ?_)
  refine sw_false rfl rfl ?_
  refine sw_skip (into ?_)
  refine sw_seq ?_
  refine sw_region ?_
  refine ow_val (val_move rfl) rfl ?_   -- 5
  refine ow_val (val_nilCheck rfl) rfl ?_   -- 6
  refine ow_val (val_fieldAddr (m := 1) (e := 0) rfl Try.underlying70 rfl rfl Try.sizeOf67 rfl) rfl ?_   -- 7
  refine ow_call_turn 0 rfl (callsTo Try.func37 rfl (by kernel_rfl) rfl) rfl (fun w hm => lock_blk muLib (hm.at (i := 0) rfl)) ?_   -- 8
  refine ow_nil (into ?_)
  refine sw_seq ?_
  refine sw_region ?_
  refine ow_val (val_move rfl) rfl ?_   -- 9
  refine ow_val (val_nilCheck rfl) rfl ?_   -- 10
  refine ow_val (val_fieldAddr (m := 1) (e := 0) rfl Try.underlying70 rfl rfl Try.sizeOf67 rfl) rfl ?_   -- 11
  refine ow_defer rfl rfl ?_
  refine ow_nil (into ?_)
  refine sw_seq ?_
  refine sw_seq ?_
  refine sw_region ?_
  refine ow_val (val_move rfl) rfl ?_   -- 12
  refine ow_val (val_nilCheck rfl) rfl ?_   -- 13
  refine ow_val (val_fieldAddr (m := 0) (e := 4) rfl Try.underlying70 rfl rfl Try.sizeOf4 rfl) rfl ?_   -- 14
  refine ow_val (val_load_at 0 rfl rfl Try.isAgg4 rfl) rfl ?_   -- 15
  refine ow_nil (into ?_)
  refine sw_true rfl rfl ?_
  refine sw_seq ?_
  refine sw_region ?_
  refine ow_val (val_assign rfl) rfl ?_   -- 2
  refine ow_nil (into ?_)
  refine sw_ret (fun w hm => ?_)
  try dsimp only [thenP, blockP, Nat.beq, cond]
  exact retd_any _ (res_one rfl rfl) muLib 0 rfl hm rfl (fun w' hm' => ⟨rfl, hm'⟩)

theorem iClose_no (w : World) (b : Nat) (a : Option Addr) (c : Nat) (xs : List Value) (e : Ent) (pl : Int) (hpl : 1 ≤ pl ∧ pl ≤ 64) (hrow : RowO (.slice a xs.length c) 3 xs e) (hle : xs.length < 9223372036854775807) (hm0 : Mem w (b :: keys [e]) [some (b, blk [Value.int .i32 0, Value.int .u32 0, vInt pl, .slice a xs.length c, Value.bool false] 70), e] w) : Calls Try.prog 25 #[.pointer (some ⟨b, 0, none⟩)] w fun en w' => ∃ u, en = .returned u ∧ u = vInt 0 ∧ Mem w (b :: keys [e]) [some (b, blk [Value.int .i32 0, Value.int .u32 0, vInt pl, .slice a xs.length c, Value.bool true] 70), e] w' := by
  refine calls_of_sw_d (vs := [.pointer (some ⟨b, 0, none⟩)]) Try.func25 rfl Try.ntmps25 rfl (SW.beginM hm0 ?_)
  refine sw_seq ?_
  refine sw_region ?_
  refine ow_val (val_assign rfl) rfl ?_   -- 2
  refine ow_nil (into ?_)
  refine sw_seq ?_
  refine sw_seq ?_
  refine sw_region ?_
  refine ow_val (val_move rfl) rfl ?_   -- 3
  refine ow_val (val_eql_nilptr Try.underlying24 rfl rfl) rfl ?_   -- 4
  refine ow_nil (into ?_)
  refine sw_false rfl rfl ?_
  refine sw_skip (into ?_)
  refine sw_seq ?_
  refine sw_region ?_
  refine ow_val (val_move rfl) rfl ?_   -- 5
  refine ow_val (val_nilCheck rfl) rfl ?_   -- 6
  refine ow_val (val_fieldAddr (m := 1) (e := 0) rfl Try.underlying70 rfl rfl Try.sizeOf67 rfl) rfl ?_   -- 7
  refine ow_call_turn 0 rfl (callsTo Try.func37 rfl (by kernel_rfl) rfl) rfl (fun w hm => lock_blk muLib (hm.at (i := 0) rfl)) ?_   -- 8
  refine ow_nil (into ?_)
  refine sw_seq ?_
  refine sw_region ?_
  refine ow_val (val_move rfl) rfl ?_   -- 9
  refine ow_val (val_nilCheck rfl) rfl ?_   -- 10
  refine ow_val (val_fieldAddr (m := 1) (e := 0) rfl Try.underlying70 rfl rfl Try.sizeOf67 rfl) rfl ?_   -- 11
  refine ow_defer rfl rfl ?_
  refine ow_nil (into ?_)
  refine sw_seq ?_
  refine sw_seq ?_
  refine sw_region ?_
  refine ow_val (val_move rfl) rfl ?_   -- 12
  refine ow_val (val_nilCheck rfl) rfl ?_   -- 13
  refine ow_val (val_fieldAddr (m := 0) (e := 4) rfl Try.underlying70 rfl rfl Try.sizeOf4 rfl) rfl ?_   -- 14
  refine ow_val (val_load_at 0 rfl rfl Try.isAgg4 rfl) rfl ?_   -- 15
  refine ow_nil (into ?_)
  refine sw_false rfl rfl ?_
  refine sw_skip (into ?_)
  refine sw_seq ?_
  refine sw_region ?_
  refine ow_val (val_move rfl) rfl ?_   -- 16
  refine ow_val (val_nilCheck rfl) rfl ?_   -- 17
  refine ow_val (val_fieldAddr (m := 0) (e := 4) rfl Try.underlying70 rfl rfl Try.sizeOf4 rfl) rfl ?_   -- 18
  refine ow_do (does_store 0 rfl rfl rfl rfl Try.sizeOf4 (by simp; try omega)) (fun _ _ => ?_)
  refine ow_nil (into ?_)
  refine sw_seq ?_
  refine sw_region ?_
  refine ow_val (val_assign rfl) rfl ?_   -- 2
  refine ow_nil (into ?_)
  exact sw_ret (fun w hm => retd_any _ (res_one rfl rfl) muLib 0 rfl hm rfl (fun w' hm' => ⟨rfl, hm'⟩))

theorem iPut_shut (w : World) (b : Nat) (a : Option Addr) (c : Nat) (xs : List Value) (e : Ent) (pl : Int) (hpl : 1 ≤ pl ∧ pl ≤ 64) (hrow : RowO (.slice a xs.length c) 3 xs e) (hle : xs.length < 9223372036854775807) (hm0 : Mem w (b :: keys [e]) [some (b, blk [Value.int .i32 0, Value.int .u32 0, vInt pl, .slice a xs.length c, Value.bool true] 70), e] w) (z : Int) : Calls Try.prog 19 #[.pointer (some ⟨b, 0, none⟩), vInt z] w fun en w' => ∃ u, en = .returned u ∧ ∃ s : Option Addr × Nat × Ent, u = .tuple #[.bool false, vInt 9] ∧ RowO (.slice s.1 (xs).length s.2.1) 3 (xs) s.2.2 ∧ Mem w (b :: keys [e]) [some (b, blk [Value.int .i32 0, Value.int .u32 0, vInt pl, .slice s.1 (xs).length s.2.1, Value.bool true] 70), s.2.2] w' := by
  refine calls_of_sw_d (vs := [.pointer (some ⟨b, 0, none⟩), vInt z]) Try.func19 rfl Try.ntmps19 rfl (SW.beginM hm0 ?_)
  refine sw_seq ?_
  refine sw_region ?_
  refine ow_val (val_assign rfl) rfl ?_   -- 4
  refine ow_val (val_assign rfl) rfl ?_   -- 5
  refine ow_nil (into ?_)
  refine sw_seq ?_
  refine sw_seq ?_
  refine sw_region ?_
  refine ow_val (val_move rfl) rfl ?_   -- 7
  refine ow_val (val_eql_nilptr Try.underlying24 rfl rfl) rfl ?_   -- 8
  refine ow_nil (into ?_)
  refine sw_false rfl rfl ?_
  refine sw_skip (into ?_)
  refine sw_seq ?_
  refine sw_region ?_
  refine ow_val (val_move rfl) rfl ?_   -- 9
  refine ow_val (val_nilCheck rfl) rfl ?_   -- 10
  refine ow_val (val_fieldAddr (m := 1) (e := 0) rfl Try.underlying70 rfl rfl Try.sizeOf67 rfl) rfl ?_   -- 11
  refine ow_call_turn 0 rfl (callsTo Try.func37 rfl (by kernel_rfl) rfl) rfl (fun w hm => lock_blk muLib (hm.at (i := 0) rfl)) ?_   -- 12
  refine ow_nil (into ?_)
  refine sw_seq ?_
  refine sw_region ?_
  refine ow_val (val_move rfl) rfl ?_   -- 13
  refine ow_val (val_nilCheck rfl) rfl ?_   -- 14
  refine ow_val (val_fieldAddr (m := 1) (e := 0) rfl Try.underlying70 rfl rfl Try.sizeOf67 rfl) rfl ?_   -- 15
  refine ow_defer rfl rfl ?_
  refine ow_nil (into ?_)
  refine sw_seq ?_
  refine sw_seq ?_
  refine sw_region ?_
  refine ow_val (val_move rfl) rfl ?_   -- 16
  refine ow_val (val_nilCheck rfl) rfl ?_   -- 17
  refine ow_val (val_fieldAddr (m := 0) (e := 4) rfl Try.underlying70 rfl rfl Try.sizeOf4 rfl) rfl ?_   -- 18
  refine ow_val (val_load_at 0 rfl rfl Try.isAgg4 rfl) rfl ?_   -- 19
  refine ow_nil (into ?_)
  refine sw_true rfl rfl ?_
  refine sw_seq ?_
  refine sw_region ?_
  refine ow_val (val_assign rfl) rfl ?_   -- 4
  refine ow_val (val_assign rfl) rfl ?_   -- 5
  refine ow_nil (into ?_)
  refine sw_ret (fun w hm => ?_)
  try dsimp only [thenP, blockP, Nat.beq, cond]
  exact retd_any _ (res_two rfl rfl rfl) muLib 0 rfl hm rfl (fun w' hm' => ⟨(a, c, e), rfl, hrow, hm'⟩)

theorem iPut_open (w : World) (b : Nat) (a : Option Addr) (c : Nat) (xs : List Value) (e : Ent) (pl : Int) (hpl : 1 ≤ pl ∧ pl ≤ 64) (hrow : RowO (.slice a xs.length c) 3 xs e) (hle : xs.length < 9223372036854775807) (hm0 : Mem w (b :: keys [e]) [some (b, blk [Value.int .i32 0, Value.int .u32 0, vInt pl, .slice a xs.length c, Value.bool false] 70), e] w) (z : Int) (hbig : (xs.length + 1) * 8 ≤ 140737488355328) : Calls Try.prog 19 #[.pointer (some ⟨b, 0, none⟩), vInt z] w fun en w' => ∃ u, en = .returned u ∧ ∃ s : Option Addr × Nat × Ent, u = .tuple #[.bool (decide ((xs.length : Int) < pl)), vInt 0] ∧ RowO (.slice s.1 (xs ++ [(vInt z)]).length s.2.1) 3 (xs ++ [(vInt z)]) s.2.2 ∧ Mem w (b :: keys [e]) [some (b, blk [Value.int .i32 0, Value.int .u32 0, vInt pl, .slice s.1 (xs ++ [(vInt z)]).length s.2.1, Value.bool false] 70), s.2.2] w' := by
  obtain ⟨tiD, hDi, hDz, hDsz, hDby⟩ := info_parts iInt
  refine calls_of_sw_d (vs := [.pointer (some ⟨b, 0, none⟩), vInt z]) Try.func19 rfl Try.ntmps19 rfl (SW.beginM hm0 ?_)
  refine sw_seq ?_
  refine sw_region ?_
  refine ow_val (val_assign rfl) rfl ?_   -- 4
  refine ow_val (val_assign rfl) rfl ?_   -- 5
  refine ow_nil (into ?_)
  refine sw_seq ?_
  refine sw_seq ?_
  refine sw_region ?_
  refine ow_val (val_move rfl) rfl ?_   -- 7
  refine ow_val (val_eql_nilptr Try.underlying24 rfl rfl) rfl ?_   -- 8
  refine ow_nil (into ?_)
  refine sw_false rfl rfl ?_
  refine sw_skip (into ?_)
  refine sw_seq ?_
  refine sw_region ?_
  refine ow_val (val_move rfl) rfl ?_   -- 9
  refine ow_val (val_nilCheck rfl) rfl ?_   -- 10
  refine ow_val (val_fieldAddr (m := 1) (e := 0) rfl Try.underlying70 rfl rfl Try.sizeOf67 rfl) rfl ?_   -- 11
  refine ow_call_turn 0 rfl (callsTo Try.func37 rfl (by kernel_rfl) rfl) rfl (fun w hm => lock_blk muLib (hm.at (i := 0) rfl)) ?_   -- 12
  refine ow_nil (into ?_)
  refine sw_seq ?_
  refine sw_region ?_
  refine ow_val (val_move rfl) rfl ?_   -- 13
  refine ow_val (val_nilCheck rfl) rfl ?_   -- 14
  refine ow_val (val_fieldAddr (m := 1) (e := 0) rfl Try.underlying70 rfl rfl Try.sizeOf67 rfl) rfl ?_   -- 15
  refine ow_defer rfl rfl ?_
  refine ow_nil (into ?_)
  refine sw_seq ?_
  refine sw_seq ?_
  refine sw_region ?_
  refine ow_val (val_move rfl) rfl ?_   -- 16
  refine ow_val (val_nilCheck rfl) rfl ?_   -- 17
  refine ow_val (val_fieldAddr (m := 0) (e := 4) rfl Try.underlying70 rfl rfl Try.sizeOf4 rfl) rfl ?_   -- 18
  refine ow_val (val_load_at 0 rfl rfl Try.isAgg4 rfl) rfl ?_   -- 19
  refine ow_nil (into ?_)
  refine sw_false rfl rfl ?_
  refine sw_skip (into ?_)
  refine sw_seq ?_
  refine sw_region_lex _ [] [(0, 0), (1, 0), (2, 0), (5, 0), (6, 0), (7, 0), (3, 1), (4, 0), (8, 1), (9, 0), (10, 0)] (by kernel_rfl) (by kernel_rfl) (fun _ _ _ h => h) (fun _ h => h) (fun _ h => h.drawn _) ?_
  refine lw_pure rfl (val_move rfl) rfl ?_   -- 20
  refine lw_pure rfl (val_nilCheck rfl) rfl ?_   -- 21
  refine lw_pure rfl (val_fieldAddr (m := 0) (e := 3) rfl Try.underlying70 rfl rfl Try.sizeOf68 rfl) rfl ?_   -- 22
  refine lw_pure rfl (val_move rfl) rfl ?_   -- 25
  refine lw_pure rfl (val_nilCheck rfl) rfl ?_   -- 26
  refine lw_pure rfl (val_fieldAddr (m := 0) (e := 2) rfl Try.underlying70 rfl rfl Try.sizeOf3 rfl) rfl ?_   -- 27
  refine lw_held rfl (val_load_at 0 rfl rfl Try.isAgg68 rfl) rfl ?_   -- 23
  refine lw_pure rfl (val_len rfl Try.underlying68) rfl ?_   -- 24
  refine lw_held rfl (val_load_at 0 rfl rfl Try.isAgg3 rfl) rfl ?_   -- 28
  refine lw_pure rfl (val_lss_int rfl rfl) rfl ?_   -- 29
  refine lw_pure rfl (val_assign rfl) rfl ?_   -- 6
  refine lw_nil (into ?_)
  refine sw_seq ?_
  refine sw_region ?_
  refine ow_val (val_move rfl) rfl ?_   -- 30
  refine ow_val (val_move rfl) rfl ?_   -- 31
  refine ow_val (val_nilCheck rfl) rfl ?_   -- 32
  refine ow_val (val_fieldAddr (m := 0) (e := 3) rfl Try.underlying70 rfl rfl Try.sizeOf68 rfl) rfl ?_   -- 33
  refine ow_val (val_load_at 0 rfl rfl Try.isAgg68 rfl) rfl ?_   -- 34
  refine ow_val (val_move rfl) rfl ?_   -- 35
  refine ow_make (acts_buildSlice (cs := [(vInt z)]) Try.underlying68 Try.sizeOf3 Try.zeroValue3 rfl rfl (by kernel_rfl)) rfl (fun b36 hb36 => ?_)   -- 36
  refine ow_append_o (xs := xs ++ [(vInt z)]) (acts_append_o 2 rfl rfl rfl hrow rfl Try.underlying68 hDi hDz hDsz hDby rfl (by decide) (fun w hm => Rd.blk (hm.at (i := 0) rfl)) rfl (fun u hu => by rw [List.mem_singleton.1 hu]; rfl) (by omega) (by omega)) rfl (fun a37 c37 e37 hr37 => ?_)   -- 37
  refine ow_val (val_nilCheck rfl) rfl ?_   -- 38
  refine ow_val (val_fieldAddr (m := 0) (e := 3) rfl Try.underlying70 rfl rfl Try.sizeOf68 rfl) rfl ?_   -- 39
  refine ow_do (does_store 1 rfl rfl rfl rfl Try.sizeOf68 (by simp; try omega)) (fun _ _ => ?_)
  refine ow_nil (into ?_)
  refine sw_seq ?_
  refine sw_region ?_
  refine ow_val (val_move rfl) rfl ?_   -- 40
  refine ow_val (val_assign rfl) rfl ?_   -- 4
  refine ow_val (val_assign rfl) rfl ?_   -- 5
  refine ow_nil (into ?_)
  exact sw_ret (fun w hm => retd_any _ (res_two rfl rfl rfl) muLib 1 rfl hm rfl (fun w' hm' => ⟨(a37, c37, e37), rfl, hr37, hm'.only (.cons _ (List.Sublist.refl _))⟩))

theorem iTake_none (w : World) (cl : Bool) (b : Nat) (a : Option Addr) (c : Nat) (xs : List Value) (e : Ent) (pl : Int) (hpl : 1 ≤ pl ∧ pl ≤ 64) (hrow : RowO (.slice a xs.length c) 3 xs e) (hle : xs.length < 9223372036854775807) (hm0 : Mem w (b :: keys [e]) [some (b, blk [Value.int .i32 0, Value.int .u32 0, vInt pl, .slice a xs.length c, Value.bool cl] 70), e] w) (hx : xs = []) : Calls Try.prog 21 #[.pointer (some ⟨b, 0, none⟩)] w fun en w' => ∃ u, en = .returned u ∧ u = .tuple #[vInt 0, .bool false] ∧ Mem w (b :: keys [e]) [some (b, blk [Value.int .i32 0, Value.int .u32 0, vInt pl, .slice a xs.length c, Value.bool cl] 70), e] w' := by
  refine calls_of_sw_d (vs := [.pointer (some ⟨b, 0, none⟩)]) Try.func21 rfl Try.ntmps21 rfl (SW.beginM hm0 ?_)
  refine sw_seq ?_
  refine sw_region ?_
  refine ow_val (val_assign rfl) rfl ?_   -- 2
  refine ow_val (val_assign rfl) rfl ?_   -- 3
  refine ow_nil (into ?_)
  refine sw_seq ?_
  refine sw_region ?_
  refine ow_val (val_assign rfl) rfl ?_   -- 4
  refine ow_nil (into ?_)
  refine sw_seq ?_
  refine sw_seq ?_
  refine sw_region ?_
  refine ow_val (val_move rfl) rfl ?_   -- 6
  refine ow_val (val_eql_nilptr Try.underlying24 rfl rfl) rfl ?_   -- 7
  refine ow_nil (into ?_)
  refine sw_false rfl rfl ?_
  refine sw_skip (into ?_)
  refine sw_seq ?_
  refine sw_region ?_
  refine ow_val (val_move rfl) rfl ?_   -- 9
  refine ow_val (val_nilCheck rfl) rfl ?_   -- 10
  refine ow_val (val_fieldAddr (m := 1) (e := 0) rfl Try.underlying70 rfl rfl Try.sizeOf67 rfl) rfl ?_   -- 11
  refine ow_call_turn 0 rfl (callsTo Try.func37 rfl (by kernel_rfl) rfl) rfl (fun w hm => lock_blk muLib (hm.at (i := 0) rfl)) ?_   -- 12
  refine ow_nil (into ?_)
  refine sw_seq ?_
  refine sw_region ?_
  refine ow_val (val_move rfl) rfl ?_   -- 13
  refine ow_val (val_nilCheck rfl) rfl ?_   -- 14
  refine ow_val (val_fieldAddr (m := 1) (e := 0) rfl Try.underlying70 rfl rfl Try.sizeOf67 rfl) rfl ?_   -- 15
  refine ow_defer rfl rfl ?_
  refine ow_nil (into ?_)
  refine sw_seq ?_
  refine sw_seq ?_
  refine sw_region ?_
  refine ow_val (val_move rfl) rfl ?_   -- 16
  refine ow_val (val_nilCheck rfl) rfl ?_   -- 17
  refine ow_val (val_fieldAddr (m := 0) (e := 3) rfl Try.underlying70 rfl rfl Try.sizeOf68 rfl) rfl ?_   -- 18
  refine ow_val (val_load_at 0 rfl rfl Try.isAgg68 rfl) rfl ?_   -- 19
  refine ow_val (val_len rfl Try.underlying68) rfl ?_   -- 20
  refine ow_val ((val_eql_int rfl rfl).to (congrArg Value.bool (decide_eq_true ((by rw [hx]; rfl))))) rfl ?_   -- 21
  refine ow_nil (into ?_)
  refine sw_true rfl rfl ?_
  refine sw_seq ?_
  refine sw_region ?_
  refine ow_val (val_move rfl) rfl ?_   -- 22
  refine ow_val (val_assign rfl) rfl ?_   -- 2
  refine ow_val (val_assign rfl) rfl ?_   -- 3
  refine ow_nil (into ?_)
  refine sw_ret (fun w hm => ?_)
  try dsimp only [thenP, blockP, Nat.beq, cond]
  exact retd_any _ (res_two rfl rfl rfl) muLib 0 rfl hm rfl (fun w' hm' => ⟨rfl, hm'⟩)

theorem iTake_some (w : World) (cl : Bool) (b : Nat) (a : Option Addr) (c : Nat) (x : Value) (r : List Value) (e : Ent) (pl : Int) (hpl : 1 ≤ pl ∧ pl ≤ 64) (hrow : RowO (.slice a (x :: r).length c) 3 (x :: r) e) (hle : (x :: r).length < 9223372036854775807) (hm0 : Mem w (b :: keys [e]) [some (b, blk [Value.int .i32 0, Value.int .u32 0, vInt pl, .slice a (x :: r).length c, Value.bool cl] 70), e] w) : Calls Try.prog 21 #[.pointer (some ⟨b, 0, none⟩)] w fun en w' => ∃ u, en = .returned u ∧ ∃ s : Option Addr × Nat × Ent, u = .tuple #[x, .bool true] ∧ RowO (.slice s.1 r.length s.2.1) 3 r s.2.2 ∧ Mem w (b :: keys [e]) [some (b, blk [Value.int .i32 0, Value.int .u32 0, vInt pl, .slice s.1 r.length s.2.1, Value.bool cl] 70), s.2.2] w' := by
  obtain ⟨b2, pre, rest, rfl, -, hc, hcm, hcr, rfl⟩ := hrow.blk (by simp)
  simp only [List.length_cons] at hc hcr
  refine calls_of_sw_d (vs := [.pointer (some ⟨b, 0, none⟩)]) Try.func21 rfl Try.ntmps21 rfl (SW.beginM hm0 ?_)
  refine sw_seq ?_
  refine sw_region ?_
  refine ow_val (val_assign rfl) rfl ?_   -- 2
  refine ow_val (val_assign rfl) rfl ?_   -- 3
  refine ow_nil (into ?_)
  refine sw_seq ?_
  refine sw_region ?_
  refine ow_val (val_assign rfl) rfl ?_   -- 4
  refine ow_nil (into ?_)
  refine sw_seq ?_
  refine sw_seq ?_
  refine sw_region ?_
  refine ow_val (val_move rfl) rfl ?_   -- 6
  refine ow_val (val_eql_nilptr Try.underlying24 rfl rfl) rfl ?_   -- 7
  refine ow_nil (into ?_)
  refine sw_false rfl rfl ?_
  refine sw_skip (into ?_)
  refine sw_seq ?_
  refine sw_region ?_
  refine ow_val (val_move rfl) rfl ?_   -- 9
  refine ow_val (val_nilCheck rfl) rfl ?_   -- 10
  refine ow_val (val_fieldAddr (m := 1) (e := 0) rfl Try.underlying70 rfl rfl Try.sizeOf67 rfl) rfl ?_   -- 11
  refine ow_call_turn 0 rfl (callsTo Try.func37 rfl (by kernel_rfl) rfl) rfl (fun w hm => lock_blk muLib (hm.at (i := 0) rfl)) ?_   -- 12
  refine ow_nil (into ?_)
  refine sw_seq ?_
  refine sw_region ?_
  refine ow_val (val_move rfl) rfl ?_   -- 13
  refine ow_val (val_nilCheck rfl) rfl ?_   -- 14
  refine ow_val (val_fieldAddr (m := 1) (e := 0) rfl Try.underlying70 rfl rfl Try.sizeOf67 rfl) rfl ?_   -- 15
  refine ow_defer rfl rfl ?_
  refine ow_nil (into ?_)
  refine sw_seq ?_
  refine sw_seq ?_
  refine sw_region ?_
  refine ow_val (val_move rfl) rfl ?_   -- 16
  refine ow_val (val_nilCheck rfl) rfl ?_   -- 17
  refine ow_val (val_fieldAddr (m := 0) (e := 3) rfl Try.underlying70 rfl rfl Try.sizeOf68 rfl) rfl ?_   -- 18
  refine ow_val (val_load_at 0 rfl rfl Try.isAgg68 rfl) rfl ?_   -- 19
  refine ow_val (val_len rfl Try.underlying68) rfl ?_   -- 20
  refine ow_val ((val_eql_int rfl rfl).to (congrArg Value.bool (decide_eq_false ((by simp only [List.length_cons]; omega))))) rfl ?_   -- 21
  refine ow_nil (into ?_)
  refine sw_false rfl rfl ?_
  refine sw_skip (into ?_)
  refine sw_seq ?_
  refine sw_region ?_
  refine ow_val (val_move rfl) rfl ?_   -- 23
  refine ow_val (val_nilCheck rfl) rfl ?_   -- 24
  refine ow_val (val_fieldAddr (m := 0) (e := 3) rfl Try.underlying70 rfl rfl Try.sizeOf68 rfl) rfl ?_   -- 25
  refine ow_val (val_load_at 0 rfl rfl Try.isAgg68 rfl) rfl ?_   -- 26
  refine ow_val (val_indexAddr_slice 0 pre.length rfl rfl Try.underlying68 Try.sizeOf3 rfl (by simp) (by omega)) rfl ?_   -- 27
  refine ow_val (val_load_at 1 rfl rfl Try.isAgg3 qget) rfl ?_   -- 28
  refine ow_val (val_assign rfl) rfl ?_   -- 5
  refine ow_nil (into ?_)
  refine sw_seq ?_
  refine sw_region ?_
  refine ow_val (val_move rfl) rfl ?_   -- 29
  refine ow_val (val_nilCheck rfl) rfl ?_   -- 30
  refine ow_val (val_fieldAddr (m := 0) (e := 3) rfl Try.underlying70 rfl rfl Try.sizeOf68 rfl) rfl ?_   -- 31
  refine ow_val (val_load_at 0 rfl rfl Try.isAgg68 rfl) rfl ?_   -- 32
  refine ow_val (val_move rfl) rfl ?_   -- 33
  refine ow_val (val_indexAddr_slice 0 pre.length rfl rfl Try.underlying68 Try.sizeOf3 rfl (by simp) (by omega)) rfl ?_   -- 34
  refine ow_do (does_store 1 rfl rfl rfl rfl Try.sizeOf3 (by simp)) (fun _ _ => ?_)
  rw [qset]
  refine ow_nil (into ?_)
  refine sw_seq ?_
  refine sw_region ?_
  refine ow_val (val_move rfl) rfl ?_   -- 35
  refine ow_val (val_move rfl) rfl ?_   -- 36
  refine ow_val (val_nilCheck rfl) rfl ?_   -- 37
  refine ow_val (val_fieldAddr (m := 0) (e := 3) rfl Try.underlying70 rfl rfl Try.sizeOf68 rfl) rfl ?_   -- 38
  refine ow_val (val_load_at 0 rfl rfl Try.isAgg68 rfl) rfl ?_   -- 39
  refine ow_val (val_slice_lo 1 rfl rfl Try.underlying68 Try.sizeOf3 rfl (by simp) (by simpa using hc)) rfl ?_   -- 40
  refine ow_val (val_nilCheck rfl) rfl ?_   -- 41
  refine ow_val (val_fieldAddr (m := 0) (e := 3) rfl Try.underlying70 rfl rfl Try.sizeOf68 rfl) rfl ?_   -- 42
  refine ow_do (does_store 0 rfl rfl rfl rfl Try.sizeOf68 (by simp; try omega)) (fun _ _ => ?_)
  refine ow_nil (into ?_)
  refine sw_seq ?_
  refine sw_region ?_
  refine ow_val (val_move rfl) rfl ?_   -- 43
  refine ow_val (val_assign rfl) rfl ?_   -- 2
  refine ow_val (val_assign rfl) rfl ?_   -- 3
  refine ow_nil (into ?_)
  exact sw_ret (fun w hm => retd_any _ (res_two rfl rfl rfl) muLib 0 rfl hm rfl (fun w' hm' => ⟨(_, _, _), rfl, RowO.pop rfl hc hcm hcr, hm'⟩))

theorem bPut_nil (v : Value) (w : World) : Calls Try.prog 13 #[.pointer none, v] w fun e w' => ∃ v, e = .returned v ∧ v = .tuple #[.bool false, vInt 5] ∧ Mem w [] [] w' := by
  refine calls_of_sw_d (vs := [.pointer none, v]) Try.func13 rfl Try.ntmps13 rfl (SW.begin ?_)
  refine sw_seq ?_
  refine sw_region ?_
  refine ow_val (val_assign rfl) rfl ?_   -- 4
  refine ow_val (val_assign rfl) rfl ?_   -- 5
  refine ow_nil (into ?_)
  refine sw_seq ?_
  refine sw_seq ?_
  refine sw_region ?_
  refine ow_val (val_move rfl) rfl ?_   -- 7
  refine ow_val (val_eql_nilptr Try.underlying38 rfl rfl) rfl ?_   -- 8
  refine ow_nil (into ?_)
  refine sw_true rfl rfl ?_
  refine sw_seq ?_
  refine sw_region ?_
  refine ow_val (val_assign rfl) rfl ?_   -- 4
  refine ow_val (val_assign rfl) rfl ?_   -- 5
  refine ow_nil (into ?_)
  refine sw_ret (fun w hm => ?_)
  try dsimp only [thenP, blockP, Nat.beq, cond]
  exact retd_none _ (res_two rfl rfl rfl) ⟨rfl, hm⟩

theorem bTake_nil (w : World) : Calls Try.prog 15 #[.pointer none] w fun e w' => ∃ v, e = .returned v ∧ v = .tuple #[.slice none 0 0, .bool false] ∧ Mem w [] [] w' := by
  refine calls_of_sw_d (vs := [.pointer none]) Try.func15 rfl Try.ntmps15 rfl (SW.begin ?_)
  refine sw_seq ?_
  refine sw_region ?_
  refine ow_val (val_assign rfl) rfl ?_   -- 2
  refine ow_val (val_assign rfl) rfl ?_   -- 3
  refine ow_nil (into ?_)
  refine sw_seq ?_
  refine sw_region ?_
  refine ow_val (val_assign rfl) rfl ?_   -- 4
  refine ow_nil (into ?_)
  refine sw_seq ?_
  refine sw_seq ?_
  refine sw_region ?_
  refine ow_val (val_move rfl) rfl ?_   -- 6
  refine ow_val (val_eql_nilptr Try.underlying38 rfl rfl) rfl ?_   -- 7
  refine ow_nil (into ?_)
  refine sw_true rfl rfl ?_
  refine sw_seq ?_
  refine sw_region ?_
  refine ow_val (val_move rfl) rfl ?_   -- 8
  refine ow_val (val_assign rfl) rfl ?_   -- 2
  refine ow_val (val_assign rfl) rfl ?_   -- 3
  refine ow_nil (into ?_)
  refine sw_ret (fun w hm => ?_)
  try dsimp only [thenP, blockP, Nat.beq, cond]
  exact retd_none _ (res_two rfl rfl rfl) ⟨rfl, hm⟩

theorem bLen_nil (w : World) : Calls Try.prog 16 #[.pointer none] w fun e w' => ∃ v, e = .returned v ∧ v = vInt 0 ∧ Mem w [] [] w' := by
  refine calls_of_sw_d (vs := [.pointer none]) Try.func16 rfl Try.ntmps16 rfl (SW.begin ?_)
  refine sw_seq ?_
  refine sw_region ?_
  refine ow_val (val_assign rfl) rfl ?_   -- 2
  refine ow_nil (into ?_)
  refine sw_seq ?_
  refine sw_seq ?_
  refine sw_region ?_
  refine ow_val (val_move rfl) rfl ?_   -- 3
  refine ow_val (val_eql_nilptr Try.underlying38 rfl rfl) rfl ?_   -- 4
  refine ow_nil (into ?_)
  refine sw_true rfl rfl ?_
  refine sw_seq ?_
  refine sw_region ?_
  refine ow_val (val_assign rfl) rfl ?_   -- 2
  refine ow_nil (into ?_)
  refine sw_ret (fun w hm => ?_)
  try dsimp only [thenP, blockP, Nat.beq, cond]
  exact retd_none _ (res_one rfl rfl) ⟨rfl, hm⟩

theorem bLine_nil (w : World) : Calls Try.prog 14 #[.pointer none] w fun e w' => ∃ v, e = .returned v ∧ v = vInt 0 ∧ Mem w [] [] w' := by
  refine calls_of_sw_d (vs := [.pointer none]) Try.func14 rfl Try.ntmps14 rfl (SW.begin ?_)
  refine sw_seq ?_
  refine sw_region ?_
  refine ow_val (val_assign rfl) rfl ?_   -- 2
  refine ow_nil (into ?_)
  refine sw_seq ?_
  refine sw_seq ?_
  refine sw_region ?_
  refine ow_val (val_move rfl) rfl ?_   -- 3
  refine ow_val (val_eql_nilptr Try.underlying38 rfl rfl) rfl ?_   -- 4
  refine ow_nil (into ?_)
  refine sw_true rfl rfl ?_
  refine sw_seq ?_
  refine sw_region ?_
  refine ow_val (val_assign rfl) rfl ?_   -- 2
  refine ow_nil (into ?_)
  refine sw_ret (fun w hm => ?_)
  try dsimp only [thenP, blockP, Nat.beq, cond]
  exact retd_none _ (res_one rfl rfl) ⟨rfl, hm⟩

theorem bClose_nil (w : World) : Calls Try.prog 17 #[.pointer none] w fun e w' => ∃ v, e = .returned v ∧ v = vInt 5 ∧ Mem w [] [] w' := by
  refine calls_of_sw_d (vs := [.pointer none]) Try.func17 rfl Try.ntmps17 rfl (SW.begin ?_)
  refine sw_seq ?_
  refine sw_region ?_
  refine ow_val (val_assign rfl) rfl ?_   -- 2
  refine ow_nil (into ?_)
  refine sw_seq ?_
  refine sw_seq ?_
  refine sw_region ?_
  refine ow_val (val_move rfl) rfl ?_   -- 3
  refine ow_val (val_eql_nilptr Try.underlying38 rfl rfl) rfl ?_   -- 4
  refine ow_nil (into ?_)
  refine sw_true rfl rfl ?_
  refine sw_seq ?_
  refine sw_region ?_
  refine ow_val (val_assign rfl) rfl ?_   -- 2
  refine ow_nil (into ?_)
  refine sw_ret (fun w hm => ?_)
  try dsimp only [thenP, blockP, Nat.beq, cond]
  exact retd_none _ (res_one rfl rfl) ⟨rfl, hm⟩

theorem bLen_any (w : World) (cl : Bool) (b : Nat) (a : Option Addr) (c : Nat) (xs : List Value) (e : Ent) (pl : Int) (hpl : 1 ≤ pl ∧ pl ≤ 64) (hrow : RowO (.slice a xs.length c) 41 xs e) (hle : xs.length < 9223372036854775807) (hm0 : Mem w (b :: keys [e]) [some (b, blk [Value.int .i32 0, Value.int .u32 0, vInt pl, .slice a xs.length c, Value.bool cl] 79), e] w) : Calls Try.prog 16 #[.pointer (some ⟨b, 0, none⟩)] w fun en w' => ∃ u, en = .returned u ∧ u = vInt (min (xs.length : Int) pl) ∧ Mem w (b :: keys [e]) [some (b, blk [Value.int .i32 0, Value.int .u32 0, vInt pl, .slice a xs.length c, Value.bool cl] 79), e] w' := by
  refine calls_of_sw_d (vs := [.pointer (some ⟨b, 0, none⟩)]) Try.func16 rfl Try.ntmps16 rfl (SW.beginM hm0 ?_)
  refine sw_seq ?_
  refine sw_region ?_
  refine ow_val (val_assign rfl) rfl ?_   -- 2
  refine ow_nil (into ?_)
  refine sw_seq ?_
  refine sw_seq ?_
  refine sw_region ?_
  refine ow_val (val_move rfl) rfl ?_   -- 3
  refine ow_val (val_eql_nilptr Try.underlying38 rfl rfl) rfl ?_   -- 4
  refine ow_nil (into ?_)
  refine sw_false rfl rfl ?_
  refine sw_skip (into ?_)
  refine sw_seq ?_
  refine sw_region ?_
  refine ow_val (val_move rfl) rfl ?_   -- 5
  refine ow_val (val_nilCheck rfl) rfl ?_   -- 6
  refine ow_val (val_fieldAddr (m := 1) (e := 0) rfl Try.underlying79 rfl rfl Try.sizeOf67 rfl) rfl ?_   -- 7
  refine ow_call_turn 0 rfl (callsTo Try.func37 rfl (by kernel_rfl) rfl) rfl (fun w hm => lock_blk muLib (hm.at (i := 0) rfl)) ?_   -- 8
  refine ow_nil (into ?_)
  refine sw_seq ?_
  refine sw_region ?_
  refine ow_val (val_move rfl) rfl ?_   -- 9
  refine ow_val (val_nilCheck rfl) rfl ?_   -- 10
  refine ow_val (val_fieldAddr (m := 1) (e := 0) rfl Try.underlying79 rfl rfl Try.sizeOf67 rfl) rfl ?_   -- 11
  refine ow_defer rfl rfl ?_
  refine ow_nil (into ?_)
  refine sw_seq ?_
  refine sw_region_lex _ [] [(0, 0), (1, 0), (2, 0), (5, 0), (6, 0), (7, 0), (3, 1), (4, 0), (8, 1), (9, 0), (10, 0)] (by kernel_rfl) (by kernel_rfl) (fun _ _ _ h => h) (fun _ h => h) (fun _ h => h.drawn _) ?_
  refine lw_pure rfl (val_move rfl) rfl ?_   -- 12
  refine lw_pure rfl (val_nilCheck rfl) rfl ?_   -- 13
  refine lw_pure rfl (val_fieldAddr (m := 0) (e := 3) rfl Try.underlying79 rfl rfl Try.sizeOf36 rfl) rfl ?_   -- 14
  refine lw_pure rfl (val_move rfl) rfl ?_   -- 17
  refine lw_pure rfl (val_nilCheck rfl) rfl ?_   -- 18
  refine lw_pure rfl (val_fieldAddr (m := 0) (e := 2) rfl Try.underlying79 rfl rfl Try.sizeOf3 rfl) rfl ?_   -- 19
  refine lw_held rfl (val_load_at 0 rfl rfl Try.isAgg36 rfl) rfl ?_   -- 15
  refine lw_pure rfl (val_len rfl Try.underlying36) rfl ?_   -- 16
  refine lw_held rfl (val_load_at 0 rfl rfl Try.isAgg3 rfl) rfl ?_   -- 20
  refine lw_pure rfl (val_min rfl rfl) rfl ?_   -- 21
  refine lw_pure rfl (val_assign rfl) rfl ?_   -- 2
  refine lw_nil (into ?_)
  exact sw_ret (fun w hm => retd_any _ (res_one rfl rfl) muLib 0 rfl hm rfl (fun w' hm' => ⟨rfl, hm'⟩))

theorem bLine_any (w : World) (cl : Bool) (b : Nat) (a : Option Addr) (c : Nat) (xs : List Value) (e : Ent) (pl : Int) (hpl : 1 ≤ pl ∧ pl ≤ 64) (hrow : RowO (.slice a xs.length c) 41 xs e) (hle : xs.length < 9223372036854775807) (hm0 : Mem w (b :: keys [e]) [some (b, blk [Value.int .i32 0, Value.int .u32 0, vInt pl, .slice a xs.length c, Value.bool cl] 79), e] w) : Calls Try.prog 14 #[.pointer (some ⟨b, 0, none⟩)] w fun en w' => ∃ u, en = .returned u ∧ u = vInt (max 0 ((xs.length : Int) - pl)) ∧ Mem w (b :: keys [e]) [some (b, blk [Value.int .i32 0, Value.int .u32 0, vInt pl, .slice a xs.length c, Value.bool cl] 79), e] w' := by
  refine calls_of_sw_d (vs := [.pointer (some ⟨b, 0, none⟩)]) Try.func14 rfl Try.ntmps14 rfl (SW.beginM hm0 ?_)
  refine sw_seq ?_
  refine sw_region ?_
  refine ow_val (val_assign rfl) rfl ?_   -- 2
  refine ow_nil (into ?_)
  refine sw_seq ?_
  refine sw_seq ?_
  refine sw_region ?_
  refine ow_val (val_move rfl) rfl ?_   -- 3
  refine ow_val (val_eql_nilptr Try.underlying38 rfl rfl) rfl ?_   -- 4
  refine ow_nil (into ?_)
  refine sw_false rfl rfl ?_
  refine sw_skip (into ?_)
  refine sw_seq ?_
  refine sw_region ?_
  refine ow_val (val_move rfl) rfl ?_   -- 5
  refine ow_val (val_nilCheck rfl) rfl ?_   -- 6
  refine ow_val (val_fieldAddr (m := 1) (e := 0) rfl Try.underlying79 rfl rfl Try.sizeOf67 rfl) rfl ?_   -- 7
  refine ow_call_turn 0 rfl (callsTo Try.func37 rfl (by kernel_rfl) rfl) rfl (fun w hm => lock_blk muLib (hm.at (i := 0) rfl)) ?_   -- 8
  refine ow_nil (into ?_)
  refine sw_seq ?_
  refine sw_region ?_
  refine ow_val (val_move rfl) rfl ?_   -- 9
  refine ow_val (val_nilCheck rfl) rfl ?_   -- 10
  refine ow_val (val_fieldAddr (m := 1) (e := 0) rfl Try.underlying79 rfl rfl Try.sizeOf67 rfl) rfl ?_   -- 11
  refine ow_defer rfl rfl ?_
  refine ow_nil (into ?_)
  refine sw_seq ?_
  refine sw_region_lex _ [] [(0, 0), (1, 0), (2, 0), (5, 0), (6, 0), (7, 0), (3, 1), (4, 0), (8, 1), (9, 0), (10, 0), (11, 0)] (by kernel_rfl) (by kernel_rfl) (fun _ _ _ h => h) (fun _ h => h) (fun _ h => h.drawn _) ?_
  refine lw_pure rfl (val_move rfl) rfl ?_   -- 12
  refine lw_pure rfl (val_nilCheck rfl) rfl ?_   -- 13
  refine lw_pure rfl (val_fieldAddr (m := 0) (e := 3) rfl Try.underlying79 rfl rfl Try.sizeOf36 rfl) rfl ?_   -- 14
  refine lw_pure rfl (val_move rfl) rfl ?_   -- 17
  refine lw_pure rfl (val_nilCheck rfl) rfl ?_   -- 18
  refine lw_pure rfl (val_fieldAddr (m := 0) (e := 2) rfl Try.underlying79 rfl rfl Try.sizeOf3 rfl) rfl ?_   -- 19
  refine lw_held rfl (val_load_at 0 rfl rfl Try.isAgg36 rfl) rfl ?_   -- 15
  refine lw_pure rfl (val_len rfl Try.underlying36) rfl ?_   -- 16
  refine lw_held rfl (val_load_at 0 rfl rfl Try.isAgg3 rfl) rfl ?_   -- 20
  refine lw_pure rfl (val_sub_int ((xs.length : Int) - pl) rfl rfl rfl (by omega)) rfl ?_   -- 21
  refine lw_pure rfl (val_max rfl rfl) rfl ?_   -- 22
  refine lw_pure rfl (val_assign rfl) rfl ?_   -- 2
  refine lw_nil (into ?_)
  exact sw_ret (fun w hm => retd_any _ (res_one rfl rfl) muLib 0 rfl hm rfl (fun w' hm' => ⟨rfl, hm'⟩))

theorem bClose_yes (w : World) (b : Nat) (a : Option Addr) (c : Nat) (xs : List Value) (e : Ent) (pl : Int) (hpl : 1 ≤ pl ∧ pl ≤ 64) (hrow : RowO (.slice a xs.length c) 41 xs e) (hle : xs.length < 9223372036854775807) (hm0 : Mem w (b :: keys [e]) [some (b, blk [Value.int .i32 0, Value.int .u32 0, vInt pl, .slice a xs.length c, Value.bool true] 79), e] w) : Calls Try.prog 17 #[.pointer (some ⟨b, 0, none⟩)] w fun en w' => ∃ u, en = .returned u ∧ u = vInt 9 ∧ Mem w (b :: keys [e]) [some (b, blk [Value.int .i32 0, Value.int .u32 0, vInt pl, .slice a xs.length c, Value.bool true] 79), e] w' := by
  refine calls_of_sw_d (vs := [.pointer (some ⟨b, 0, none⟩)]) Try.func17 rfl Try.ntmps17 rfl (SW.beginM hm0 ?_)
  refine sw_seq ?_
  refine sw_region ?_
  refine ow_val (val_assign rfl) rfl ?_   -- 2
  refine ow_nil (into ?_)
  refine sw_seq ?_
  refine sw_seq ?_
  refine sw_region ?_
  refine ow_val (val_move rfl) rfl ?_   -- 3
  refine ow_val (val_eql_nilptr Try.underlying38 rfl rfl) rfl ?_   -- 4
  refine ow_nil (into ?_)
  refine sw_false rfl rfl ?_
  refine sw_skip (into ?_)
  refine sw_seq ?_
  refine sw_region ?_
  refine ow_val (val_move rfl) rfl ?_   -- 5
  refine ow_val (val_nilCheck rfl) rfl ?_   -- 6
  refine ow_val (val_fieldAddr (m := 1) (e := 0) rfl Try.underlying79 rfl rfl Try.sizeOf67 rfl) rfl ?_   -- 7
  refine ow_call_turn 0 rfl (callsTo Try.func37 rfl (by kernel_rfl) rfl) rfl (fun w hm => lock_blk muLib (hm.at (i := 0) rfl)) ?_   -- 8
  refine ow_nil (into ?_)
  refine sw_seq ?_
  refine sw_region ?_
  refine ow_val (val_move rfl) rfl ?_   -- 9
  refine ow_val (val_nilCheck rfl) rfl ?_   -- 10
  refine ow_val (val_fieldAddr (m := 1) (e := 0) rfl Try.underlying79 rfl rfl Try.sizeOf67 rfl) rfl ?_   -- 11
  refine ow_defer rfl rfl ?_
  refine ow_nil (into ?_)
  refine sw_seq ?_
  refine sw_seq ?_
  refine sw_region ?_
  refine ow_val (val_move rfl) rfl ?_   -- 12
  refine ow_val (val_nilCheck rfl) rfl ?_   -- 13
  refine ow_val (val_fieldAddr (m := 0) (e := 4) rfl Try.underlying79 rfl rfl Try.sizeOf4 rfl) rfl ?_   -- 14
  refine ow_val (val_load_at 0 rfl rfl Try.isAgg4 rfl) rfl ?_   -- 15
  refine ow_nil (into ?_)
  refine sw_true rfl rfl ?_
  refine sw_seq ?_
  refine sw_region ?_
  refine ow_val (val_assign rfl) rfl ?_   -- 2
  refine ow_nil (into ?_)
  refine sw_ret (fun w hm => ?_)
  try dsimp only [thenP, blockP, Nat.beq, cond]
  exact retd_any _ (res_one rfl rfl) muLib 0 rfl hm rfl (fun w' hm' => ⟨rfl, hm'⟩)

theorem bClose_no (w : World) (b : Nat) (a : Option Addr) (c : Nat) (xs : List Value) (e : Ent) (pl : Int) (hpl : 1 ≤ pl ∧ pl ≤ 64) (hrow : RowO (.slice a xs.length c) 41 xs e) (hle : xs.length < 9223372036854775807) (hm0 : Mem w (b :: keys [e]) [some (b, blk [Value.int .i32 0, Value.int .u32 0, vInt pl, .slice a xs.length c, Value.bool false] 79), e] w) : Calls Try.prog 17 #[.pointer (some ⟨b, 0, none⟩)] w fun en w' => ∃ u, en = .returned u ∧ u = vInt 0 ∧ Mem w (b :: keys [e]) [some (b, blk [Value.int .i32 0, Value.int .u32 0, vInt pl, .slice a xs.length c, Value.bool true] 79), e] w' := by
  refine calls_of_sw_d (vs := [.pointer (some ⟨b, 0, none⟩)]) Try.func17 rfl Try.ntmps17 rfl (SW.beginM hm0 ?_)
  refine sw_seq ?_
  refine sw_region ?_
  refine ow_val (val_assign rfl) rfl ?_   -- 2
  refine ow_nil (into ?_)
  refine sw_seq ?_
  refine sw_seq ?_
  refine sw_region ?_
  refine ow_val (val_move rfl) rfl ?_   -- 3
  refine ow_val (val_eql_nilptr Try.underlying38 rfl rfl) rfl ?_   -- 4
  refine ow_nil (into ?_)
  refine sw_false rfl rfl ?_
  refine sw_skip (into ?_)
  refine sw_seq ?_
  refine sw_region ?_
  refine ow_val (val_move rfl) rfl ?_   -- 5
  refine ow_val (val_nilCheck rfl) rfl ?_   -- 6
  refine ow_val (val_fieldAddr (m := 1) (e := 0) rfl Try.underlying79 rfl rfl Try.sizeOf67 rfl) rfl ?_   -- 7
  refine ow_call_turn 0 rfl (callsTo Try.func37 rfl (by kernel_rfl) rfl) rfl (fun w hm => lock_blk muLib (hm.at (i := 0) rfl)) ?_   -- 8
  refine ow_nil (into ?_)
  refine sw_seq ?_
  refine sw_region ?_
  refine ow_val (val_move rfl) rfl ?_   -- 9
  refine ow_val (val_nilCheck rfl) rfl ?_   -- 10
  refine ow_val (val_fieldAddr (m := 1) (e := 0) rfl Try.underlying79 rfl rfl Try.sizeOf67 rfl) rfl ?_   -- 11
  refine ow_defer rfl rfl ?_
  refine ow_nil (into ?_)
  refine sw_seq ?_
  refine sw_seq ?_
  refine sw_region ?_
  refine ow_val (val_move rfl) rfl ?_   -- 12
  refine ow_val (val_nilCheck rfl) rfl ?_   -- 13
  refine ow_val (val_fieldAddr (m := 0) (e := 4) rfl Try.underlying79 rfl rfl Try.sizeOf4 rfl) rfl ?_   -- 14
  refine ow_val (val_load_at 0 rfl rfl Try.isAgg4 rfl) rfl ?_   -- 15
  refine ow_nil (into ?_)
  refine sw_false rfl rfl ?_
  refine sw_skip (into ?_)
  refine sw_seq ?_
  refine sw_region ?_
  refine ow_val (val_move rfl) rfl ?_   -- 16
  refine ow_val (val_nilCheck rfl) rfl ?_   -- 17
  refine ow_val (val_fieldAddr (m := 0) (e := 4) rfl Try.underlying79 rfl rfl Try.sizeOf4 rfl) rfl ?_   -- 18
  refine ow_do (does_store 0 rfl rfl rfl rfl Try.sizeOf4 (by simp; try omega)) (fun _ _ => ?_)
  refine ow_nil (into ?_)
  refine sw_seq ?_
  refine sw_region ?_
  refine ow_val (val_assign rfl) rfl ?_   -- 2
  refine ow_nil (into ?_)
  exact sw_ret (fun w hm => retd_any _ (res_one rfl rfl) muLib 0 rfl hm rfl (fun w' hm' => ⟨rfl, hm'⟩))

theorem bPut_shut (w : World) (b : Nat) (a : Option Addr) (c : Nat) (xs : List Value) (e : Ent) (pl : Int) (hpl : 1 ≤ pl ∧ pl ≤ 64) (hrow : RowO (.slice a xs.length c) 41 xs e) (hle : xs.length < 9223372036854775807) (hm0 : Mem w (b :: keys [e]) [some (b, blk [Value.int .i32 0, Value.int .u32 0, vInt pl, .slice a xs.length c, Value.bool true] 79), e] w) (av : Option Addr) (kv cv : Nat) : Calls Try.prog 13 #[.pointer (some ⟨b, 0, none⟩), Value.slice av kv cv] w fun en w' => ∃ u, en = .returned u ∧ ∃ s : Option Addr × Nat × Ent, u = .tuple #[.bool false, vInt 9] ∧ RowO (.slice s.1 (xs).length s.2.1) 41 (xs) s.2.2 ∧ Mem w (b :: keys [e]) [some (b, blk [Value.int .i32 0, Value.int .u32 0, vInt pl, .slice s.1 (xs).length s.2.1, Value.bool true] 79), s.2.2] w' := by
  refine calls_of_sw_d (vs := [.pointer (some ⟨b, 0, none⟩), Value.slice av kv cv]) Try.func13 rfl Try.ntmps13 rfl (SW.beginM hm0 ?_)
  refine sw_seq ?_
  refine sw_region ?_
  refine ow_val (val_assign rfl) rfl ?_   -- 4
  refine ow_val (val_assign rfl) rfl ?_   -- 5
  refine ow_nil (into ?_)
  refine sw_seq ?_
  refine sw_seq ?_
  refine sw_region ?_
  refine ow_val (val_move rfl) rfl ?_   -- 7
  refine ow_val (val_eql_nilptr Try.underlying38 rfl rfl) rfl ?_   -- 8
  refine ow_nil (into ?_)
  refine sw_false rfl rfl ?_
  refine sw_skip (into ?_)
  refine sw_seq ?_
  refine sw_region ?_
  refine ow_val (val_move rfl) rfl ?_   -- 9
  refine ow_val (val_nilCheck rfl) rfl ?_   -- 10
  refine ow_val (val_fieldAddr (m := 1) (e := 0) rfl Try.underlying79 rfl rfl Try.sizeOf67 rfl) rfl ?_   -- 11
  refine ow_call_turn 0 rfl (callsTo Try.func37 rfl (by kernel_rfl) rfl) rfl (fun w hm => lock_blk muLib (hm.at (i := 0) rfl)) ?_   -- 12
  refine ow_nil (into ?_)
  refine sw_seq ?_
  refine sw_region ?_
  refine ow_val (val_move rfl) rfl ?_   -- 13
  refine ow_val (val_nilCheck rfl) rfl ?_   -- 14
  refine ow_val (val_fieldAddr (m := 1) (e := 0) rfl Try.underlying79 rfl rfl Try.sizeOf67 rfl) rfl ?_   -- 15
  refine ow_defer rfl rfl ?_
  refine ow_nil (into ?_)
  refine sw_seq ?_
  refine sw_seq ?_
  refine sw_region ?_
  refine ow_val (val_move rfl) rfl ?_   -- 16
  refine ow_val (val_nilCheck rfl) rfl ?_   -- 17
  refine ow_val (val_fieldAddr (m := 0) (e := 4) rfl Try.underlying79 rfl rfl Try.sizeOf4 rfl) rfl ?_   -- 18
  refine ow_val (val_load_at 0 rfl rfl Try.isAgg4 rfl) rfl ?_   -- 19
  refine ow_nil (into ?_)
  refine sw_true rfl rfl ?_
  refine sw_seq ?_
  refine sw_region ?_
  refine ow_val (val_assign rfl) rfl ?_   -- 4
  refine ow_val (val_assign rfl) rfl ?_   -- 5
  refine ow_nil (into ?_)
  refine sw_ret (fun w hm => ?_)
  try dsimp only [thenP, blockP, Nat.beq, cond]
  exact retd_any _ (res_two rfl rfl rfl) muLib 0 rfl hm rfl (fun w' hm' => ⟨(a, c, e), rfl, hrow, hm'⟩)

theorem bPut_open (w : World) (b : Nat) (a : Option Addr) (c : Nat) (xs : List Value) (e : Ent) (pl : Int) (hpl : 1 ≤ pl ∧ pl ≤ 64) (hrow : RowO (.slice a xs.length c) 41 xs e) (hle : xs.length < 9223372036854775807) (hm0 : Mem w (b :: keys [e]) [some (b, blk [Value.int .i32 0, Value.int .u32 0, vInt pl, .slice a xs.length c, Value.bool false] 79), e] w) (av : Option Addr) (kv cv : Nat) (hbig : (xs.length + 1) * 24 ≤ 140737488355328) : Calls Try.prog 13 #[.pointer (some ⟨b, 0, none⟩), Value.slice av kv cv] w fun en w' => ∃ u, en = .returned u ∧ ∃ s : Option Addr × Nat × Ent, u = .tuple #[.bool (decide ((xs.length : Int) < pl)), vInt 0] ∧ RowO (.slice s.1 (xs ++ [(Value.slice av kv cv)]).length s.2.1) 41 (xs ++ [(Value.slice av kv cv)]) s.2.2 ∧ Mem w (b :: keys [e]) [some (b, blk [Value.int .i32 0, Value.int .u32 0, vInt pl, .slice s.1 (xs ++ [(Value.slice av kv cv)]).length s.2.1, Value.bool false] 79), s.2.2] w' := by
  obtain ⟨tiD, hDi, hDz, hDsz, hDby⟩ := info_parts iSl
  refine calls_of_sw_d (vs := [.pointer (some ⟨b, 0, none⟩), Value.slice av kv cv]) Try.func13 rfl Try.ntmps13 rfl (SW.beginM hm0 ?_)
  refine sw_seq ?_
  refine sw_region ?_
  refine ow_val (val_assign rfl) rfl ?_   -- 4
  refine ow_val (val_assign rfl) rfl ?_   -- 5
  refine ow_nil (into ?_)
  refine sw_seq ?_
  refine sw_seq ?_
  refine sw_region ?_
  refine ow_val (val_move rfl) rfl ?_   -- 7
  refine ow_val (val_eql_nilptr Try.underlying38 rfl rfl) rfl ?_   -- 8
  refine ow_nil (into ?_)
  refine sw_false rfl rfl ?_
  refine sw_skip (into ?_)
  refine sw_seq ?_
  refine sw_region ?_
  refine ow_val (val_move rfl) rfl ?_   -- 9
  refine ow_val (val_nilCheck rfl) rfl ?_   -- 10
  refine ow_val (val_fieldAddr (m := 1) (e := 0) rfl Try.underlying79 rfl rfl Try.sizeOf67 rfl) rfl ?_   -- 11
  refine ow_call_turn 0 rfl (callsTo Try.func37 rfl (by kernel_rfl) rfl) rfl (fun w hm => lock_blk muLib (hm.at (i := 0) rfl)) ?_   -- 12
  refine ow_nil (into ?_)
  refine sw_seq ?_
  refine sw_region ?_
  refine ow_val (val_move rfl) rfl ?_   -- 13
  refine ow_val (val_nilCheck rfl) rfl ?_   -- 14
  refine ow_val (val_fieldAddr (m := 1) (e := 0) rfl Try.underlying79 rfl rfl Try.sizeOf67 rfl) rfl ?_   -- 15
  refine ow_defer rfl rfl ?_
  refine ow_nil (into ?_)
  refine sw_seq ?_
  refine sw_seq ?_
  refine sw_region ?_
  refine ow_val (val_move rfl) rfl ?_   -- 16
  refine ow_val (val_nilCheck rfl) rfl ?_   -- 17
  refine ow_val (val_fieldAddr (m := 0) (e := 4) rfl Try.underlying79 rfl rfl Try.sizeOf4 rfl) rfl ?_   -- 18
  refine ow_val (val_load_at 0 rfl rfl Try.isAgg4 rfl) rfl ?_   -- 19
  refine ow_nil (into ?_)
  refine sw_false rfl rfl ?_
  refine sw_skip (into ?_)
  refine sw_seq ?_
  refine sw_region_lex _ [] [(0, 0), (1, 0), (2, 0), (5, 0), (6, 0), (7, 0), (3, 1), (4, 0), (8, 1), (9, 0), (10, 0)] (by kernel_rfl) (by kernel_rfl) (fun _ _ _ h => h) (fun _ h => h) (fun _ h => h.drawn _) ?_
  refine lw_pure rfl (val_move rfl) rfl ?_   -- 20
  refine lw_pure rfl (val_nilCheck rfl) rfl ?_   -- 21
  refine lw_pure rfl (val_fieldAddr (m := 0) (e := 3) rfl Try.underlying79 rfl rfl Try.sizeOf36 rfl) rfl ?_   -- 22
  refine lw_pure rfl (val_move rfl) rfl ?_   -- 25
  refine lw_pure rfl (val_nilCheck rfl) rfl ?_   -- 26
  refine lw_pure rfl (val_fieldAddr (m := 0) (e := 2) rfl Try.underlying79 rfl rfl Try.sizeOf3 rfl) rfl ?_   -- 27
  refine lw_held rfl (val_load_at 0 rfl rfl Try.isAgg36 rfl) rfl ?_   -- 23
  refine lw_pure rfl (val_len rfl Try.underlying36) rfl ?_   -- 24
  refine lw_held rfl (val_load_at 0 rfl rfl Try.isAgg3 rfl) rfl ?_   -- 28
  refine lw_pure rfl (val_lss_int rfl rfl) rfl ?_   -- 29
  refine lw_pure rfl (val_assign rfl) rfl ?_   -- 6
  refine lw_nil (into ?_)
  refine sw_seq ?_
  refine sw_region ?_
  refine ow_val (val_move rfl) rfl ?_   -- 30
  refine ow_val (val_move rfl) rfl ?_   -- 31
  refine ow_val (val_nilCheck rfl) rfl ?_   -- 32
  refine ow_val (val_fieldAddr (m := 0) (e := 3) rfl Try.underlying79 rfl rfl Try.sizeOf36 rfl) rfl ?_   -- 33
  refine ow_val (val_load_at 0 rfl rfl Try.isAgg36 rfl) rfl ?_   -- 34
  refine ow_val (val_move rfl) rfl ?_   -- 35
  refine ow_make (acts_buildSlice (cs := [(Value.slice av kv cv)]) Try.underlying36 Try.sizeOf41 Try.zeroValue41 rfl rfl (by kernel_rfl)) rfl (fun b36 hb36 => ?_)   -- 36
  refine ow_append_o (xs := xs ++ [(Value.slice av kv cv)]) (acts_append_o 2 rfl rfl rfl hrow rfl Try.underlying36 hDi hDz hDsz hDby rfl (by decide) (fun w hm => Rd.blk (hm.at (i := 0) rfl)) rfl (fun u hu => by rw [List.mem_singleton.1 hu]; rfl) (by omega) (by omega)) rfl (fun a37 c37 e37 hr37 => ?_)   -- 37
  refine ow_val (val_nilCheck rfl) rfl ?_   -- 38
  refine ow_val (val_fieldAddr (m := 0) (e := 3) rfl Try.underlying79 rfl rfl Try.sizeOf36 rfl) rfl ?_   -- 39
  refine ow_do (does_store 1 rfl rfl rfl rfl Try.sizeOf36 (by simp; try omega)) (fun _ _ => ?_)
  refine ow_nil (into ?_)
  refine sw_seq ?_
  refine sw_region ?_
  refine ow_val (val_move rfl) rfl ?_   -- 40
  refine ow_val (val_assign rfl) rfl ?_   -- 4
  refine ow_val (val_assign rfl) rfl ?_   -- 5
  refine ow_nil (into ?_)
  exact sw_ret (fun w hm => retd_any _ (res_two rfl rfl rfl) muLib 1 rfl hm rfl (fun w' hm' => ⟨(a37, c37, e37), rfl, hr37, hm'.only (.cons _ (List.Sublist.refl _))⟩))

theorem bTake_none (w : World) (cl : Bool) (b : Nat) (a : Option Addr) (c : Nat) (xs : List Value) (e : Ent) (pl : Int) (hpl : 1 ≤ pl ∧ pl ≤ 64) (hrow : RowO (.slice a xs.length c) 41 xs e) (hle : xs.length < 9223372036854775807) (hm0 : Mem w (b :: keys [e]) [some (b, blk [Value.int .i32 0, Value.int .u32 0, vInt pl, .slice a xs.length c, Value.bool cl] 79), e] w) (hx : xs = []) : Calls Try.prog 15 #[.pointer (some ⟨b, 0, none⟩)] w fun en w' => ∃ u, en = .returned u ∧ u = .tuple #[.slice none 0 0, .bool false] ∧ Mem w (b :: keys [e]) [some (b, blk [Value.int .i32 0, Value.int .u32 0, vInt pl, .slice a xs.length c, Value.bool cl] 79), e] w' := by
  refine calls_of_sw_d (vs := [.pointer (some ⟨b, 0, none⟩)]) Try.func15 rfl Try.ntmps15 rfl (SW.beginM hm0 ?_)
  refine sw_seq ?_
  refine sw_region ?_
  refine ow_val (val_assign rfl) rfl ?_   -- 2
  refine ow_val (val_assign rfl) rfl ?_   -- 3
  refine ow_nil (into ?_)
  refine sw_seq ?_
  refine sw_region ?_
  refine ow_val (val_assign rfl) rfl ?_   -- 4
  refine ow_nil (into ?_)
  refine sw_seq ?_
  refine sw_seq ?_
  refine sw_region ?_
  refine ow_val (val_move rfl) rfl ?_   -- 6
  refine ow_val (val_eql_nilptr Try.underlying38 rfl rfl) rfl ?_   -- 7
  refine ow_nil (into ?_)
  refine sw_false rfl rfl ?_
  refine sw_skip (into ?_)
  refine sw_seq ?_
  refine sw_region ?_
  refine ow_val (val_move rfl) rfl ?_   -- 9
  refine ow_val (val_nilCheck rfl) rfl ?_   -- 10
  refine ow_val (val_fieldAddr (m := 1) (e := 0) rfl Try.underlying79 rfl rfl Try.sizeOf67 rfl) rfl ?_   -- 11
  refine ow_call_turn 0 rfl (callsTo Try.func37 rfl (by kernel_rfl) rfl) rfl (fun w hm => lock_blk muLib (hm.at (i := 0) rfl)) ?_   -- 12
  refine ow_nil (into ?_)
  refine sw_seq ?_
  refine sw_region ?_
  refine ow_val (val_move rfl) rfl ?_   -- 13
  refine ow_val (val_nilCheck rfl) rfl ?_   -- 14
  refine ow_val (val_fieldAddr (m := 1) (e := 0) rfl Try.underlying79 rfl rfl Try.sizeOf67 rfl) rfl ?_   -- 15
  refine ow_defer rfl rfl ?_
  refine ow_nil (into ?_)
  refine sw_seq ?_
  refine sw_seq ?_
  refine sw_region ?_
  refine ow_val (val_move rfl) rfl ?_   -- 16
  refine ow_val (val_nilCheck rfl) rfl ?_   -- 17
  refine ow_val (val_fieldAddr (m := 0) (e := 3) rfl Try.underlying79 rfl rfl Try.sizeOf36 rfl) rfl ?_   -- 18
  refine ow_val (val_load_at 0 rfl rfl Try.isAgg36 rfl) rfl ?_   -- 19
  refine ow_val (val_len rfl Try.underlying36) rfl ?_   -- 20
  refine ow_val ((val_eql_int rfl rfl).to (congrArg Value.bool (decide_eq_true ((by rw [hx]; rfl))))) rfl ?_   -- 21
  refine ow_nil (into ?_)
  refine sw_true rfl rfl ?_
  refine sw_seq ?_
  refine sw_region ?_
  refine ow_val (val_move rfl) rfl ?_   -- 22
  refine ow_val (val_assign rfl) rfl ?_   -- 2
  refine ow_val (val_assign rfl) rfl ?_   -- 3
  refine ow_nil (into ?_)
  refine sw_ret (fun w hm => ?_)
  try dsimp only [thenP, blockP, Nat.beq, cond]
  exact retd_any _ (res_two rfl rfl rfl) muLib 0 rfl hm rfl (fun w' hm' => ⟨rfl, hm'⟩)

theorem bTake_some (w : World) (cl : Bool) (b : Nat) (a : Option Addr) (c : Nat) (x : Value) (r : List Value) (e : Ent) (pl : Int) (hpl : 1 ≤ pl ∧ pl ≤ 64) (hrow : RowO (.slice a (x :: r).length c) 41 (x :: r) e) (hle : (x :: r).length < 9223372036854775807) (hm0 : Mem w (b :: keys [e]) [some (b, blk [Value.int .i32 0, Value.int .u32 0, vInt pl, .slice a (x :: r).length c, Value.bool cl] 79), e] w) : Calls Try.prog 15 #[.pointer (some ⟨b, 0, none⟩)] w fun en w' => ∃ u, en = .returned u ∧ ∃ s : Option Addr × Nat × Ent, u = .tuple #[x, .bool true] ∧ RowO (.slice s.1 r.length s.2.1) 41 r s.2.2 ∧ Mem w (b :: keys [e]) [some (b, blk [Value.int .i32 0, Value.int .u32 0, vInt pl, .slice s.1 r.length s.2.1, Value.bool cl] 79), s.2.2] w' := by
  obtain ⟨b2, pre, rest, rfl, -, hc, hcm, hcr, rfl⟩ := hrow.blk (by simp)
  simp only [List.length_cons] at hc hcr
  refine calls_of_sw_d (vs := [.pointer (some ⟨b, 0, none⟩)]) Try.func15 rfl Try.ntmps15 rfl (SW.beginM hm0 ?_)
  refine sw_seq ?_
  refine sw_region ?_
  refine ow_val (val_assign rfl) rfl ?_   -- 2
  refine ow_val (val_assign rfl) rfl ?_   -- 3
  refine ow_nil (into ?_)
  refine sw_seq ?_
  refine sw_region ?_
  refine ow_val (val_assign rfl) rfl ?_   -- 4
  refine ow_nil (into ?_)
  refine sw_seq ?_
  refine sw_seq ?_
  refine sw_region ?_
  refine ow_val (val_move rfl) rfl ?_   -- 6
  refine ow_val (val_eql_nilptr Try.underlying38 rfl rfl) rfl ?_   -- 7
  refine ow_nil (into ?_)
  refine sw_false rfl rfl ?_
  refine sw_skip (into ?_)
  refine sw_seq ?_
  refine sw_region ?_
  refine ow_val (val_move rfl) rfl ?_   -- 9
  refine ow_val (val_nilCheck rfl) rfl ?_   -- 10
  refine ow_val (val_fieldAddr (m := 1) (e := 0) rfl Try.underlying79 rfl rfl Try.sizeOf67 rfl) rfl ?_   -- 11
  refine ow_call_turn 0 rfl (callsTo Try.func37 rfl (by kernel_rfl) rfl) rfl (fun w hm => lock_blk muLib (hm.at (i := 0) rfl)) ?_   -- 12
  refine ow_nil (into ?_)
  refine sw_seq ?_
  refine sw_region ?_
  refine ow_val (val_move rfl) rfl ?_   -- 13
  refine ow_val (val_nilCheck rfl) rfl ?_   -- 14
  refine ow_val (val_fieldAddr (m := 1) (e := 0) rfl Try.underlying79 rfl rfl Try.sizeOf67 rfl) rfl ?_   -- 15
  refine ow_defer rfl rfl ?_
  refine ow_nil (into ?_)
  refine sw_seq ?_
  refine sw_seq ?_
  refine sw_region ?_
  refine ow_val (val_move rfl) rfl ?_   -- 16
  refine ow_val (val_nilCheck rfl) rfl ?_   -- 17
  refine ow_val (val_fieldAddr (m := 0) (e := 3) rfl Try.underlying79 rfl rfl Try.sizeOf36 rfl) rfl ?_   -- 18
  refine ow_val (val_load_at 0 rfl rfl Try.isAgg36 rfl) rfl ?_   -- 19
  refine ow_val (val_len rfl Try.underlying36) rfl ?_   -- 20
  refine ow_val ((val_eql_int rfl rfl).to (congrArg Value.bool (decide_eq_false ((by simp only [List.length_cons]; omega))))) rfl ?_   -- 21
  refine ow_nil (into ?_)
  refine sw_false rfl rfl ?_
  refine sw_skip (into ?_)
  refine sw_seq ?_
  refine sw_region ?_
  refine ow_val (val_move rfl) rfl ?_   -- 23
  refine ow_val (val_nilCheck rfl) rfl ?_   -- 24
  refine ow_val (val_fieldAddr (m := 0) (e := 3) rfl Try.underlying79 rfl rfl Try.sizeOf36 rfl) rfl ?_   -- 25
  refine ow_val (val_load_at 0 rfl rfl Try.isAgg36 rfl) rfl ?_   -- 26
  refine ow_val (val_indexAddr_slice 0 pre.length rfl rfl Try.underlying36 Try.sizeOf41 rfl (by simp) (by omega)) rfl ?_   -- 27
  refine ow_val (val_load_at 1 rfl rfl Try.isAgg41 qget) rfl ?_   -- 28
  refine ow_val (val_assign rfl) rfl ?_   -- 5
  refine ow_nil (into ?_)
  refine sw_seq ?_
  refine sw_region ?_
  refine ow_val (val_move rfl) rfl ?_   -- 29
  refine ow_val (val_nilCheck rfl) rfl ?_   -- 30
  refine ow_val (val_fieldAddr (m := 0) (e := 3) rfl Try.underlying79 rfl rfl Try.sizeOf36 rfl) rfl ?_   -- 31
  refine ow_val (val_load_at 0 rfl rfl Try.isAgg36 rfl) rfl ?_   -- 32
  refine ow_val (val_move rfl) rfl ?_   -- 33
  refine ow_val (val_indexAddr_slice 0 pre.length rfl rfl Try.underlying36 Try.sizeOf41 rfl (by simp) (by omega)) rfl ?_   -- 34
  refine ow_do (does_store 1 rfl rfl rfl rfl Try.sizeOf41 (by simp)) (fun _ _ => ?_)
  rw [qset]
  refine ow_nil (into ?_)
  refine sw_seq ?_
  refine sw_region ?_
  refine ow_val (val_move rfl) rfl ?_   -- 35
  refine ow_val (val_move rfl) rfl ?_   -- 36
  refine ow_val (val_nilCheck rfl) rfl ?_   -- 37
  refine ow_val (val_fieldAddr (m := 0) (e := 3) rfl Try.underlying79 rfl rfl Try.sizeOf36 rfl) rfl ?_   -- 38
  refine ow_val (val_load_at 0 rfl rfl Try.isAgg36 rfl) rfl ?_   -- 39
  refine ow_val (val_slice_lo 1 rfl rfl Try.underlying36 Try.sizeOf41 rfl (by simp) (by simpa using hc)) rfl ?_   -- 40
  refine ow_val (val_nilCheck rfl) rfl ?_   -- 41
  refine ow_val (val_fieldAddr (m := 0) (e := 3) rfl Try.underlying79 rfl rfl Try.sizeOf36 rfl) rfl ?_   -- 42
  refine ow_do (does_store 0 rfl rfl rfl rfl Try.sizeOf36 (by simp; try omega)) (fun _ _ => ?_)
  refine ow_nil (into ?_)
  refine sw_seq ?_
  refine sw_region ?_
  refine ow_val (val_move rfl) rfl ?_   -- 43
  refine ow_val (val_assign rfl) rfl ?_   -- 2
  refine ow_val (val_assign rfl) rfl ?_   -- 3
  refine ow_nil (into ?_)
  exact sw_ret (fun w hm => retd_any _ (res_two rfl rfl rfl) muLib 0 rfl hm rfl (fun w' hm' => ⟨(_, _, _), rfl, RowO.pop rfl hc hcm hcr, hm'⟩))

theorem sPut_nil (v : Value) (w : World) : Calls Try.prog 20 #[.pointer none, v] w fun e w' => ∃ v, e = .returned v ∧ v = .tuple #[.bool false, vInt 5] ∧ Mem w [] [] w' := by
  refine calls_of_sw_d (vs := [.pointer none, v]) Try.func20 rfl Try.ntmps20 rfl (SW.begin ?_)
  refine sw_seq ?_
  refine sw_region ?_
  refine ow_val (val_assign rfl) rfl ?_   -- 4
  refine ow_val (val_assign rfl) rfl ?_   -- 5
  refine ow_nil (into ?_)
  refine sw_seq ?_
  refine sw_seq ?_
  refine sw_region ?_
  refine ow_val (val_move rfl) rfl ?_   -- 7
  refine ow_val (val_eql_nilptr Try.underlying50 rfl rfl) rfl ?_   -- 8
  refine ow_nil (into ?_)
  refine sw_true rfl rfl ?_
  refine sw_seq ?_
  refine sw_region ?_
  refine ow_val (val_assign rfl) rfl ?_   -- 4
  refine ow_val (val_assign rfl) rfl ?_   -- 5
  refine ow_nil (into ?_)
  refine sw_ret (fun w hm => ?_)
  try dsimp only [thenP, blockP, Nat.beq, cond]
  exact retd_none _ (res_two rfl rfl rfl) ⟨rfl, hm⟩

theorem sTake_nil (w : World) : Calls Try.prog 22 #[.pointer none] w fun e w' => ∃ v, e = .returned v ∧ v = .tuple #[.string ⟨#[]⟩, .bool false] ∧ Mem w [] [] w' := by
  refine calls_of_sw_d (vs := [.pointer none]) Try.func22 rfl Try.ntmps22 rfl (SW.begin ?_)
  refine sw_seq ?_
  refine sw_region ?_
  refine ow_val (val_assign rfl) rfl ?_   -- 2
  refine ow_val (val_assign rfl) rfl ?_   -- 3
  refine ow_nil (into ?_)
  refine sw_seq ?_
  refine sw_region ?_
  refine ow_val (val_assign rfl) rfl ?_   -- 4
  refine ow_nil (into ?_)
  refine sw_seq ?_
  refine sw_seq ?_
  refine sw_region ?_
  refine ow_val (val_move rfl) rfl ?_   -- 6
  refine ow_val (val_eql_nilptr Try.underlying50 rfl rfl) rfl ?_   -- 7
  refine ow_nil (into ?_)
  refine sw_true rfl rfl ?_
  refine sw_seq ?_
  refine sw_region ?_
  refine ow_val (val_move rfl) rfl ?_   -- 8
  refine ow_val (val_assign rfl) rfl ?_   -- 2
  refine ow_val (val_assign rfl) rfl ?_   -- 3
  refine ow_nil (into ?_)
  refine sw_ret (fun w hm => ?_)
  try dsimp only [thenP, blockP, Nat.beq, cond]
  exact retd_none _ (res_two rfl rfl rfl) ⟨rfl, hm⟩

theorem sLen_nil (w : World) : Calls Try.prog 27 #[.pointer none] w fun e w' => ∃ v, e = .returned v ∧ v = vInt 0 ∧ Mem w [] [] w' := by
  refine calls_of_sw_d (vs := [.pointer none]) Try.func27 rfl Try.ntmps27 rfl (SW.begin ?_)
  refine sw_seq ?_
  refine sw_region ?_
  refine ow_val (val_assign rfl) rfl ?_   -- 2
  refine ow_nil (into ?_)
  refine sw_seq ?_
  refine sw_seq ?_
  refine sw_region ?_
  refine ow_val (val_move rfl) rfl ?_   -- 3
  refine ow_val (val_eql_nilptr Try.underlying50 rfl rfl) rfl ?_   -- 4
  refine ow_nil (into ?_)
  refine sw_true rfl rfl ?_
  refine sw_seq ?_
  refine sw_region ?_
  refine ow_val (val_assign rfl) rfl ?_   -- 2
  refine ow_nil (into ?_)
  refine sw_ret (fun w hm => ?_)
  try dsimp only [thenP, blockP, Nat.beq, cond]
  exact retd_none _ (res_one rfl rfl) ⟨rfl, hm⟩

theorem sLine_nil (w : World) : Calls Try.prog 28 #[.pointer none] w fun e w' => ∃ v, e = .returned v ∧ v = vInt 0 ∧ Mem w [] [] w' := by
  refine calls_of_sw_d (vs := [.pointer none]) Try.func28 rfl Try.ntmps28 rfl (SW.begin ?_)
  refine sw_seq ?_
  refine sw_region ?_
  refine ow_val (val_assign rfl) rfl ?_   -- 2
  refine ow_nil (into ?_)
  refine sw_seq ?_
  refine sw_seq ?_
  refine sw_region ?_
  refine ow_val (val_move rfl) rfl ?_   -- 3
  refine ow_val (val_eql_nilptr Try.underlying50 rfl rfl) rfl ?_   -- 4
  refine ow_nil (into ?_)
  refine sw_true rfl rfl ?_
  refine sw_seq ?_
  refine sw_region ?_
  refine ow_val (val_assign rfl) rfl ?_   -- 2
  refine ow_nil (into ?_)
  refine sw_ret (fun w hm => ?_)
  try dsimp only [thenP, blockP, Nat.beq, cond]
  exact retd_none _ (res_one rfl rfl) ⟨rfl, hm⟩

theorem sClose_nil (w : World) : Calls Try.prog 29 #[.pointer none] w fun e w' => ∃ v, e = .returned v ∧ v = vInt 5 ∧ Mem w [] [] w' := by
  refine calls_of_sw_d (vs := [.pointer none]) Try.func29 rfl Try.ntmps29 rfl (SW.begin ?_)
  refine sw_seq ?_
  refine sw_region ?_
  refine ow_val (val_assign rfl) rfl ?_   -- 2
  refine ow_nil (into ?_)
  refine sw_seq ?_
  refine sw_seq ?_
  refine sw_region ?_
  refine ow_val (val_move rfl) rfl ?_   -- 3
  refine ow_val (val_eql_nilptr Try.underlying50 rfl rfl) rfl ?_   -- 4
  refine ow_nil (into ?_)
  refine sw_true rfl rfl ?_
  refine sw_seq ?_
  refine sw_region ?_
  refine ow_val (val_assign rfl) rfl ?_   -- 2
  refine ow_nil (into ?_)
  refine sw_ret (fun w hm => ?_)
  try dsimp only [thenP, blockP, Nat.beq, cond]
  exact retd_none _ (res_one rfl rfl) ⟨rfl, hm⟩

theorem sClosed_nil (w : World) : Calls Try.prog 30 #[.pointer none] w fun e w' => ∃ v, e = .returned v ∧ v = .bool false ∧ Mem w [] [] w' := by
  refine calls_of_sw_d (vs := [.pointer none]) Try.func30 rfl Try.ntmps30 rfl (SW.begin ?_)
  refine sw_seq ?_
  refine sw_region ?_
  refine ow_val (val_assign rfl) rfl ?_   -- 2
  refine ow_nil (into ?_)
  refine sw_seq ?_
  refine sw_seq ?_
  refine sw_region ?_
  refine ow_val (val_move rfl) rfl ?_   -- 3
  refine ow_val (val_eql_nilptr Try.underlying50 rfl rfl) rfl ?_   -- 4
  refine ow_nil (into ?_)
  refine sw_true rfl rfl ?_
  refine sw_seq ?_
  refine sw_region ?_
  refine ow_val (val_assign rfl) rfl ?_   -- 2
  refine ow_nil (into ?_)
  refine sw_ret (fun w hm => ?_)
  try dsimp only [thenP, blockP, Nat.beq, cond]
  exact retd_none _ (res_one rfl rfl) ⟨rfl, hm⟩
end Go.Proofs.Ytigogbodobifdaa
