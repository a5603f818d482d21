import Derived.Test.YtigogbodobifdaaQ8
import Derived.Test.YtigogbodobifdaaProg
set_option linter.unusedVariables false
set_option linter.unusedSimpArgs false
namespace Go.Proofs.Ytigogbodobifdaa
open Go.Sx
theorem acts_o_cast {P : Program} {n : Nat} {F : Fr} {M : World → Prop} {op : Op} {ty E : TypeId} {idx : Nat} {xs xs' : List Value} {w0 : World} {olds : List Nat} {m : List Ent}
    (h : Acts P n F M op ty (fun _ u w' => ∃ e', RowO u E xs e' ∧ Mem w0 olds (upd m idx e') w')) (hx : xs = xs') : Acts P n F M op ty (fun _ u w' => ∃ e', RowO u E xs' e' ∧ Mem w0 olds (upd m idx e') w') := by
  subst hx; exact h
/-- What stands in the queue: of the first i what was not taken. -/
def oX (l : List (Sl UInt8)) (i g : Nat) : List Value := ((l.take i).drop g).map Sl.v
def oP (l : List (Sl UInt8)) (i : Nat) : List Value := (l.take i).map Sl.v
theorem oX_len {l : List (Sl UInt8)} {i g : Nat} (h : i ≤ l.length) : (oX l i g).length = i - g := by
  rw [oX, List.length_map, List.length_drop, List.length_take]; omega
theorem oP_len {l : List (Sl UInt8)} {i : Nat} (h : i ≤ l.length) : (oP l i).length = i := by
  rw [oP, List.length_map, List.length_take]; omega
theorem oP_put {l : List (Sl UInt8)} {i : Nat} (h : i < l.length) : oP l i ++ [Sl.v (l.getD i default)] = oP l (i + 1) := by
  rw [oP, oP, List.take_succ_eq_append_getElem h, List.map_append, List.getD_eq_getElem?_getD, List.getElem?_eq_getElem h]; rfl
theorem oX_put {l : List (Sl UInt8)} {i g : Nat} (hg : g ≤ i) (h : i < l.length) : oX l i g ++ [Sl.v (l.getD i default)] = oX l (i + 1) g := by
  rw [oX, oX, List.take_succ_eq_append_getElem h, List.drop_append_of_le_length (by rw [List.length_take]; omega), List.map_append, List.getD_eq_getElem?_getD, List.getElem?_eq_getElem h]; rfl
theorem oX_take {l : List (Sl UInt8)} {i g : Nat} (hg : g < i) (h : i ≤ l.length) : oX l i g = Sl.v (l.getD g default) :: oX l i (g + 1) := by
  have h1 : g < (l.take i).length := by rw [List.length_take]; omega
  rw [oX, oX, List.drop_eq_getElem_cons h1, List.map_cons, List.getElem_take, List.getD_eq_getElem?_getD, List.getElem?_eq_getElem (by omega)]; rfl
theorem oP_all (l : List (Sl UInt8)) : oP l l.length = l.map Sl.v := by rw [oP, List.take_length]
theorem tcases (ts : List Bool) (i : Nat) : (i < ts.length ∧ ts.getD i default = true) ∨ (i < ts.length ∧ ts.getD i default = false) ∨ ¬ i < ts.length := by
  by_cases h : i < ts.length
  · cases h2 : ts.getD i default
    · exact .inr (.inl ⟨h, rfl⟩)
    · exact .inl ⟨h, rfl⟩
  · exact .inr (.inr h)
theorem oX_nil {l : List (Sl UInt8)} {i g : Nat} (hg : ¬ g < i) : oX l i g = [] := by
  rw [oX, List.drop_eq_nil_of_le (by rw [List.length_take]; omega)]; rfl
theorem order_no (pl : Int) (hw : ¬ (1 ≤ pl ∧ pl ≤ 64)) (w : World) (av : Option Addr) (cv : Nat) (l : List (Sl UInt8)) (hr1 : Rd w av (l.map Sl.v)) (hc1 : l.length ≤ cv) (hb1 : l.length * 24 ≤ 140737488351232) (he : ∀ s ∈ l, Rd w s.a (s.xs.map vU8) ∧ s.xs.length < 9223372036854775807) (at_ : Option Addr) (ct : Nat) (ts : List Bool) (hr2 : Rd w at_ (ts.map Value.bool)) (hc2 : ts.length ≤ ct) (hb2 : ts.length < 9223372036854775807) : Calls Try.prog 5 #[vInt pl, .slice av l.length cv, .slice at_ ts.length ct] w fun e w' => ∃ v, e = .returned v ∧ v = .bool true ∧ Mem w [] [] w' := by
  refine calls_of_sw (vs := [vInt pl, .slice av l.length cv, .slice at_ ts.length ct]) Try.func5 rfl Try.ntmps5 rfl (SW.begin ?_)
  refine sw_seq ?_
  refine sw_region ?_
  refine ow_val (val_assign rfl) rfl ?_   -- 6
  refine ow_nil (into ?_)
  refine sw_seq ?_
  refine sw_seq ?_
  refine sw_region ?_
  refine ow_call_pure (v := .bool true) (callsTo Try.func8 rfl (by kernel_rfl) rfl) rfl (fun w hm => awake_any w) ?_   -- 21
  refine ow_val (val_not rfl) rfl ?_   -- 22
  refine ow_nil (into ?_)
  refine sw_false rfl rfl ?_
  refine sw_skip (into ?_)
  refine sw_seq ?_
  refine sw_region ?_
  refine ow_val (val_move rfl) rfl ?_   -- 24
  refine ow_call_pure (v := .tuple #[.pointer none, vInt 1]) (callsTo Try.func12 rfl (by kernel_rfl) rfl) rfl (fun w hm => bNew_no w pl hw) ?_   -- 25
  refine ow_val (val_move rfl) rfl ?_   -- 23
  refine ow_val (val_extract rfl rfl) rfl ?_   -- 26
  refine ow_val (val_extract rfl rfl) rfl ?_   -- 27
  refine ow_val (val_assign rfl) rfl ?_   -- 7
  refine ow_val (val_assign rfl) rfl ?_   -- 8
  refine ow_nil (into ?_)
  refine sw_seq ?_
  refine sw_seq ?_
  refine sw_region ?_
  refine ow_val (val_move rfl) rfl ?_   -- 28
  refine ow_val ((val_neq_int rfl rfl).to (v' := .bool true) (congrArg Value.bool (decide_eq_true (by simp)))) rfl ?_   -- 29
  refine ow_nil (into ?_)
  refine sw_true rfl rfl ?_
  refine sw_seq ?_
  refine sw_region ?_
  refine ow_val (val_move rfl) rfl ?_   -- 30
  refine ow_val ((val_eql_int rfl rfl).to (v' := .bool true) (congrArg Value.bool (decide_eq_true rfl))) rfl ?_   -- 31
  refine ow_val (val_move rfl) rfl ?_   -- 32
  refine ow_guard_yes rfl rfl rfl ?_
  refine ow_val (val_move rfl) rfl ?_   -- 33
  refine ow_guard_yes rfl rfl rfl ?_
  refine ow_val (val_eql_nilptr Try.underlying38 rfl rfl) rfl ?_   -- 34
  refine ow_val (val_pick_true rfl rfl) rfl ?_   -- 35
  refine ow_val (val_assign rfl) rfl ?_   -- 6
  refine ow_nil (into ?_)
  refine sw_ret (fun w hm => ?_)
  try dsimp only [thenP, blockP, Nat.beq, cond]
  exact ret_one _ rfl rfl ⟨rfl, hm.forgetAll⟩

theorem order_yes (pl : Int) (hpl : 1 ≤ pl ∧ pl ≤ 64) (w : World) (av : Option Addr) (cv : Nat) (l : List (Sl UInt8)) (hr1 : Rd w av (l.map Sl.v)) (hc1 : l.length ≤ cv) (hb1 : l.length * 24 ≤ 140737488351232) (he : ∀ s ∈ l, Rd w s.a (s.xs.map vU8) ∧ s.xs.length < 9223372036854775807) (at_ : Option Addr) (ct : Nat) (ts : List Bool) (hr2 : Rd w at_ (ts.map Value.bool)) (hc2 : ts.length ≤ ct) (hb2 : ts.length < 9223372036854775807) : Calls Try.prog 5 #[vInt pl, .slice av l.length cv, .slice at_ ts.length ct] w fun e w' => ∃ v, e = .returned v ∧ v = .bool true ∧ Mem w [] [] w' := by
  obtain ⟨tiD, hDi, hDz, hDsz, hDby⟩ := info_parts iSl
  have hlm : l.length < 9223372036854775807 := by omega
  refine calls_of_sw (vs := [vInt pl, .slice av l.length cv, .slice at_ ts.length ct]) Try.func5 rfl Try.ntmps5 rfl (SW.begin ?_)
  refine sw_seq ?_
  refine sw_region ?_
  refine ow_val (val_assign rfl) rfl ?_   -- 6
  refine ow_nil (into ?_)
  refine sw_seq ?_
  refine sw_seq ?_
  refine sw_region ?_
  refine ow_call_pure (v := .bool true) (callsTo Try.func8 rfl (by kernel_rfl) rfl) rfl (fun w hm => awake_any w) ?_   -- 21
  refine ow_val (val_not rfl) rfl ?_   -- 22
  refine ow_nil (into ?_)
  refine sw_false rfl rfl ?_
  refine sw_skip (into ?_)
  refine sw_seq ?_
  refine sw_region ?_
  refine ow_val (val_move rfl) rfl ?_   -- 24
  refine ow_call_blk (fun q => .tuple #[.pointer (some ⟨q, 0, none⟩), vInt 0]) (callsTo Try.func12 rfl (by kernel_rfl) rfl) rfl (fun w hm => bNew_yes w pl hpl) (fun q hq => ?_)   -- 25
  refine ow_place ?_
  refine ow_place ?_
  refine ow_place ?_
  refine ow_val (val_move rfl) rfl ?_   -- 23
  refine ow_val (val_extract rfl rfl) rfl ?_   -- 26
  refine ow_val (val_extract rfl rfl) rfl ?_   -- 27
  refine ow_val (val_assign rfl) rfl ?_   -- 7
  refine ow_val (val_assign rfl) rfl ?_   -- 8
  refine ow_nil (into ?_)
  refine sw_seq ?_
  refine sw_seq ?_
  refine sw_region ?_
  refine ow_val (val_move rfl) rfl ?_   -- 28
  refine ow_val ((val_neq_int rfl rfl).to (v' := .bool false) (congrArg Value.bool (decide_eq_false (fun h => h rfl)))) rfl ?_   -- 29
  refine ow_nil (into ?_)
  refine sw_false rfl rfl ?_
  refine sw_skip (into ?_)
  refine sw_seq ?_
  refine sw_region ?_
  refine ow_val (val_assign rfl) rfl ?_   -- 9
  refine ow_val (val_assign rfl) rfl ?_   -- 10
  refine ow_nil (into ?_)
  refine sw_seq ?_
  refine sw_seq ?_
  refine sw_region ?_
  refine ow_val (val_move rfl) rfl ?_   -- 36
  refine ow_val (val_len rfl Try.underlying36) rfl ?_   -- 37
  refine ow_val (val_move rfl) rfl ?_   -- 38
  refine ow_nil (into ?_)
  refine sw_block ?_
  refine sw_loop (σ := Nat × Nat × (Option Addr × Nat × Ent) × (Option Addr × Nat × Ent) × Option Addr × Nat × Ent) (fun t => t.1 ≤ l.length ∧ t.2.1 ≤ t.1 ∧ RowO (.slice t.2.2.1.1 (oX l t.1 t.2.1).length t.2.2.1.2.1) 41 (oX l t.1 t.2.1) t.2.2.1.2.2 ∧ RowO (.slice t.2.2.2.1.1 (oP l t.1).length t.2.2.2.1.2.1) 41 (oP l t.1) t.2.2.2.1.2.2 ∧ RowO (.slice t.2.2.2.2.1 (oP l t.2.1).length t.2.2.2.2.2.1) 41 (oP l t.2.1) t.2.2.2.2.2.2) (fun t => [(38, vInt (t.1 : Int)), (37, vInt (l.length : Int)), (36, .slice av l.length cv), (9, .slice t.2.2.2.1.1 (oP l t.1).length t.2.2.2.1.2.1), (10, .slice t.2.2.2.2.1 (oP l t.2.1).length t.2.2.2.2.2.1), (7, .pointer (some ⟨q, 0, none⟩)), (2, .slice at_ ts.length ct), (0, vInt pl)]) (fun t => Mem w [] [t.2.2.2.2.2.2, t.2.2.2.1.2.2, t.2.2.1.2.2, some (q, blk [Value.int .i32 0, Value.int .u32 0, vInt pl, .slice t.2.2.1.1 (oX l t.1 t.2.1).length t.2.2.1.2.1, Value.bool false] 79)]) (fun t => l.length - t.1) (0, 0, (none, 0, none), (none, 0, none), (none, 0, none)) ⟨Nat.zero_le _, Nat.le_refl _, RowO.nil _, RowO.nil _, RowO.nil _⟩ ⟨rfl, rfl, rfl, rfl, rfl, rfl, rfl, rfl, rfl⟩ (fun w hm => hm) ?_
  rintro ⟨i, g, ⟨a, c, e⟩, ⟨a9, c9, e9⟩, ⟨a10, c10, e10⟩⟩ ⟨hi, hg, hrow, h9, h10⟩
  simp only at hi hg hrow h9 h10 ⊢
  have hxl : (oX l i g).length = i - g := oX_len hi
  have h9l : (oP l i).length = i := oP_len hi
  have h10l : (oP l g).length = g := oP_len (by omega)
  refine sw_seq ?_
  refine sw_region ?_
  refine ow_val (val_lss_int rfl rfl) rfl ?_   -- 39
  refine ow_nil (into ?_)
  refine sw_seq ?_
  refine sw_if rfl (fun h0 => ?_) (fun h0 => ?_)
  · -- then
    obtain ⟨bv, ov, rfl⟩ := hr1.addr (by rw [List.length_map]; omega)
    obtain ⟨z1, hs⟩ : ∃ z, l.getD i default = z := ⟨_, rfl⟩
    have hil : i < l.length := by omega
    have hxp : oX l i g ++ [Value.slice z1.a z1.xs.length z1.c] = oX l (i + 1) g := by rw [← oX_put hg hil, hs]; rfl
    have hpp : oP l i ++ [Value.slice z1.a z1.xs.length z1.c] = oP l (i + 1) := by rw [← oP_put hil, hs]; rfl
    have hxn : (oX l (i + 1) g).length = i + 1 - g := oX_len hil
    have h9n : (oP l (i + 1)).length = i + 1 := oP_len hil
    have hb : decide (((oX l i g).length : Int) < pl) = decide (max 0 (((oX l (i + 1) g).length : Int) - pl) = 0) := decide_eq_decide.2 (by omega)
    refine sw_skip (into ?_)
    refine sw_seq ?_
    refine sw_block ?_
    refine sw_seq ?_
    refine sw_region ?_
    refine ow_val (val_move rfl) rfl ?_   -- 40
    refine ow_val (val_indexAddr_slice i (ov + i * 1) rfl rfl Try.underlying36 Try.sizeOf41 (by omega) (by omega) (by omega)) rfl ?_   -- 41
    refine ow_val ((val_load (v := Sl.v (l.getD i default)) rfl Try.isAgg41 (fun w' hm => Rd.get (V := Sl.v) (p := l) (k := i) (hr1.mem hm) (by omega) (by omega))).to (v' := Value.slice z1.a z1.xs.length z1.c) (by rw [hs]; rfl)) rfl ?_   -- 42
    refine ow_val (val_assign rfl) rfl ?_   -- 11
    refine ow_val (val_assign rfl) rfl ?_   -- 12
    refine ow_nil (into ?_)
    refine sw_seq ?_
    refine sw_region ?_
    refine ow_val (val_move rfl) rfl ?_   -- 44
    refine ow_val (val_move rfl) rfl ?_   -- 45
    refine ow_call_two' (σ := Option Addr × Nat × Ent) (fun _ => .tuple #[.bool (decide (((oX l i g).length : Int) < pl)), vInt 0]) (fun s => blk [Value.int .i32 0, Value.int .u32 0, vInt pl, .slice s.1 (oX l (i + 1) g).length s.2.1, Value.bool false] 79) (fun s => s.2.2) (fun s => RowO (.slice s.1 (oX l (i + 1) g).length s.2.1) 41 (oX l (i + 1) g) s.2.2) (fun s => [e10, e9, s.2.2, some (q, blk [Value.int .i32 0, Value.int .u32 0, vInt pl, .slice s.1 (oX l (i + 1) g).length s.2.1, Value.bool false] 79)]) 3 2 rfl rfl (by decide) (fun _ => rfl) (callsTo Try.func13 rfl (by kernel_rfl) rfl) rfl (fun w hm hm2 => (by have h := bPut_open w q a c (oX l i g) e pl hpl hrow (by omega) hm2 z1.a z1.xs.length z1.c (by omega); rw [hxp] at h; exact h)) ?_   -- 46
    rintro ⟨a46, c46, e46⟩ hr46
    simp only at hr46 ⊢
    refine ow_val (val_move rfl) rfl ?_   -- 43
    refine ow_val (val_extract rfl rfl) rfl ?_   -- 47
    refine ow_val (val_extract rfl rfl) rfl ?_   -- 48
    refine ow_val (val_assign rfl) rfl ?_   -- 13
    refine ow_val (val_assign rfl) rfl ?_   -- 14
    refine ow_nil (into ?_)
    refine sw_seq ?_
    refine sw_seq ?_
    refine sw_region ?_
    refine ow_val (val_move rfl) rfl ?_   -- 49
    refine ow_val ((val_neq_int rfl rfl).to (v' := .bool false) (congrArg Value.bool (decide_eq_false (fun h => h rfl)))) rfl ?_   -- 50
    refine ow_val (val_move rfl) rfl ?_   -- 51
    refine ow_guard_yes rfl rfl rfl ?_
    refine ow_val (val_move rfl) rfl ?_   -- 52
    refine ow_guard_yes rfl rfl rfl ?_
    refine ow_val (val_move rfl) rfl ?_   -- 53
    refine ow_guard_yes rfl rfl rfl ?_
    refine ow_call_keep (v := vInt (max 0 (((oX l (i + 1) g).length : Int) - pl))) 3 2 rfl rfl (by decide) (callsTo Try.func14 rfl (by kernel_rfl) rfl) rfl (fun w hm hm2 => bLine_any w false q a46 c46 (oX l (i + 1) g) e46 pl hpl hr46 (by omega) hm2) ?_   -- 54
    refine ow_guard_yes rfl rfl rfl ?_
    refine ow_val (val_eql_int rfl rfl) rfl ?_   -- 55
    refine ow_guard_yes rfl rfl rfl ?_
    refine ow_val ((val_neq_bool Try.underlying4 rfl rfl).to (v' := .bool false) (by rw [hb]; simp)) rfl ?_   -- 56
    refine ow_val (val_pick_false rfl rfl) rfl ?_   -- 57
    refine ow_nil (into ?_)
    refine sw_false rfl rfl ?_
    refine sw_skip (into ?_)
    refine sw_seq ?_
    refine sw_region ?_
    refine ow_val (val_move rfl) rfl ?_   -- 58
    refine ow_val (val_move rfl) rfl ?_   -- 59
    refine ow_make (acts_buildSlice (cs := [Value.slice z1.a z1.xs.length z1.c]) Try.underlying36 Try.sizeOf41 Try.zeroValue41 rfl rfl (by kernel_rfl)) rfl (fun b60 hb60 => ?_)   -- 60
    refine ow_append_o (xs := (oP l (i + 1))) (acts_o_cast (acts_append_o 2 rfl rfl rfl h9 rfl Try.underlying36 hDi hDz hDsz hDby rfl (by decide) (fun w hm => Rd.blk (hm.at (i := 0) rfl)) rfl (fun u hu => by rw [List.mem_singleton.1 hu]; rfl) (by omega) (by omega)) hpp) rfl (fun a61 c61 e61 hr61 => ?_)   -- 61
    refine ow_val (val_assign rfl) rfl ?_   -- 9
    refine ow_nil (into ?_)
    refine sw_seq ?_
    refine sw_seq ?_
    rcases tcases ts i with ⟨h14, htv⟩ | ⟨h14, htv⟩ | h14
    · -- case
      obtain ⟨bt, ot, rfl⟩ := hr2.addr (by rw [List.length_map]; omega)
      obtain ⟨s2, hs2⟩ : ∃ z, l.getD g default = z := ⟨_, rfl⟩
      have hxq : oX l (i + 1) g = Value.slice s2.a s2.xs.length s2.c :: oX l (i + 1) (g + 1) := by rw [oX_take (by omega) hil, hs2]; rfl
      have hpg : oP l g ++ [Value.slice s2.a s2.xs.length s2.c] = oP l (g + 1) := by rw [← oP_put (by omega), hs2]; rfl
      have hxt : (oX l (i + 1) (g + 1)).length = (oX l (i + 1) g).length - 1 := by rw [hxq]; rfl
      have h10n : (oP l (g + 1)).length = g + 1 := oP_len (by omega)
      rw [hxq] at hr46 ⊢
      refine sw_region ?_
      refine ow_val (val_move rfl) rfl ?_   -- 62
      refine ow_val (val_move rfl) rfl ?_   -- 63
      refine ow_val (val_len rfl Try.underlying37) rfl ?_   -- 64
      refine ow_val ((val_lss_int rfl rfl).to (congrArg Value.bool (decide_eq_true (by omega)))) rfl ?_   -- 65
      refine ow_val (val_move rfl) rfl ?_   -- 66
      refine ow_guard_yes rfl rfl rfl ?_
      refine ow_val (val_move rfl) rfl ?_   -- 67
      refine ow_guard_yes rfl rfl rfl ?_
      refine ow_val (val_move rfl) rfl ?_   -- 68
      refine ow_guard_yes rfl rfl rfl ?_
      refine ow_val (val_indexAddr_slice i (ot + i * 1) rfl rfl Try.underlying37 Try.sizeOf4 (by omega) (by omega) (by omega)) rfl ?_   -- 69
      refine ow_guard_yes rfl rfl rfl ?_
      refine ow_val ((val_load (v := Value.bool (ts.getD i default)) rfl Try.isAgg4 (fun w' hm => Rd.get (V := Value.bool) (p := ts) (k := i) (hr2.mem hm) (by omega) (by omega))).to (v' := .bool true) (by rw [htv])) rfl ?_   -- 70
      refine ow_val (val_pick_true rfl rfl) rfl ?_   -- 71
      refine ow_nil (into ?_)
      refine sw_true rfl rfl ?_
      refine sw_seq ?_
      refine sw_region ?_
      refine ow_val (val_move rfl) rfl ?_   -- 73
      refine ow_call_two' (σ := Option Addr × Nat × Ent) (fun _ => .tuple #[Value.slice s2.a s2.xs.length s2.c, .bool true]) (fun s => blk [Value.int .i32 0, Value.int .u32 0, vInt pl, .slice s.1 (oX l (i + 1) (g + 1)).length s.2.1, Value.bool false] 79) (fun s => s.2.2) (fun s => RowO (.slice s.1 (oX l (i + 1) (g + 1)).length s.2.1) 41 (oX l (i + 1) (g + 1)) s.2.2) (fun s => [some (b60, blk [Value.slice z1.a z1.xs.length z1.c] 41), e10, e61, s.2.2, some (q, blk [Value.int .i32 0, Value.int .u32 0, vInt pl, .slice s.1 (oX l (i + 1) (g + 1)).length s.2.1, Value.bool false] 79)]) 4 3 rfl rfl (by decide) (fun _ => rfl) (callsTo Try.func15 rfl (by kernel_rfl) rfl) rfl (fun w hm hm2 => bTake_some w false q a46 c46 (Value.slice s2.a s2.xs.length s2.c) (oX l (i + 1) (g + 1)) e46 pl hpl hr46 (by rw [List.length_cons]; omega) hm2) ?_   -- 74
      rintro ⟨a74, c74, e74⟩ hr74
      simp only at hr74 ⊢
      refine ow_val (val_move rfl) rfl ?_   -- 72
      refine ow_val (val_extract rfl rfl) rfl ?_   -- 75
      refine ow_val (val_extract rfl rfl) rfl ?_   -- 76
      refine ow_val (val_assign rfl) rfl ?_   -- 15
      refine ow_val (val_assign rfl) rfl ?_   -- 16
      refine ow_nil (into ?_)
      refine sw_seq ?_
      refine sw_seq ?_
      refine sw_region ?_
      refine ow_val (val_move rfl) rfl ?_   -- 77
      refine ow_val (val_not rfl) rfl ?_   -- 78
      refine ow_nil (into ?_)
      refine sw_false rfl rfl ?_
      refine sw_skip (into ?_)
      refine sw_region ?_
      refine ow_val (val_move rfl) rfl ?_   -- 79
      refine ow_val (val_move rfl) rfl ?_   -- 80
      refine ow_make (acts_buildSlice (cs := [Value.slice s2.a s2.xs.length s2.c]) Try.underlying36 Try.sizeOf41 Try.zeroValue41 rfl rfl (by kernel_rfl)) rfl (fun b81 hb81 => ?_)   -- 81
      refine ow_append_o (xs := (oP l (g + 1))) (acts_o_cast (acts_append_o 2 rfl rfl rfl h10 rfl Try.underlying36 hDi hDz hDsz hDby rfl (by decide) (fun w hm => Rd.blk (hm.at (i := 0) rfl)) rfl (fun u hu => by rw [List.mem_singleton.1 hu]; rfl) (by omega) (by omega)) hpg) rfl (fun a82 c82 e82 hr82 => ?_)   -- 82
      refine ow_val (val_assign rfl) rfl ?_   -- 10
      refine ow_nil (into ?_)
      refine sw_seq ?_
      refine sw_region ?_
      refine ow_val (val_move rfl) rfl ?_   -- 83
      refine ow_call_keep (v := vInt (min ((oX l (i + 1) (g + 1)).length : Int) pl)) 5 4 rfl rfl (by decide) (callsTo Try.func16 rfl (by kernel_rfl) rfl) rfl (fun w hm hm2 => bLen_any w false q a74 c74 (oX l (i + 1) (g + 1)) e74 pl hpl hr74 (by omega) hm2) ?_   -- 84
      refine ow_val (val_move rfl) rfl ?_   -- 85
      refine ow_call_keep (v := vInt (max 0 (((oX l (i + 1) (g + 1)).length : Int) - pl))) 5 4 rfl rfl (by decide) (callsTo Try.func14 rfl (by kernel_rfl) rfl) rfl (fun w hm hm2 => bLine_any w false q a74 c74 (oX l (i + 1) (g + 1)) e74 pl hpl hr74 (by omega) hm2) ?_   -- 86
      refine ow_val (val_add_int _ rfl rfl rfl (by omega)) rfl ?_   -- 87
      refine ow_val (val_move rfl) rfl ?_   -- 88
      refine ow_val (val_len rfl Try.underlying36) rfl ?_   -- 89
      refine ow_val (val_move rfl) rfl ?_   -- 90
      refine ow_val (val_len rfl Try.underlying36) rfl ?_   -- 91
      refine ow_val (val_sub_int ((((oP l (i + 1)).length) - ((oP l (g + 1)).length) : Nat) : Int) rfl rfl (by omega) (by omega)) rfl ?_   -- 92
      refine ow_val ((val_neq_int rfl rfl).to (congrArg Value.bool (decide_eq_false (by omega)))) rfl ?_   -- 93
      refine ow_val (val_move rfl) rfl ?_   -- 94
      refine ow_guard_yes rfl rfl rfl ?_
      refine ow_val (val_move rfl) rfl ?_   -- 95
      refine ow_guard_yes rfl rfl rfl ?_
      refine ow_call_keep (v := vInt (min ((oX l (i + 1) (g + 1)).length : Int) pl)) 5 4 rfl rfl (by decide) (callsTo Try.func16 rfl (by kernel_rfl) rfl) rfl (fun w hm hm2 => bLen_any w false q a74 c74 (oX l (i + 1) (g + 1)) e74 pl hpl hr74 (by omega) hm2) ?_   -- 96
      refine ow_guard_yes rfl rfl rfl ?_
      refine ow_val (val_move rfl) rfl ?_   -- 97
      refine ow_guard_yes rfl rfl rfl ?_
      refine ow_val ((val_gtr_int rfl rfl).to (congrArg Value.bool (decide_eq_false (by omega)))) rfl ?_   -- 98
      refine ow_val (val_pick_false rfl rfl) rfl ?_   -- 99
      refine ow_val (val_move rfl) rfl ?_   -- 100
      refine ow_guard_yes rfl rfl rfl ?_
      refine ow_val (val_move rfl) rfl ?_   -- 101
      refine ow_guard_yes rfl rfl rfl ?_
      refine ow_call_keep (v := vInt (max 0 (((oX l (i + 1) (g + 1)).length : Int) - pl))) 5 4 rfl rfl (by decide) (callsTo Try.func14 rfl (by kernel_rfl) rfl) rfl (fun w hm hm2 => bLine_any w false q a74 c74 (oX l (i + 1) (g + 1)) e74 pl hpl hr74 (by omega) hm2) ?_   -- 102
      by_cases hz19 : pl < ((oX l (i + 1) (g + 1)).length : Int)
      · -- yes
        refine ow_guard_yes rfl rfl rfl ?_
        refine ow_val ((val_gtr_int rfl rfl).to (congrArg Value.bool (decide_eq_true (by omega)))) rfl ?_   -- 103
        refine ow_guard_yes rfl rfl rfl ?_
        refine ow_val (val_move rfl) rfl ?_   -- 104
        refine ow_guard_yes rfl rfl rfl ?_
        refine ow_val (val_move rfl) rfl ?_   -- 105
        refine ow_guard_yes rfl rfl rfl ?_
        refine ow_call_keep (v := vInt (min ((oX l (i + 1) (g + 1)).length : Int) pl)) 5 4 rfl rfl (by decide) (callsTo Try.func16 rfl (by kernel_rfl) rfl) rfl (fun w hm hm2 => bLen_any w false q a74 c74 (oX l (i + 1) (g + 1)) e74 pl hpl hr74 (by omega) hm2) ?_   -- 106
        refine ow_guard_yes rfl rfl rfl ?_
        refine ow_val (val_move rfl) rfl ?_   -- 107
        refine ow_guard_yes rfl rfl rfl ?_
        refine ow_val ((val_lss_int rfl rfl).to (congrArg Value.bool (decide_eq_false (by omega)))) rfl ?_   -- 108
        refine ow_guard_yes rfl rfl rfl ?_
        refine ow_val (val_pick_true rfl rfl) rfl ?_   -- 109
        refine ow_val (val_pick_false rfl rfl) rfl ?_   -- 110
        refine ow_nil (into ?_)
        refine sw_false rfl rfl ?_
        refine sw_skip (into ?_)
        refine sw_region ?_
        refine ow_val (val_add_int ((i + 1 : Nat) : Int) rfl rfl (by omega) (by omega)) rfl ?_   -- 111
        refine ow_val (val_move rfl) rfl ?_   -- 38
        exact ow_nil (fun w hm => ⟨(i + 1, g + 1, (a74, c74, e74), (a61, c61, e61), (a82, c82, e82)), ⟨by dsimp only; omega, by dsimp only; omega, hr74, hr61, hr82⟩, by dsimp only; omega, ⟨rfl, rfl, rfl, rfl, rfl, rfl, rfl, rfl, rfl⟩, hm.only (.cons _ (.cons _ (.cons_cons _ (.cons_cons _ (.cons_cons _ (.cons_cons _ (List.nil_sublist _)))))))⟩)
      · -- no
        refine ow_guard_yes rfl rfl rfl ?_
        refine ow_val ((val_gtr_int rfl rfl).to (congrArg Value.bool (decide_eq_false (by omega)))) rfl ?_   -- 103
        refine ow_guard_yes rfl rfl rfl ?_
        refine ow_val (val_move rfl) rfl ?_   -- 104
        first | refine ow_guard_no rfl rfl rfl rfl rfl ?_ | refine ow_guard_none rfl rfl rfl rfl rfl ?_
        first | refine ow_guard_no rfl rfl rfl rfl rfl ?_ | refine ow_guard_none rfl rfl rfl rfl rfl ?_
        first | refine ow_guard_no rfl rfl rfl rfl rfl ?_ | refine ow_guard_none rfl rfl rfl rfl rfl ?_
        first | refine ow_guard_no rfl rfl rfl rfl rfl ?_ | refine ow_guard_none rfl rfl rfl rfl rfl ?_
        refine ow_guard_yes rfl rfl rfl ?_
        refine ow_val (val_pick_false rfl rfl) rfl ?_   -- 109
        refine ow_val (val_pick_false rfl rfl) rfl ?_   -- 110
        refine ow_nil (into ?_)
        refine sw_false rfl rfl ?_
        refine sw_skip (into ?_)
        refine sw_region ?_
        refine ow_val (val_add_int ((i + 1 : Nat) : Int) rfl rfl (by omega) (by omega)) rfl ?_   -- 111
        refine ow_val (val_move rfl) rfl ?_   -- 38
        exact ow_nil (fun w hm => ⟨(i + 1, g + 1, (a74, c74, e74), (a61, c61, e61), (a82, c82, e82)), ⟨by dsimp only; omega, by dsimp only; omega, hr74, hr61, hr82⟩, by dsimp only; omega, ⟨rfl, rfl, rfl, rfl, rfl, rfl, rfl, rfl, rfl⟩, hm.only (.cons _ (.cons _ (.cons_cons _ (.cons_cons _ (.cons_cons _ (.cons_cons _ (List.nil_sublist _)))))))⟩)
    · -- case
      obtain ⟨bt, ot, rfl⟩ := hr2.addr (by rw [List.length_map]; omega)
      refine sw_region ?_
      refine ow_val (val_move rfl) rfl ?_   -- 62
      refine ow_val (val_move rfl) rfl ?_   -- 63
      refine ow_val (val_len rfl Try.underlying37) rfl ?_   -- 64
      refine ow_val ((val_lss_int rfl rfl).to (congrArg Value.bool (decide_eq_true (by omega)))) rfl ?_   -- 65
      refine ow_val (val_move rfl) rfl ?_   -- 66
      refine ow_guard_yes rfl rfl rfl ?_
      refine ow_val (val_move rfl) rfl ?_   -- 67
      refine ow_guard_yes rfl rfl rfl ?_
      refine ow_val (val_move rfl) rfl ?_   -- 68
      refine ow_guard_yes rfl rfl rfl ?_
      refine ow_val (val_indexAddr_slice i (ot + i * 1) rfl rfl Try.underlying37 Try.sizeOf4 (by omega) (by omega) (by omega)) rfl ?_   -- 69
      refine ow_guard_yes rfl rfl rfl ?_
      refine ow_val ((val_load (v := Value.bool (ts.getD i default)) rfl Try.isAgg4 (fun w' hm => Rd.get (V := Value.bool) (p := ts) (k := i) (hr2.mem hm) (by omega) (by omega))).to (v' := .bool false) (by rw [htv])) rfl ?_   -- 70
      refine ow_val (val_pick_true rfl rfl) rfl ?_   -- 71
      refine ow_nil (into ?_)
      refine sw_false rfl rfl ?_
      refine sw_skip (into ?_)
      refine sw_seq ?_
      refine sw_region ?_
      refine ow_val (val_move rfl) rfl ?_   -- 83
      refine ow_call_keep (v := vInt (min ((oX l (i + 1) g).length : Int) pl)) 4 3 rfl rfl (by decide) (callsTo Try.func16 rfl (by kernel_rfl) rfl) rfl (fun w hm hm2 => bLen_any w false q a46 c46 (oX l (i + 1) g) e46 pl hpl hr46 (by omega) hm2) ?_   -- 84
      refine ow_val (val_move rfl) rfl ?_   -- 85
      refine ow_call_keep (v := vInt (max 0 (((oX l (i + 1) g).length : Int) - pl))) 4 3 rfl rfl (by decide) (callsTo Try.func14 rfl (by kernel_rfl) rfl) rfl (fun w hm hm2 => bLine_any w false q a46 c46 (oX l (i + 1) g) e46 pl hpl hr46 (by omega) hm2) ?_   -- 86
      refine ow_val (val_add_int _ rfl rfl rfl (by omega)) rfl ?_   -- 87
      refine ow_val (val_move rfl) rfl ?_   -- 88
      refine ow_val (val_len rfl Try.underlying36) rfl ?_   -- 89
      refine ow_val (val_move rfl) rfl ?_   -- 90
      refine ow_val (val_len rfl Try.underlying36) rfl ?_   -- 91
      refine ow_val (val_sub_int ((((oP l (i + 1)).length) - ((oP l g).length) : Nat) : Int) rfl rfl (by omega) (by omega)) rfl ?_   -- 92
      refine ow_val ((val_neq_int rfl rfl).to (congrArg Value.bool (decide_eq_false (by omega)))) rfl ?_   -- 93
      refine ow_val (val_move rfl) rfl ?_   -- 94
      refine ow_guard_yes rfl rfl rfl ?_
      refine ow_val (val_move rfl) rfl ?_   -- 95
      refine ow_guard_yes rfl rfl rfl ?_
      refine ow_call_keep (v := vInt (min ((oX l (i + 1) g).length : Int) pl)) 4 3 rfl rfl (by decide) (callsTo Try.func16 rfl (by kernel_rfl) rfl) rfl (fun w hm hm2 => bLen_any w false q a46 c46 (oX l (i + 1) g) e46 pl hpl hr46 (by omega) hm2) ?_   -- 96
      refine ow_guard_yes rfl rfl rfl ?_
      refine ow_val (val_move rfl) rfl ?_   -- 97
      refine ow_guard_yes rfl rfl rfl ?_
      refine ow_val ((val_gtr_int rfl rfl).to (congrArg Value.bool (decide_eq_false (by omega)))) rfl ?_   -- 98
      refine ow_val (val_pick_false rfl rfl) rfl ?_   -- 99
      refine ow_val (val_move rfl) rfl ?_   -- 100
      refine ow_guard_yes rfl rfl rfl ?_
      refine ow_val (val_move rfl) rfl ?_   -- 101
      refine ow_guard_yes rfl rfl rfl ?_
      refine ow_call_keep (v := vInt (max 0 (((oX l (i + 1) g).length : Int) - pl))) 4 3 rfl rfl (by decide) (callsTo Try.func14 rfl (by kernel_rfl) rfl) rfl (fun w hm hm2 => bLine_any w false q a46 c46 (oX l (i + 1) g) e46 pl hpl hr46 (by omega) hm2) ?_   -- 102
      by_cases hz19 : pl < ((oX l (i + 1) g).length : Int)
      · -- yes
        refine ow_guard_yes rfl rfl rfl ?_
        refine ow_val ((val_gtr_int rfl rfl).to (congrArg Value.bool (decide_eq_true (by omega)))) rfl ?_   -- 103
        refine ow_guard_yes rfl rfl rfl ?_
        refine ow_val (val_move rfl) rfl ?_   -- 104
        refine ow_guard_yes rfl rfl rfl ?_
        refine ow_val (val_move rfl) rfl ?_   -- 105
        refine ow_guard_yes rfl rfl rfl ?_
        refine ow_call_keep (v := vInt (min ((oX l (i + 1) g).length : Int) pl)) 4 3 rfl rfl (by decide) (callsTo Try.func16 rfl (by kernel_rfl) rfl) rfl (fun w hm hm2 => bLen_any w false q a46 c46 (oX l (i + 1) g) e46 pl hpl hr46 (by omega) hm2) ?_   -- 106
        refine ow_guard_yes rfl rfl rfl ?_
        refine ow_val (val_move rfl) rfl ?_   -- 107
        refine ow_guard_yes rfl rfl rfl ?_
        refine ow_val ((val_lss_int rfl rfl).to (congrArg Value.bool (decide_eq_false (by omega)))) rfl ?_   -- 108
        refine ow_guard_yes rfl rfl rfl ?_
        refine ow_val (val_pick_true rfl rfl) rfl ?_   -- 109
        refine ow_val (val_pick_false rfl rfl) rfl ?_   -- 110
        refine ow_nil (into ?_)
        refine sw_false rfl rfl ?_
        refine sw_skip (into ?_)
        refine sw_region ?_
        refine ow_val (val_add_int ((i + 1 : Nat) : Int) rfl rfl (by omega) (by omega)) rfl ?_   -- 111
        refine ow_val (val_move rfl) rfl ?_   -- 38
        exact ow_nil (fun w hm => ⟨(i + 1, g, (a46, c46, e46), (a61, c61, e61), (a10, c10, e10)), ⟨by dsimp only; omega, by dsimp only; omega, hr46, hr61, h10⟩, by dsimp only; omega, ⟨rfl, rfl, rfl, rfl, rfl, rfl, rfl, rfl, rfl⟩, hm.only (.cons _ (.cons_cons _ (.cons_cons _ (.cons_cons _ (.cons_cons _ (List.nil_sublist _))))))⟩)
      · -- no
        refine ow_guard_yes rfl rfl rfl ?_
        refine ow_val ((val_gtr_int rfl rfl).to (congrArg Value.bool (decide_eq_false (by omega)))) rfl ?_   -- 103
        refine ow_guard_yes rfl rfl rfl ?_
        refine ow_val (val_move rfl) rfl ?_   -- 104
        first | refine ow_guard_no rfl rfl rfl rfl rfl ?_ | refine ow_guard_none rfl rfl rfl rfl rfl ?_
        first | refine ow_guard_no rfl rfl rfl rfl rfl ?_ | refine ow_guard_none rfl rfl rfl rfl rfl ?_
        first | refine ow_guard_no rfl rfl rfl rfl rfl ?_ | refine ow_guard_none rfl rfl rfl rfl rfl ?_
        first | refine ow_guard_no rfl rfl rfl rfl rfl ?_ | refine ow_guard_none rfl rfl rfl rfl rfl ?_
        refine ow_guard_yes rfl rfl rfl ?_
        refine ow_val (val_pick_false rfl rfl) rfl ?_   -- 109
        refine ow_val (val_pick_false rfl rfl) rfl ?_   -- 110
        refine ow_nil (into ?_)
        refine sw_false rfl rfl ?_
        refine sw_skip (into ?_)
        refine sw_region ?_
        refine ow_val (val_add_int ((i + 1 : Nat) : Int) rfl rfl (by omega) (by omega)) rfl ?_   -- 111
        refine ow_val (val_move rfl) rfl ?_   -- 38
        exact ow_nil (fun w hm => ⟨(i + 1, g, (a46, c46, e46), (a61, c61, e61), (a10, c10, e10)), ⟨by dsimp only; omega, by dsimp only; omega, hr46, hr61, h10⟩, by dsimp only; omega, ⟨rfl, rfl, rfl, rfl, rfl, rfl, rfl, rfl, rfl⟩, hm.only (.cons _ (.cons_cons _ (.cons_cons _ (.cons_cons _ (.cons_cons _ (List.nil_sublist _))))))⟩)
    · -- case
      refine sw_region ?_
      refine ow_val (val_move rfl) rfl ?_   -- 62
      refine ow_val (val_move rfl) rfl ?_   -- 63
      refine ow_val (val_len rfl Try.underlying37) rfl ?_   -- 64
      refine ow_val ((val_lss_int rfl rfl).to (congrArg Value.bool (decide_eq_false (by omega)))) rfl ?_   -- 65
      refine ow_val (val_move rfl) rfl ?_   -- 66
      first | refine ow_guard_no rfl rfl rfl rfl rfl ?_ | refine ow_guard_none rfl rfl rfl rfl rfl ?_
      first | refine ow_guard_no rfl rfl rfl rfl rfl ?_ | refine ow_guard_none rfl rfl rfl rfl rfl ?_
      first | refine ow_guard_no rfl rfl rfl rfl rfl ?_ | refine ow_guard_none rfl rfl rfl rfl rfl ?_
      first | refine ow_guard_no rfl rfl rfl rfl rfl ?_ | refine ow_guard_none rfl rfl rfl rfl rfl ?_
      refine ow_val (val_pick_false rfl rfl) rfl ?_   -- 71
      refine ow_nil (into ?_)
      refine sw_false rfl rfl ?_
      refine sw_skip (into ?_)
      refine sw_seq ?_
      refine sw_region ?_
      refine ow_val (val_move rfl) rfl ?_   -- 83
      refine ow_call_keep (v := vInt (min ((oX l (i + 1) g).length : Int) pl)) 4 3 rfl rfl (by decide) (callsTo Try.func16 rfl (by kernel_rfl) rfl) rfl (fun w hm hm2 => bLen_any w false q a46 c46 (oX l (i + 1) g) e46 pl hpl hr46 (by omega) hm2) ?_   -- 84
      refine ow_val (val_move rfl) rfl ?_   -- 85
      refine ow_call_keep (v := vInt (max 0 (((oX l (i + 1) g).length : Int) - pl))) 4 3 rfl rfl (by decide) (callsTo Try.func14 rfl (by kernel_rfl) rfl) rfl (fun w hm hm2 => bLine_any w false q a46 c46 (oX l (i + 1) g) e46 pl hpl hr46 (by omega) hm2) ?_   -- 86
      refine ow_val (val_add_int _ rfl rfl rfl (by omega)) rfl ?_   -- 87
      refine ow_val (val_move rfl) rfl ?_   -- 88
      refine ow_val (val_len rfl Try.underlying36) rfl ?_   -- 89
      refine ow_val (val_move rfl) rfl ?_   -- 90
      refine ow_val (val_len rfl Try.underlying36) rfl ?_   -- 91
      refine ow_val (val_sub_int ((((oP l (i + 1)).length) - ((oP l g).length) : Nat) : Int) rfl rfl (by omega) (by omega)) rfl ?_   -- 92
      refine ow_val ((val_neq_int rfl rfl).to (congrArg Value.bool (decide_eq_false (by omega)))) rfl ?_   -- 93
      refine ow_val (val_move rfl) rfl ?_   -- 94
      refine ow_guard_yes rfl rfl rfl ?_
      refine ow_val (val_move rfl) rfl ?_   -- 95
      refine ow_guard_yes rfl rfl rfl ?_
      refine ow_call_keep (v := vInt (min ((oX l (i + 1) g).length : Int) pl)) 4 3 rfl rfl (by decide) (callsTo Try.func16 rfl (by kernel_rfl) rfl) rfl (fun w hm hm2 => bLen_any w false q a46 c46 (oX l (i + 1) g) e46 pl hpl hr46 (by omega) hm2) ?_   -- 96
      refine ow_guard_yes rfl rfl rfl ?_
      refine ow_val (val_move rfl) rfl ?_   -- 97
      refine ow_guard_yes rfl rfl rfl ?_
      refine ow_val ((val_gtr_int rfl rfl).to (congrArg Value.bool (decide_eq_false (by omega)))) rfl ?_   -- 98
      refine ow_val (val_pick_false rfl rfl) rfl ?_   -- 99
      refine ow_val (val_move rfl) rfl ?_   -- 100
      refine ow_guard_yes rfl rfl rfl ?_
      refine ow_val (val_move rfl) rfl ?_   -- 101
      refine ow_guard_yes rfl rfl rfl ?_
      refine ow_call_keep (v := vInt (max 0 (((oX l (i + 1) g).length : Int) - pl))) 4 3 rfl rfl (by decide) (callsTo Try.func14 rfl (by kernel_rfl) rfl) rfl (fun w hm hm2 => bLine_any w false q a46 c46 (oX l (i + 1) g) e46 pl hpl hr46 (by omega) hm2) ?_   -- 102
      by_cases hz19 : pl < ((oX l (i + 1) g).length : Int)
      · -- yes
        refine ow_guard_yes rfl rfl rfl ?_
        refine ow_val ((val_gtr_int rfl rfl).to (congrArg Value.bool (decide_eq_true (by omega)))) rfl ?_   -- 103
        refine ow_guard_yes rfl rfl rfl ?_
        refine ow_val (val_move rfl) rfl ?_   -- 104
        refine ow_guard_yes rfl rfl rfl ?_
        refine ow_val (val_move rfl) rfl ?_   -- 105
        refine ow_guard_yes rfl rfl rfl ?_
        refine ow_call_keep (v := vInt (min ((oX l (i + 1) g).length : Int) pl)) 4 3 rfl rfl (by decide) (callsTo Try.func16 rfl (by kernel_rfl) rfl) rfl (fun w hm hm2 => bLen_any w false q a46 c46 (oX l (i + 1) g) e46 pl hpl hr46 (by omega) hm2) ?_   -- 106
        refine ow_guard_yes rfl rfl rfl ?_
        refine ow_val (val_move rfl) rfl ?_   -- 107
        refine ow_guard_yes rfl rfl rfl ?_
        refine ow_val ((val_lss_int rfl rfl).to (congrArg Value.bool (decide_eq_false (by omega)))) rfl ?_   -- 108
        refine ow_guard_yes rfl rfl rfl ?_
        refine ow_val (val_pick_true rfl rfl) rfl ?_   -- 109
        refine ow_val (val_pick_false rfl rfl) rfl ?_   -- 110
        refine ow_nil (into ?_)
        refine sw_false rfl rfl ?_
        refine sw_skip (into ?_)
        refine sw_region ?_
        refine ow_val (val_add_int ((i + 1 : Nat) : Int) rfl rfl (by omega) (by omega)) rfl ?_   -- 111
        refine ow_val (val_move rfl) rfl ?_   -- 38
        exact ow_nil (fun w hm => ⟨(i + 1, g, (a46, c46, e46), (a61, c61, e61), (a10, c10, e10)), ⟨by dsimp only; omega, by dsimp only; omega, hr46, hr61, h10⟩, by dsimp only; omega, ⟨rfl, rfl, rfl, rfl, rfl, rfl, rfl, rfl, rfl⟩, hm.only (.cons _ (.cons_cons _ (.cons_cons _ (.cons_cons _ (.cons_cons _ (List.nil_sublist _))))))⟩)
      · -- no
        refine ow_guard_yes rfl rfl rfl ?_
        refine ow_val ((val_gtr_int rfl rfl).to (congrArg Value.bool (decide_eq_false (by omega)))) rfl ?_   -- 103
        refine ow_guard_yes rfl rfl rfl ?_
        refine ow_val (val_move rfl) rfl ?_   -- 104
        first | refine ow_guard_no rfl rfl rfl rfl rfl ?_ | refine ow_guard_none rfl rfl rfl rfl rfl ?_
        first | refine ow_guard_no rfl rfl rfl rfl rfl ?_ | refine ow_guard_none rfl rfl rfl rfl rfl ?_
        first | refine ow_guard_no rfl rfl rfl rfl rfl ?_ | refine ow_guard_none rfl rfl rfl rfl rfl ?_
        first | refine ow_guard_no rfl rfl rfl rfl rfl ?_ | refine ow_guard_none rfl rfl rfl rfl rfl ?_
        refine ow_guard_yes rfl rfl rfl ?_
        refine ow_val (val_pick_false rfl rfl) rfl ?_   -- 109
        refine ow_val (val_pick_false rfl rfl) rfl ?_   -- 110
        refine ow_nil (into ?_)
        refine sw_false rfl rfl ?_
        refine sw_skip (into ?_)
        refine sw_region ?_
        refine ow_val (val_add_int ((i + 1 : Nat) : Int) rfl rfl (by omega) (by omega)) rfl ?_   -- 111
        refine ow_val (val_move rfl) rfl ?_   -- 38
        exact ow_nil (fun w hm => ⟨(i + 1, g, (a46, c46, e46), (a61, c61, e61), (a10, c10, e10)), ⟨by dsimp only; omega, by dsimp only; omega, hr46, hr61, h10⟩, by dsimp only; omega, ⟨rfl, rfl, rfl, rfl, rfl, rfl, rfl, rfl, rfl⟩, hm.only (.cons _ (.cons_cons _ (.cons_cons _ (.cons_cons _ (.cons_cons _ (List.nil_sublist _))))))⟩)
  · -- else
    obtain rfl : i = l.length := by omega
    refine sw_exit (into ?_)
    refine sw_seq ?_
    refine sw_seq ?_
    refine sw_region ?_
    refine ow_val (val_move rfl) rfl ?_   -- 112
    refine ow_call_two' (σ := Unit) (fun _ => vInt 0) (fun _ => blk [Value.int .i32 0, Value.int .u32 0, vInt pl, .slice a (oX l l.length g).length c, Value.bool true] 79) (fun _ => e) (fun _ => True) (fun _ => [e10, e9, e, some (q, blk [Value.int .i32 0, Value.int .u32 0, vInt pl, .slice a (oX l l.length g).length c, Value.bool true] 79)]) 3 2 rfl rfl (by decide) (fun _ => rfl) (callsTo Try.func17 rfl (by kernel_rfl) rfl) rfl (fun w hm hm2 => (bClose_no w q a c (oX l l.length g) e pl hpl hrow (by omega) hm2).mono fun _ _ ⟨u, he, hu, hm3⟩ => ⟨u, he, (), hu, trivial, hm3⟩) ?_   -- 113
    rintro ⟨⟩ -
    refine ow_val ((val_neq_int rfl rfl).to (v' := .bool false) (congrArg Value.bool (decide_eq_false (fun h => h rfl)))) rfl ?_   -- 114
    refine ow_val (val_move rfl) rfl ?_   -- 115
    refine ow_guard_yes rfl rfl rfl ?_
    refine ow_val (val_move rfl) rfl ?_   -- 116
    refine ow_guard_yes rfl rfl rfl ?_
    refine ow_call_keep (v := vInt 9) 3 2 rfl rfl (by decide) (callsTo Try.func17 rfl (by kernel_rfl) rfl) rfl (fun w hm hm2 => bClose_yes w q a c (oX l l.length g) e pl hpl hrow (by omega) hm2) ?_   -- 117
    refine ow_guard_yes rfl rfl rfl ?_
    refine ow_val ((val_neq_int rfl rfl).to (v' := .bool false) (congrArg Value.bool (decide_eq_false (fun h => h rfl)))) rfl ?_   -- 118
    refine ow_val (val_pick_false rfl rfl) rfl ?_   -- 119
    refine ow_nil (into ?_)
    refine sw_false rfl rfl ?_
    refine sw_skip (into ?_)
    refine sw_seq ?_
    refine sw_seq ?_
    refine sw_region ?_
    refine ow_val (val_move rfl) rfl ?_   -- 121
    refine ow_call_two' (σ := Option Addr × Nat × Ent) (fun _ => .tuple #[.bool false, vInt 9]) (fun s => blk [Value.int .i32 0, Value.int .u32 0, vInt pl, .slice s.1 (oX l l.length g).length s.2.1, Value.bool true] 79) (fun s => s.2.2) (fun s => RowO (.slice s.1 (oX l l.length g).length s.2.1) 41 (oX l l.length g) s.2.2) (fun s => [e10, e9, s.2.2, some (q, blk [Value.int .i32 0, Value.int .u32 0, vInt pl, .slice s.1 (oX l l.length g).length s.2.1, Value.bool true] 79)]) 3 2 rfl rfl (by decide) (fun _ => rfl) (callsTo Try.func13 rfl (by kernel_rfl) rfl) rfl (fun w hm hm2 => bPut_shut w q a c (oX l l.length g) e pl hpl hrow (by omega) hm2 none 0 0) ?_   -- 122
    rintro ⟨a122, c122, e122⟩ hr122
    simp only at hr122 ⊢
    refine ow_val (val_move rfl) rfl ?_   -- 120
    refine ow_val (val_extract rfl rfl) rfl ?_   -- 123
    refine ow_val (val_extract rfl rfl) rfl ?_   -- 124
    refine ow_val (val_assign rfl) rfl ?_   -- 17
    refine ow_val (val_assign rfl) rfl ?_   -- 18
    refine ow_nil (into ?_)
    refine sw_seq ?_
    refine sw_region ?_
    refine ow_val (val_move rfl) rfl ?_   -- 125
    refine ow_val (val_move rfl) rfl ?_   -- 126
    refine ow_guard_yes rfl rfl rfl ?_
    refine ow_val (val_move rfl) rfl ?_   -- 127
    refine ow_guard_yes rfl rfl rfl ?_
    refine ow_val ((val_neq_int rfl rfl).to (v' := .bool false) (congrArg Value.bool (decide_eq_false (fun h => h rfl)))) rfl ?_   -- 128
    refine ow_val (val_pick_false rfl rfl) rfl ?_   -- 129
    refine ow_nil (into ?_)
    refine sw_false rfl rfl ?_
    refine sw_skip (into ?_)
    refine sw_block ?_
    refine sw_loop (σ := Nat × (Option Addr × Nat × Ent) × Option Addr × Nat × Ent) (fun t => t.1 ≤ l.length ∧ RowO (.slice t.2.1.1 (oX l l.length t.1).length t.2.1.2.1) 41 (oX l l.length t.1) t.2.1.2.2 ∧ RowO (.slice t.2.2.1 (oP l t.1).length t.2.2.2.1) 41 (oP l t.1) t.2.2.2.2) (fun t => [(9, .slice a9 (oP l l.length).length c9), (10, .slice t.2.2.1 (oP l t.1).length t.2.2.2.1), (7, .pointer (some ⟨q, 0, none⟩))]) (fun t => Mem w [] [t.2.2.2.2, e9, t.2.1.2.2, some (q, blk [Value.int .i32 0, Value.int .u32 0, vInt pl, .slice t.2.1.1 (oX l l.length t.1).length t.2.1.2.1, Value.bool true] 79)]) (fun t => l.length - t.1) (g, (a122, c122, e122), (a10, c10, e10)) ⟨hg, hr122, h10⟩ ⟨rfl, rfl, rfl, rfl⟩ (fun w hm => hm) ?_
    clear hrow h10 hxl h10l hg
    rintro ⟨g, ⟨a, c, e⟩, ⟨a10, c10, e10⟩⟩ ⟨hg, hrow, h10⟩
    simp only at hg hrow h10 ⊢
    have hxl : (oX l l.length g).length = l.length - g := oX_len (Nat.le_refl _)
    have h10l : (oP l g).length = g := oP_len hg
    refine sw_block ?_
    refine sw_seq ?_
    by_cases hg2 : g < l.length
    · -- case
      obtain ⟨s2, hs2⟩ : ∃ z, l.getD g default = z := ⟨_, rfl⟩
      have hxq : oX l l.length g = Value.slice s2.a s2.xs.length s2.c :: oX l l.length (g + 1) := by rw [oX_take hg2 (Nat.le_refl _), hs2]; rfl
      have hpg : oP l g ++ [Value.slice s2.a s2.xs.length s2.c] = oP l (g + 1) := by rw [← oP_put (by omega), hs2]; rfl
      have hxt : (oX l l.length (g + 1)).length = (oX l l.length g).length - 1 := by rw [hxq]; rfl
      have h10n : (oP l (g + 1)).length = g + 1 := oP_len (by omega)
      rw [hxq] at hrow ⊢
      refine sw_region ?_
      refine ow_val (val_move rfl) rfl ?_   -- 131
      refine ow_call_two' (σ := Option Addr × Nat × Ent) (fun _ => .tuple #[Value.slice s2.a s2.xs.length s2.c, .bool true]) (fun s => blk [Value.int .i32 0, Value.int .u32 0, vInt pl, .slice s.1 (oX l l.length (g + 1)).length s.2.1, Value.bool true] 79) (fun s => s.2.2) (fun s => RowO (.slice s.1 (oX l l.length (g + 1)).length s.2.1) 41 (oX l l.length (g + 1)) s.2.2) (fun s => [e10, e9, s.2.2, some (q, blk [Value.int .i32 0, Value.int .u32 0, vInt pl, .slice s.1 (oX l l.length (g + 1)).length s.2.1, Value.bool true] 79)]) 3 2 rfl rfl (by decide) (fun _ => rfl) (callsTo Try.func15 rfl (by kernel_rfl) rfl) rfl (fun w hm hm2 => bTake_some w true q a c (Value.slice s2.a s2.xs.length s2.c) (oX l l.length (g + 1)) e pl hpl hrow (by rw [List.length_cons]; omega) hm2) ?_   -- 132
      rintro ⟨a132, c132, e132⟩ hr132
      simp only at hr132 ⊢
      refine ow_val (val_move rfl) rfl ?_   -- 130
      refine ow_val (val_extract rfl rfl) rfl ?_   -- 133
      refine ow_val (val_extract rfl rfl) rfl ?_   -- 134
      refine ow_val (val_assign rfl) rfl ?_   -- 19
      refine ow_val (val_assign rfl) rfl ?_   -- 20
      refine ow_nil (into ?_)
      refine sw_seq ?_
      refine sw_seq ?_
      refine sw_region ?_
      refine ow_val (val_move rfl) rfl ?_   -- 135
      refine ow_val (val_not rfl) rfl ?_   -- 136
      refine ow_nil (into ?_)
      refine sw_false rfl rfl ?_
      refine sw_skip (into ?_)
      refine sw_seq ?_
      refine sw_region ?_
      refine ow_val (val_move rfl) rfl ?_   -- 155
      refine ow_val (val_move rfl) rfl ?_   -- 156
      refine ow_make (acts_buildSlice (cs := [Value.slice s2.a s2.xs.length s2.c]) Try.underlying36 Try.sizeOf41 Try.zeroValue41 rfl rfl (by kernel_rfl)) rfl (fun b157 hb157 => ?_)   -- 157
      refine ow_append_o (xs := (oP l (g + 1))) (acts_o_cast (acts_append_o 1 rfl rfl rfl h10 rfl Try.underlying36 hDi hDz hDsz hDby rfl (by decide) (fun w hm => Rd.blk (hm.at (i := 0) rfl)) rfl (fun u hu => by rw [List.mem_singleton.1 hu]; rfl) (by omega) (by omega)) hpg) rfl (fun a158 c158 e158 hr158 => ?_)   -- 158
      refine ow_val (val_assign rfl) rfl ?_   -- 10
      refine ow_nil (into ?_)
      refine sw_seq ?_
      refine sw_region ?_
      refine ow_val (val_move rfl) rfl ?_   -- 159
      refine ow_val (val_len rfl Try.underlying36) rfl ?_   -- 160
      refine ow_val (val_move rfl) rfl ?_   -- 161
      refine ow_val (val_len rfl Try.underlying36) rfl ?_   -- 162
      refine ow_val ((val_gtr_int rfl rfl).to (congrArg Value.bool (decide_eq_false (by omega)))) rfl ?_   -- 163
      refine ow_nil (into ?_)
      refine sw_false rfl rfl ?_
      exact sw_skip (fun w hm => ⟨(g + 1, (a132, c132, e132), (a158, c158, e158)), ⟨by dsimp only; omega, hr132, hr158⟩, by dsimp only; omega, ⟨rfl, rfl, rfl, rfl⟩, hm.only (.cons _ (.cons_cons _ (.cons_cons _ (.cons_cons _ (.cons_cons _ (List.nil_sublist _))))))⟩)
    · -- case
      obtain rfl : g = l.length := by omega
      refine sw_region ?_
      refine ow_val (val_move rfl) rfl ?_   -- 131
      refine ow_call_keep (v := .tuple #[.slice none 0 0, .bool false]) 3 2 rfl rfl (by decide) (callsTo Try.func15 rfl (by kernel_rfl) rfl) rfl (fun w hm hm2 => bTake_none w true q a c (oX l l.length l.length) e pl hpl hrow (by omega) hm2 (oX_nil hg2)) ?_   -- 132
      refine ow_val (val_move rfl) rfl ?_   -- 130
      refine ow_val (val_extract rfl rfl) rfl ?_   -- 133
      refine ow_val (val_extract rfl rfl) rfl ?_   -- 134
      refine ow_val (val_assign rfl) rfl ?_   -- 19
      refine ow_val (val_assign rfl) rfl ?_   -- 20
      refine ow_nil (into ?_)
      refine sw_seq ?_
      refine sw_seq ?_
      refine sw_region ?_
      refine ow_val (val_move rfl) rfl ?_   -- 135
      refine ow_val (val_not rfl) rfl ?_   -- 136
      refine ow_nil (into ?_)
      refine sw_true rfl rfl ?_
      refine sw_seq ?_
      refine sw_region ?_
      refine ow_val (val_move rfl) rfl ?_   -- 137
      refine ow_val (val_len rfl Try.underlying41) rfl ?_   -- 138
      refine ow_val ((val_eql_int rfl rfl).to (v' := .bool true) (congrArg Value.bool (decide_eq_true rfl))) rfl ?_   -- 139
      refine ow_val (val_move rfl) rfl ?_   -- 140
      refine ow_guard_yes rfl rfl rfl ?_
      refine ow_val (val_move rfl) rfl ?_   -- 141
      refine ow_guard_yes rfl rfl rfl ?_
      refine ow_val (val_move rfl) rfl ?_   -- 142
      refine ow_guard_yes rfl rfl rfl ?_
      refine ow_call_pure (v := .bool true) (callsTo Try.func18 rfl (by kernel_rfl) rfl) rfl (fun w hm => (by rw [h9l]; exact sameAll_self w a9 c9 a10 c10 l (oP_all l ▸ h9.rdAt hm (i := 1) rfl) (oP_all l ▸ h10.rdAt hm (i := 0) rfl) (fun s hs => ⟨(he s hs).1.mem hm, (he s hs).2⟩) hlm)) ?_   -- 143
      refine ow_val (val_pick_true rfl rfl) rfl ?_   -- 144
      refine ow_val (val_move rfl) rfl ?_   -- 145
      refine ow_guard_yes rfl rfl rfl ?_
      refine ow_val (val_move rfl) rfl ?_   -- 146
      refine ow_guard_yes rfl rfl rfl ?_
      refine ow_call_keep (v := vInt (min ((oX l l.length l.length).length : Int) pl)) 3 2 rfl rfl (by decide) (callsTo Try.func16 rfl (by kernel_rfl) rfl) rfl (fun w hm hm2 => bLen_any w true q a c (oX l l.length l.length) e pl hpl hrow (by omega) hm2) ?_   -- 147
      refine ow_guard_yes rfl rfl rfl ?_
      refine ow_val ((val_eql_int rfl rfl).to (congrArg Value.bool (decide_eq_true (by omega)))) rfl ?_   -- 148
      refine ow_val (val_pick_true rfl rfl) rfl ?_   -- 149
      refine ow_val (val_move rfl) rfl ?_   -- 150
      refine ow_guard_yes rfl rfl rfl ?_
      refine ow_val (val_move rfl) rfl ?_   -- 151
      refine ow_guard_yes rfl rfl rfl ?_
      refine ow_call_keep (v := vInt (max 0 (((oX l l.length l.length).length : Int) - pl))) 3 2 rfl rfl (by decide) (callsTo Try.func14 rfl (by kernel_rfl) rfl) rfl (fun w hm hm2 => bLine_any w true q a c (oX l l.length l.length) e pl hpl hrow (by omega) hm2) ?_   -- 152
      refine ow_guard_yes rfl rfl rfl ?_
      refine ow_val ((val_eql_int rfl rfl).to (congrArg Value.bool (decide_eq_true (by omega)))) rfl ?_   -- 153
      refine ow_val (val_pick_true rfl rfl) rfl ?_   -- 154
      refine ow_val (val_assign rfl) rfl ?_   -- 6
      refine ow_nil (into ?_)
      refine sw_ret (fun w hm => ?_)
      try dsimp only [thenP, blockP, Nat.beq, cond]
      exact ret_one _ rfl rfl ⟨rfl, hm.forgetAll⟩

theorem queueOrder_any (pl : Int) (w : World) (av : Option Addr) (cv : Nat) (l : List (Sl UInt8)) (hr1 : Rd w av (l.map Sl.v)) (hc1 : l.length ≤ cv) (hb1 : l.length * 24 ≤ 140737488351232) (he : ∀ s ∈ l, Rd w s.a (s.xs.map vU8) ∧ s.xs.length < 9223372036854775807) (at_ : Option Addr) (ct : Nat) (ts : List Bool) (hr2 : Rd w at_ (ts.map Value.bool)) (hc2 : ts.length ≤ ct) (hb2 : ts.length < 9223372036854775807) : Calls Try.prog 5 #[vInt pl, .slice av l.length cv, .slice at_ ts.length ct] w fun e w' => ∃ v, e = .returned v ∧ v = .bool true ∧ Mem w [] [] w' := by
  by_cases hw : 1 ≤ pl ∧ pl ≤ 64
  · exact order_yes pl hw w av cv l hr1 hc1 hb1 he at_ ct ts hr2 hc2 hb2
  · exact order_no pl hw w av cv l hr1 hc1 hb1 he at_ ct ts hr2 hc2 hb2
end Go.Proofs.Ytigogbodobifdaa
