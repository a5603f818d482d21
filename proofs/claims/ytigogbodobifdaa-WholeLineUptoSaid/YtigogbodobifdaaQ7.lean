import Derived.Test.YtigogbodobifdaaQ6
import Derived.Test.YtigogbodobifdaaProg
set_option linter.unusedVariables false
set_option linter.unusedSimpArgs false
namespace Go.Proofs.Ytigogbodobifdaa
open Go.Sx
section
variable {P : Program} {n : Nat} {F : Fr} {S : World → Prop} {ty : TypeId}
theorem val_eql_i8 {T V : TypeId} {x y : Operand} {a b : Int} (hx : ev F x = some (.int .i8 a)) (hy : ev F y = some (.int .i8 b)) : Val P n F S (.binOp .eql T x y V) ty (.bool (decide (a = b))) :=
  bin_int hx hy fun w => by
    simp only [binOp, Op.intCmp, ne_eq, not_true, if_false, Sem.run_pure, Result.ok.injEq, Value.bool.injEq, and_true]
    rw [Bool.eq_iff_iff]; simp
theorem val_gtr_i8 {T V : TypeId} {x y : Operand} {a b : Int} (hx : ev F x = some (.int .i8 a)) (hy : ev F y = some (.int .i8 b)) : Val P n F S (.binOp .gtr T x y V) ty (.bool (decide (b < a))) :=
  bin_int hx hy fun w => by
    simp only [binOp, Op.intCmp, ne_eq, not_true, if_false, Sem.run_pure, Result.ok.injEq, Value.bool.injEq, and_true]
end

/-- The numbers from f up to g. -/
def qL (f g : Nat) : List Value := (List.range' f (g - f)).map fun i : Nat => vInt (i : Int)
theorem qL_len (f g : Nat) : (qL f g).length = g - f := by simp [qL]
theorem qL_put {f g : Nat} (h : f ≤ g) : qL f g ++ [vInt (g : Int)] = qL f (g + 1) := by
  rw [qL, qL, show g + 1 - f = g - f + 1 by omega, List.range'_concat, List.map_append, Nat.one_mul, show f + (g - f) = g by omega]; rfl
theorem qL_take {f g : Nat} (h : f < g) : qL f g = vInt (f : Int) :: qL (f + 1) g := by
  rw [qL, qL, show g - f = g - (f + 1) + 1 by omega, List.range'_succ, List.map_cons]
theorem qL_nil {f g : Nat} (h : ¬ f < g) : qL f g = [] := by rw [qL, show g - f = 0 by omega]; rfl

theorem line_0 (p8 : UInt8) (pc : Nat) (hpc : 1 + p8.toNat % 64 = pc) (w : World) (a1 : Option Addr) (c1 : Nat) (l : List Int) (hr1 : Rd w a1 (l.map fun x => Value.int .i8 x)) (hc1 : l.length ≤ c1) (hb : l.length ≤ 1048576) : Calls Try.prog 7 #[vU8 p8, .slice a1 l.length c1] w fun e w' => ∃ v, e = .returned v ∧ v = .bool true ∧ Mem w [] [] w' := by
  have hpl : (1 : Int) ≤ (pc : Int) ∧ (pc : Int) ≤ 64 := by have h9 := Nat.mod_lt p8.toNat (show 0 < 64 by omega); omega
  refine calls_of_sw (vs := [vU8 p8, .slice a1 l.length c1]) Try.func7 rfl Try.ntmps7 rfl (SW.begin ?_)
  refine sw_seq ?_
  refine sw_region ?_
  refine ow_val (val_assign rfl) rfl ?_   -- 4
  refine ow_nil (into ?_)
  refine sw_seq ?_
  refine sw_region ?_
  refine ow_val (val_move rfl) rfl ?_   -- 21
  refine ow_val (val_conv_u8_i64 Try.underlying5 Try.underlying3 rfl) rfl ?_   -- 22
  refine ow_val (val_rem_nn ((p8.toNat % 64 : Nat) : Int) rfl rfl (by omega) (by omega) (by omega)) rfl ?_   -- 23
  refine ow_val ((val_add_int ((1 + p8.toNat % 64 : Nat) : Int) rfl rfl (by omega) (by omega)).to (v' := vInt (pc : Int)) (by rw [← hpc])) rfl ?_   -- 24
  refine ow_val (val_assign rfl) rfl ?_   -- 5
  refine ow_nil (into ?_)
  refine sw_seq ?_
  refine sw_region ?_
  refine ow_val (val_move rfl) rfl ?_   -- 26
  refine ow_call_blk (fun q => .tuple #[.pointer (some ⟨q, 0, none⟩), vInt 0]) (callsTo Try.func9 rfl (by kernel_rfl) rfl) rfl (fun w hm => iNew_yes w (pc : Int) hpl) (fun q hq => ?_)   -- 27
  refine ow_place ?_
  refine ow_val (val_move rfl) rfl ?_   -- 25
  refine ow_val (val_extract rfl rfl) rfl ?_   -- 28
  refine ow_val (val_extract rfl rfl) rfl ?_   -- 29
  refine ow_val (val_assign rfl) rfl ?_   -- 6
  refine ow_val (val_assign rfl) rfl ?_   -- 7
  refine ow_nil (into ?_)
  refine sw_seq ?_
  refine sw_seq ?_
  refine sw_region ?_
  refine ow_val (val_move rfl) rfl ?_   -- 30
  refine ow_val ((val_neq_int rfl rfl).to (v' := .bool false) (congrArg Value.bool (decide_eq_false (fun h => h rfl)))) rfl ?_   -- 31
  refine ow_val (val_move rfl) rfl ?_   -- 32
  refine ow_guard_yes rfl rfl rfl ?_
  refine ow_val (val_move rfl) rfl ?_   -- 33
  refine ow_guard_yes rfl rfl rfl ?_
  refine ow_val (val_eql_nilptr Try.underlying24 rfl rfl) rfl ?_   -- 34
  refine ow_val (val_pick_false rfl rfl) rfl ?_   -- 35
  refine ow_nil (into ?_)
  refine sw_false rfl rfl ?_
  refine sw_skip (into ?_)
  refine sw_seq ?_
  refine sw_region ?_
  refine ow_val (val_move rfl) rfl ?_   -- 37
  refine ow_call_two' (σ := Option Addr × Nat × Ent) (fun _ => .tuple #[.bool true, vInt 0]) (fun s => blk [Value.int .i32 0, Value.int .u32 0, vInt (pc : Int), .slice s.1 (([] : List Value) ++ [vInt (-5)]).length s.2.1, Value.bool false] 70) (fun s => s.2.2) (fun s => RowO (.slice s.1 (([] : List Value) ++ [vInt (-5)]).length s.2.1) 3 (([] : List Value) ++ [vInt (-5)]) s.2.2) (fun s => [s.2.2, some (q, blk [Value.int .i32 0, Value.int .u32 0, vInt (pc : Int), .slice s.1 (([] : List Value) ++ [vInt (-5)]).length s.2.1, Value.bool false] 70)]) 1 0 rfl rfl (by decide) (fun _ => rfl) (callsTo Try.func19 rfl (by kernel_rfl) rfl) rfl (fun w hm hm2 => (by have h := iPut_open w q none 0 ([] : List Value) none (pc : Int) hpl (RowO.nil _) (by simp) hm2 (-5) (by simp); rw [show decide ((([] : List Value).length : Int) < (pc : Int)) = true from decide_eq_true (by simp; omega)] at h; exact h)) ?_   -- 38
  rintro ⟨a38, c38, e38⟩ hr38
  simp only at hr38 ⊢
  refine ow_val (val_move rfl) rfl ?_   -- 36
  refine ow_val (val_extract rfl rfl) rfl ?_   -- 39
  refine ow_val (val_extract rfl rfl) rfl ?_   -- 40
  refine ow_val (val_assign rfl) rfl ?_   -- 8
  refine ow_val (val_assign rfl) rfl ?_   -- 9
  refine ow_nil (into ?_)
  refine sw_seq ?_
  refine sw_region ?_
  refine ow_val (val_move rfl) rfl ?_   -- 42
  refine ow_call_two' (σ := Option Addr × Nat × Ent) (fun _ => .tuple #[vInt (-5), .bool true]) (fun s => blk [Value.int .i32 0, Value.int .u32 0, vInt (pc : Int), .slice s.1 ([] : List Value).length s.2.1, Value.bool false] 70) (fun s => s.2.2) (fun s => RowO (.slice s.1 ([] : List Value).length s.2.1) 3 ([] : List Value) s.2.2) (fun s => [s.2.2, some (q, blk [Value.int .i32 0, Value.int .u32 0, vInt (pc : Int), .slice s.1 ([] : List Value).length s.2.1, Value.bool false] 70)]) 1 0 rfl rfl (by decide) (fun _ => rfl) (callsTo Try.func21 rfl (by kernel_rfl) rfl) rfl (fun w hm hm2 => iTake_some w false q a38 c38 (vInt (-5)) [] e38 (pc : Int) hpl hr38 (by simp) hm2) ?_   -- 43
  rintro ⟨a43, c43, e43⟩ hr43
  simp only at hr43 ⊢
  refine ow_val (val_move rfl) rfl ?_   -- 41
  refine ow_val (val_extract rfl rfl) rfl ?_   -- 44
  refine ow_val (val_extract rfl rfl) rfl ?_   -- 45
  refine ow_val (val_assign rfl) rfl ?_   -- 10
  refine ow_val (val_assign rfl) rfl ?_   -- 11
  refine ow_nil (into ?_)
  refine sw_seq ?_
  refine sw_seq ?_
  refine sw_region ?_
  refine ow_val (val_move rfl) rfl ?_   -- 46
  refine ow_val ((val_neq_int rfl rfl).to (v' := .bool false) (congrArg Value.bool (decide_eq_false (fun h => h rfl)))) rfl ?_   -- 47
  refine ow_val (val_move rfl) rfl ?_   -- 48
  refine ow_guard_yes rfl rfl rfl ?_
  refine ow_val (val_move rfl) rfl ?_   -- 49
  refine ow_guard_yes rfl rfl rfl ?_
  refine ow_val (val_not rfl) rfl ?_   -- 50
  refine ow_val (val_pick_false rfl rfl) rfl ?_   -- 51
  refine ow_val (val_move rfl) rfl ?_   -- 52
  refine ow_guard_yes rfl rfl rfl ?_
  refine ow_val (val_move rfl) rfl ?_   -- 53
  refine ow_guard_yes rfl rfl rfl ?_
  refine ow_val (val_not rfl) rfl ?_   -- 54
  refine ow_val (val_pick_false rfl rfl) rfl ?_   -- 55
  refine ow_val (val_move rfl) rfl ?_   -- 56
  refine ow_guard_yes rfl rfl rfl ?_
  refine ow_val (val_move rfl) rfl ?_   -- 57
  refine ow_guard_yes rfl rfl rfl ?_
  refine ow_val ((val_neq_int rfl rfl).to (congrArg Value.bool (decide_eq_false ((fun h => h rfl))))) rfl ?_   -- 58
  refine ow_val (val_pick_false rfl rfl) rfl ?_   -- 59
  refine ow_nil (into ?_)
  refine sw_false rfl rfl ?_
  refine sw_skip (into ?_)
  refine sw_seq ?_
  refine sw_region ?_
  refine ow_val (val_assign rfl) rfl ?_   -- 12
  refine ow_nil (into ?_)
  refine sw_seq ?_
  refine sw_region ?_
  refine ow_val (val_assign rfl) rfl ?_   -- 13
  refine ow_nil (into ?_)
  refine sw_seq ?_
  refine sw_region ?_
  refine ow_val (val_assign rfl) rfl ?_   -- 14
  refine ow_nil (into ?_)
  refine sw_seq ?_
  refine sw_seq ?_
  refine sw_region ?_
  refine ow_val (val_assign rfl) rfl ?_   -- 15
  refine ow_nil (into ?_)
  refine sw_block ?_
  refine sw_loop (σ := Nat × Nat × Nat × Bool × Option Addr × Nat × Ent) (fun t => t.1 ≤ l.length ∧ t.2.1 ≤ t.2.2.1 ∧ t.2.2.1 ≤ t.1 ∧ RowO (.slice t.2.2.2.2.1 (qL t.2.1 t.2.2.1).length t.2.2.2.2.2.1) 3 (qL t.2.1 t.2.2.1) t.2.2.2.2.2.2) (fun t => [(15, vInt (t.1 : Int)), (14, .bool t.2.2.2.1), (13, vInt (t.2.1 : Int)), (12, vInt (t.2.2.1 : Int)), (6, .pointer (some ⟨q, 0, none⟩)), (5, vInt (pc : Int)), (1, .slice a1 l.length c1)]) (fun t => Mem w [] [t.2.2.2.2.2.2, some (q, blk [Value.int .i32 0, Value.int .u32 0, vInt (pc : Int), .slice t.2.2.2.2.1 (qL t.2.1 t.2.2.1).length t.2.2.2.2.2.1, Value.bool t.2.2.2.1] 70)]) (fun t => l.length - t.1) (0, 0, 0, false, a43, c43, e43) ⟨Nat.zero_le _, Nat.le_refl _, Nat.le_refl _, hr43⟩ ⟨rfl, rfl, rfl, rfl, rfl, rfl, rfl, rfl⟩ (fun w hm => hm) ?_
  rintro ⟨i, f, g, cl, a, c, e⟩ ⟨hi, hfg0, hgi, hrow⟩
  simp only at hi hfg0 hgi hrow ⊢
  have hql := qL_len f g
  refine sw_seq ?_
  refine sw_seq ?_
  refine sw_region ?_
  refine ow_val (val_move rfl) rfl ?_   -- 60
  refine ow_val (val_move rfl) rfl ?_   -- 61
  refine ow_val (val_len rfl Try.underlying58) rfl ?_   -- 62
  refine ow_val (val_lss_int rfl rfl) rfl ?_   -- 63
  refine ow_nil (into ?_)
  refine sw_if rfl (fun h0i => ?_) (fun h0i => ?_)
  · -- then
    obtain ⟨ba, oa, rfl⟩ := hr1.addr (by rw [List.length_map]; omega)
    obtain ⟨x, hx⟩ : ∃ z, l.getD i default = z := ⟨_, rfl⟩
    refine sw_skip (into ?_)
    refine sw_seq ?_
    refine sw_block ?_
    refine sw_seq ?_
    refine sw_block ?_
    refine sw_seq ?_
    rcases (show (x = 0 ∧ cl = false) ∨ (x = 0 ∧ cl = true) ∨ (0 < x ∧ cl = false) ∨ (0 < x ∧ cl = true) ∨ (x < 0 ∧ ¬ f < g) ∨ (x < 0 ∧ f < g) by cases cl <;> simp <;> omega) with ⟨h0, rfl⟩ | ⟨h0, rfl⟩ | ⟨h0, rfl⟩ | ⟨h0, rfl⟩ | ⟨h0, hfg⟩ | ⟨h0, hfg⟩
    · -- case
      refine sw_region ?_
      refine ow_val (val_move rfl) rfl ?_   -- 88
      refine ow_val (val_move rfl) rfl ?_   -- 89
      refine ow_val (val_indexAddr_slice i (oa + i * 1) rfl rfl Try.underlying58 Try.sizeOf59 (by omega) (by omega) (by omega)) rfl ?_   -- 90
      refine ow_val ((val_load (v := Value.int .i8 (l.getD i default)) rfl Try.isAgg59 (fun w' hm => Rd.get (V := fun x => Value.int .i8 x) (p := l) (k := i) (hr1.mem hm) (by omega) (by omega))).to (v' := .int .i8 x) (by rw [hx])) rfl ?_   -- 91
      refine ow_val ((val_eql_i8 rfl rfl).to (congrArg Value.bool (decide_eq_true (h0)))) rfl ?_   -- 92
      refine ow_val (val_assign rfl) rfl ?_   -- 87
      refine ow_nil (into ?_)
      refine sw_true rfl rfl ?_
      refine sw_seq ?_
      refine sw_region ?_
      refine ow_val (val_move rfl) rfl ?_   -- 93
      refine ow_call_two' (σ := Unit) (fun _ => vInt 0) (fun _ => blk [Value.int .i32 0, Value.int .u32 0, vInt (pc : Int), .slice a (qL f g).length c, Value.bool true] 70) (fun _ => e) (fun _ => True) (fun _ => [e, some (q, blk [Value.int .i32 0, Value.int .u32 0, vInt (pc : Int), .slice a (qL f g).length c, Value.bool true] 70)]) 1 0 rfl rfl (by decide) (fun _ => rfl) (callsTo Try.func25 rfl (by kernel_rfl) rfl) rfl (fun w hm hm2 => (iClose_no w q a c (qL f g) e (pc : Int) hpl hrow (by simp only [List.length_append, List.length_cons, List.length_nil, qL_len]; omega) hm2).mono fun _ _ ⟨u, he, hu, hm3⟩ => ⟨u, he, (), hu, trivial, hm3⟩) ?_   -- 94
      rintro ⟨⟩ -
      refine ow_val (val_assign rfl) rfl ?_   -- 16
      refine ow_nil (into ?_)
      refine sw_seq ?_
      refine sw_seq ?_
      refine sw_region ?_
      refine ow_val (val_move rfl) rfl ?_   -- 95
      refine ow_val (val_move rfl) rfl ?_   -- 96
      refine ow_val ((val_eql_int rfl rfl).to (v' := .bool false) (congrArg Value.bool (decide_eq_false (by simp)))) rfl ?_   -- 97
      refine ow_val (val_neq_bool Try.underlying4 rfl rfl) rfl ?_   -- 98
      refine ow_nil (into ?_)
      refine sw_false rfl rfl ?_
      refine sw_skip (into ?_)
      refine sw_region ?_
      refine ow_val (val_assign rfl) rfl ?_   -- 14
      refine ow_nil (into ?_)
      refine sw_seq ?_
      refine sw_region ?_
      refine ow_val (val_move rfl) rfl ?_   -- 130
      refine ow_call_keep (v := vInt (min ((qL f g).length : Int) (pc : Int))) 1 0 rfl rfl (by decide) (callsTo Try.func23 rfl (by kernel_rfl) rfl) rfl (fun w hm hm2 => iLen_any w true q a c (qL f g) e (pc : Int) hpl hrow (by simp only [List.length_append, List.length_cons, List.length_nil, qL_len]; omega) hm2) ?_   -- 131
      refine ow_val (val_move rfl) rfl ?_   -- 132
      refine ow_val (val_move rfl) rfl ?_   -- 133
      refine ow_val (val_sub_int ((g - f : Nat) : Int) rfl rfl (by omega) (by omega)) rfl ?_   -- 134
      refine ow_val (val_move rfl) rfl ?_   -- 135
      refine ow_val (val_min rfl rfl) rfl ?_   -- 136
      refine ow_val ((val_neq_int rfl rfl).to (congrArg Value.bool (decide_eq_false ((fun h => h (by first | (simp only [List.length_append, List.length_cons, List.length_nil, qL_len]; done) | (simp only [List.length_append, List.length_cons, List.length_nil, qL_len]; omega) | omega)))))) rfl ?_   -- 137
      refine ow_val (val_move rfl) rfl ?_   -- 138
      refine ow_guard_yes rfl rfl rfl ?_
      refine ow_val (val_move rfl) rfl ?_   -- 139
      refine ow_guard_yes rfl rfl rfl ?_
      refine ow_call_keep (v := vInt (max 0 (((qL f g).length : Int) - (pc : Int)))) 1 0 rfl rfl (by decide) (callsTo Try.func24 rfl (by kernel_rfl) rfl) rfl (fun w hm hm2 => iLine_any w true q a c (qL f g) e (pc : Int) hpl hrow (by simp only [List.length_append, List.length_cons, List.length_nil, qL_len]; omega) hm2) ?_   -- 140
      refine ow_guard_yes rfl rfl rfl ?_
      refine ow_val (val_move rfl) rfl ?_   -- 141
      refine ow_guard_yes rfl rfl rfl ?_
      refine ow_val (val_move rfl) rfl ?_   -- 142
      refine ow_guard_yes rfl rfl rfl ?_
      refine ow_val (val_sub_int ((g - f : Nat) : Int) rfl rfl (by omega) (by omega)) rfl ?_   -- 143
      refine ow_guard_yes rfl rfl rfl ?_
      refine ow_val (val_move rfl) rfl ?_   -- 144
      refine ow_guard_yes rfl rfl rfl ?_
      refine ow_val (val_sub_int _ rfl rfl rfl (by omega)) rfl ?_   -- 145
      refine ow_guard_yes rfl rfl rfl ?_
      refine ow_val (val_max rfl rfl) rfl ?_   -- 146
      refine ow_guard_yes rfl rfl rfl ?_
      refine ow_val ((val_neq_int rfl rfl).to (congrArg Value.bool (decide_eq_false ((fun h => h (by first | (simp only [List.length_append, List.length_cons, List.length_nil, qL_len]; done) | (simp only [List.length_append, List.length_cons, List.length_nil, qL_len]; omega) | omega)))))) rfl ?_   -- 147
      refine ow_val (val_pick_false rfl rfl) rfl ?_   -- 148
      refine ow_val (val_move rfl) rfl ?_   -- 149
      refine ow_guard_yes rfl rfl rfl ?_
      refine ow_val (val_move rfl) rfl ?_   -- 150
      refine ow_guard_yes rfl rfl rfl ?_
      refine ow_call_keep (v := .bool true) 1 0 rfl rfl (by decide) (callsTo Try.func26 rfl (by kernel_rfl) rfl) rfl (fun w hm hm2 => iClosed_any w true q a c (qL f g) e (pc : Int) hpl hrow (by simp only [List.length_append, List.length_cons, List.length_nil, qL_len]; omega) hm2) ?_   -- 151
      refine ow_guard_yes rfl rfl rfl ?_
      refine ow_val (val_move rfl) rfl ?_   -- 152
      refine ow_guard_yes rfl rfl rfl ?_
      refine ow_val ((val_neq_bool Try.underlying4 rfl rfl).to (v' := .bool false) (by simp)) rfl ?_   -- 153
      refine ow_val (val_pick_false rfl rfl) rfl ?_   -- 154
      refine ow_nil (into ?_)
      refine sw_false rfl rfl ?_
      refine sw_skip (into ?_)
      refine sw_region ?_
      refine ow_val (val_move rfl) rfl ?_   -- 64
      refine ow_val (val_add_int ((i + 1 : Nat) : Int) rfl rfl (by omega) (by omega)) rfl ?_   -- 65
      refine ow_val (val_assign rfl) rfl ?_   -- 15
      exact ow_nil (fun w hm => ⟨(i + 1, f, g, true, a, c, e), ⟨by dsimp only; omega, by dsimp only; omega, by dsimp only; omega, hrow⟩, by dsimp only; omega, ⟨rfl, rfl, rfl, rfl, rfl, rfl, rfl, rfl⟩, hm⟩)
    · -- case
      refine sw_region ?_
      refine ow_val (val_move rfl) rfl ?_   -- 88
      refine ow_val (val_move rfl) rfl ?_   -- 89
      refine ow_val (val_indexAddr_slice i (oa + i * 1) rfl rfl Try.underlying58 Try.sizeOf59 (by omega) (by omega) (by omega)) rfl ?_   -- 90
      refine ow_val ((val_load (v := Value.int .i8 (l.getD i default)) rfl Try.isAgg59 (fun w' hm => Rd.get (V := fun x => Value.int .i8 x) (p := l) (k := i) (hr1.mem hm) (by omega) (by omega))).to (v' := .int .i8 x) (by rw [hx])) rfl ?_   -- 91
      refine ow_val ((val_eql_i8 rfl rfl).to (congrArg Value.bool (decide_eq_true (h0)))) rfl ?_   -- 92
      refine ow_val (val_assign rfl) rfl ?_   -- 87
      refine ow_nil (into ?_)
      refine sw_true rfl rfl ?_
      refine sw_seq ?_
      refine sw_region ?_
      refine ow_val (val_move rfl) rfl ?_   -- 93
      refine ow_call_keep (v := vInt 9) 1 0 rfl rfl (by decide) (callsTo Try.func25 rfl (by kernel_rfl) rfl) rfl (fun w hm hm2 => iClose_yes w q a c (qL f g) e (pc : Int) hpl hrow (by simp only [List.length_append, List.length_cons, List.length_nil, qL_len]; omega) hm2) ?_   -- 94
      refine ow_val (val_assign rfl) rfl ?_   -- 16
      refine ow_nil (into ?_)
      refine sw_seq ?_
      refine sw_seq ?_
      refine sw_region ?_
      refine ow_val (val_move rfl) rfl ?_   -- 95
      refine ow_val (val_move rfl) rfl ?_   -- 96
      refine ow_val ((val_eql_int rfl rfl).to (v' := .bool true) (congrArg Value.bool (decide_eq_true rfl))) rfl ?_   -- 97
      refine ow_val (val_neq_bool Try.underlying4 rfl rfl) rfl ?_   -- 98
      refine ow_nil (into ?_)
      refine sw_false rfl rfl ?_
      refine sw_skip (into ?_)
      refine sw_region ?_
      refine ow_val (val_assign rfl) rfl ?_   -- 14
      refine ow_nil (into ?_)
      refine sw_seq ?_
      refine sw_region ?_
      refine ow_val (val_move rfl) rfl ?_   -- 130
      refine ow_call_keep (v := vInt (min ((qL f g).length : Int) (pc : Int))) 1 0 rfl rfl (by decide) (callsTo Try.func23 rfl (by kernel_rfl) rfl) rfl (fun w hm hm2 => iLen_any w true q a c (qL f g) e (pc : Int) hpl hrow (by simp only [List.length_append, List.length_cons, List.length_nil, qL_len]; omega) hm2) ?_   -- 131
      refine ow_val (val_move rfl) rfl ?_   -- 132
      refine ow_val (val_move rfl) rfl ?_   -- 133
      refine ow_val (val_sub_int ((g - f : Nat) : Int) rfl rfl (by omega) (by omega)) rfl ?_   -- 134
      refine ow_val (val_move rfl) rfl ?_   -- 135
      refine ow_val (val_min rfl rfl) rfl ?_   -- 136
      refine ow_val ((val_neq_int rfl rfl).to (congrArg Value.bool (decide_eq_false ((fun h => h (by first | (simp only [List.length_append, List.length_cons, List.length_nil, qL_len]; done) | (simp only [List.length_append, List.length_cons, List.length_nil, qL_len]; omega) | omega)))))) rfl ?_   -- 137
      refine ow_val (val_move rfl) rfl ?_   -- 138
      refine ow_guard_yes rfl rfl rfl ?_
      refine ow_val (val_move rfl) rfl ?_   -- 139
      refine ow_guard_yes rfl rfl rfl ?_
      refine ow_call_keep (v := vInt (max 0 (((qL f g).length : Int) - (pc : Int)))) 1 0 rfl rfl (by decide) (callsTo Try.func24 rfl (by kernel_rfl) rfl) rfl (fun w hm hm2 => iLine_any w true q a c (qL f g) e (pc : Int) hpl hrow (by simp only [List.length_append, List.length_cons, List.length_nil, qL_len]; omega) hm2) ?_   -- 140
      refine ow_guard_yes rfl rfl rfl ?_
      refine ow_val (val_move rfl) rfl ?_   -- 141
      refine ow_guard_yes rfl rfl rfl ?_
      refine ow_val (val_move rfl) rfl ?_   -- 142
      refine ow_guard_yes rfl rfl rfl ?_
      refine ow_val (val_sub_int ((g - f : Nat) : Int) rfl rfl (by omega) (by omega)) rfl ?_   -- 143
      refine ow_guard_yes rfl rfl rfl ?_
      refine ow_val (val_move rfl) rfl ?_   -- 144
      refine ow_guard_yes rfl rfl rfl ?_
      refine ow_val (val_sub_int _ rfl rfl rfl (by omega)) rfl ?_   -- 145
      refine ow_guard_yes rfl rfl rfl ?_
      refine ow_val (val_max rfl rfl) rfl ?_   -- 146
      refine ow_guard_yes rfl rfl rfl ?_
      refine ow_val ((val_neq_int rfl rfl).to (congrArg Value.bool (decide_eq_false ((fun h => h (by first | (simp only [List.length_append, List.length_cons, List.length_nil, qL_len]; done) | (simp only [List.length_append, List.length_cons, List.length_nil, qL_len]; omega) | omega)))))) rfl ?_   -- 147
      refine ow_val (val_pick_false rfl rfl) rfl ?_   -- 148
      refine ow_val (val_move rfl) rfl ?_   -- 149
      refine ow_guard_yes rfl rfl rfl ?_
      refine ow_val (val_move rfl) rfl ?_   -- 150
      refine ow_guard_yes rfl rfl rfl ?_
      refine ow_call_keep (v := .bool true) 1 0 rfl rfl (by decide) (callsTo Try.func26 rfl (by kernel_rfl) rfl) rfl (fun w hm hm2 => iClosed_any w true q a c (qL f g) e (pc : Int) hpl hrow (by simp only [List.length_append, List.length_cons, List.length_nil, qL_len]; omega) hm2) ?_   -- 151
      refine ow_guard_yes rfl rfl rfl ?_
      refine ow_val (val_move rfl) rfl ?_   -- 152
      refine ow_guard_yes rfl rfl rfl ?_
      refine ow_val ((val_neq_bool Try.underlying4 rfl rfl).to (v' := .bool false) (by simp)) rfl ?_   -- 153
      refine ow_val (val_pick_false rfl rfl) rfl ?_   -- 154
      refine ow_nil (into ?_)
      refine sw_false rfl rfl ?_
      refine sw_skip (into ?_)
      refine sw_region ?_
      refine ow_val (val_move rfl) rfl ?_   -- 64
      refine ow_val (val_add_int ((i + 1 : Nat) : Int) rfl rfl (by omega) (by omega)) rfl ?_   -- 65
      refine ow_val (val_assign rfl) rfl ?_   -- 15
      exact ow_nil (fun w hm => ⟨(i + 1, f, g, true, a, c, e), ⟨by dsimp only; omega, by dsimp only; omega, by dsimp only; omega, hrow⟩, by dsimp only; omega, ⟨rfl, rfl, rfl, rfl, rfl, rfl, rfl, rfl⟩, hm⟩)
    · -- case
      refine sw_region ?_
      refine ow_val (val_move rfl) rfl ?_   -- 88
      refine ow_val (val_move rfl) rfl ?_   -- 89
      refine ow_val (val_indexAddr_slice i (oa + i * 1) rfl rfl Try.underlying58 Try.sizeOf59 (by omega) (by omega) (by omega)) rfl ?_   -- 90
      refine ow_val ((val_load (v := Value.int .i8 (l.getD i default)) rfl Try.isAgg59 (fun w' hm => Rd.get (V := fun x => Value.int .i8 x) (p := l) (k := i) (hr1.mem hm) (by omega) (by omega))).to (v' := .int .i8 x) (by rw [hx])) rfl ?_   -- 91
      refine ow_val ((val_eql_i8 rfl rfl).to (congrArg Value.bool (decide_eq_false (by omega)))) rfl ?_   -- 92
      refine ow_val (val_assign rfl) rfl ?_   -- 87
      refine ow_nil (into ?_)
      refine sw_false rfl rfl ?_
      refine sw_seq ?_
      refine sw_region ?_
      refine ow_val (val_move rfl) rfl ?_   -- 100
      refine ow_val (val_move rfl) rfl ?_   -- 101
      refine ow_val (val_indexAddr_slice i (oa + i * 1) rfl rfl Try.underlying58 Try.sizeOf59 (by omega) (by omega) (by omega)) rfl ?_   -- 102
      refine ow_val ((val_load (v := Value.int .i8 (l.getD i default)) rfl Try.isAgg59 (fun w' hm => Rd.get (V := fun x => Value.int .i8 x) (p := l) (k := i) (hr1.mem hm) (by omega) (by omega))).to (v' := .int .i8 x) (by rw [hx])) rfl ?_   -- 103
      refine ow_val ((val_gtr_i8 rfl rfl).to (congrArg Value.bool (decide_eq_true (h0)))) rfl ?_   -- 104
      refine ow_val (val_assign rfl) rfl ?_   -- 99
      refine ow_nil (into ?_)
      refine sw_true rfl rfl ?_
      refine sw_seq ?_
      refine sw_region ?_
      refine ow_val (val_move rfl) rfl ?_   -- 106
      refine ow_val (val_move rfl) rfl ?_   -- 107
      refine ow_call_two' (σ := Option Addr × Nat × Ent) (fun _ => .tuple #[.bool (decide (((qL f g).length : Int) < (pc : Int))), vInt 0]) (fun s => blk [Value.int .i32 0, Value.int .u32 0, vInt (pc : Int), .slice s.1 (qL f g ++ [vInt (g : Int)]).length s.2.1, Value.bool false] 70) (fun s => s.2.2) (fun s => RowO (.slice s.1 (qL f g ++ [vInt (g : Int)]).length s.2.1) 3 (qL f g ++ [vInt (g : Int)]) s.2.2) (fun s => [s.2.2, some (q, blk [Value.int .i32 0, Value.int .u32 0, vInt (pc : Int), .slice s.1 (qL f g ++ [vInt (g : Int)]).length s.2.1, Value.bool false] 70)]) 1 0 rfl rfl (by decide) (fun _ => rfl) (callsTo Try.func19 rfl (by kernel_rfl) rfl) rfl (fun w hm hm2 => iPut_open w q a c (qL f g) e (pc : Int) hpl hrow (by simp only [List.length_append, List.length_cons, List.length_nil, qL_len]; omega) hm2 (g : Int) (by omega)) ?_   -- 108
      rintro ⟨a108, c108, e108⟩ hr108
      simp only at hr108 ⊢
      refine ow_val (val_move rfl) rfl ?_   -- 105
      refine ow_val (val_extract rfl rfl) rfl ?_   -- 109
      refine ow_val (val_extract rfl rfl) rfl ?_   -- 110
      refine ow_val (val_assign rfl) rfl ?_   -- 17
      refine ow_val (val_assign rfl) rfl ?_   -- 18
      refine ow_nil (into ?_)
      refine sw_seq ?_
      refine sw_seq ?_
      refine sw_region ?_
      refine ow_val (val_move rfl) rfl ?_   -- 111
      refine ow_nil (into ?_)
      refine sw_false rfl rfl ?_
      refine sw_skip (into ?_)
      refine sw_seq ?_
      refine sw_seq ?_
      refine sw_region ?_
      refine ow_val (val_move rfl) rfl ?_   -- 117
      refine ow_val ((val_neq_int rfl rfl).to (v' := .bool false) (congrArg Value.bool (decide_eq_false (fun h => h rfl)))) rfl ?_   -- 118
      refine ow_val (val_move rfl) rfl ?_   -- 119
      refine ow_guard_yes rfl rfl rfl ?_
      refine ow_val (val_move rfl) rfl ?_   -- 120
      refine ow_guard_yes rfl rfl rfl ?_
      refine ow_val (val_move rfl) rfl ?_   -- 121
      refine ow_guard_yes rfl rfl rfl ?_
      refine ow_val (val_move rfl) rfl ?_   -- 122
      refine ow_guard_yes rfl rfl rfl ?_
      refine ow_val (val_sub_int ((g - f : Nat) : Int) rfl rfl (by omega) (by omega)) rfl ?_   -- 123
      refine ow_guard_yes rfl rfl rfl ?_
      refine ow_val (val_move rfl) rfl ?_   -- 124
      refine ow_guard_yes rfl rfl rfl ?_
      refine ow_val (val_lss_int rfl rfl) rfl ?_   -- 125
      refine ow_guard_yes rfl rfl rfl ?_
      refine ow_val ((val_neq_bool Try.underlying4 rfl rfl).to (v' := .bool false) (by rw [qL_len]; simp)) rfl ?_   -- 126
      refine ow_val (val_pick_false rfl rfl) rfl ?_   -- 127
      refine ow_nil (into ?_)
      refine sw_false rfl rfl ?_
      refine sw_skip (into ?_)
      refine sw_region ?_
      refine ow_val (val_move rfl) rfl ?_   -- 128
      refine ow_val (val_add_int ((g + 1 : Nat) : Int) rfl rfl (by omega) (by omega)) rfl ?_   -- 129
      refine ow_val (val_assign rfl) rfl ?_   -- 12
      refine ow_nil (into ?_)
      refine sw_seq ?_
      refine sw_region ?_
      refine ow_val (val_move rfl) rfl ?_   -- 130
      refine ow_call_keep (v := vInt (min ((qL f g ++ [vInt (g : Int)]).length : Int) (pc : Int))) 1 0 rfl rfl (by decide) (callsTo Try.func23 rfl (by kernel_rfl) rfl) rfl (fun w hm hm2 => iLen_any w false q a108 c108 (qL f g ++ [vInt (g : Int)]) e108 (pc : Int) hpl hr108 (by simp only [List.length_append, List.length_cons, List.length_nil, qL_len]; omega) hm2) ?_   -- 131
      refine ow_val (val_move rfl) rfl ?_   -- 132
      refine ow_val (val_move rfl) rfl ?_   -- 133
      refine ow_val (val_sub_int (((g + 1) - f : Nat) : Int) rfl rfl (by omega) (by omega)) rfl ?_   -- 134
      refine ow_val (val_move rfl) rfl ?_   -- 135
      refine ow_val (val_min rfl rfl) rfl ?_   -- 136
      refine ow_val ((val_neq_int rfl rfl).to (congrArg Value.bool (decide_eq_false ((fun h => h (by first | (simp only [List.length_append, List.length_cons, List.length_nil, qL_len]; done) | (simp only [List.length_append, List.length_cons, List.length_nil, qL_len]; omega) | omega)))))) rfl ?_   -- 137
      refine ow_val (val_move rfl) rfl ?_   -- 138
      refine ow_guard_yes rfl rfl rfl ?_
      refine ow_val (val_move rfl) rfl ?_   -- 139
      refine ow_guard_yes rfl rfl rfl ?_
      refine ow_call_keep (v := vInt (max 0 (((qL f g ++ [vInt (g : Int)]).length : Int) - (pc : Int)))) 1 0 rfl rfl (by decide) (callsTo Try.func24 rfl (by kernel_rfl) rfl) rfl (fun w hm hm2 => iLine_any w false q a108 c108 (qL f g ++ [vInt (g : Int)]) e108 (pc : Int) hpl hr108 (by simp only [List.length_append, List.length_cons, List.length_nil, qL_len]; omega) hm2) ?_   -- 140
      refine ow_guard_yes rfl rfl rfl ?_
      refine ow_val (val_move rfl) rfl ?_   -- 141
      refine ow_guard_yes rfl rfl rfl ?_
      refine ow_val (val_move rfl) rfl ?_   -- 142
      refine ow_guard_yes rfl rfl rfl ?_
      refine ow_val (val_sub_int (((g + 1) - f : Nat) : Int) rfl rfl (by omega) (by omega)) rfl ?_   -- 143
      refine ow_guard_yes rfl rfl rfl ?_
      refine ow_val (val_move rfl) rfl ?_   -- 144
      refine ow_guard_yes rfl rfl rfl ?_
      refine ow_val (val_sub_int _ rfl rfl rfl (by omega)) rfl ?_   -- 145
      refine ow_guard_yes rfl rfl rfl ?_
      refine ow_val (val_max rfl rfl) rfl ?_   -- 146
      refine ow_guard_yes rfl rfl rfl ?_
      refine ow_val ((val_neq_int rfl rfl).to (congrArg Value.bool (decide_eq_false ((fun h => h (by first | (simp only [List.length_append, List.length_cons, List.length_nil, qL_len]; done) | (simp only [List.length_append, List.length_cons, List.length_nil, qL_len]; omega) | omega)))))) rfl ?_   -- 147
      refine ow_val (val_pick_false rfl rfl) rfl ?_   -- 148
      refine ow_val (val_move rfl) rfl ?_   -- 149
      refine ow_guard_yes rfl rfl rfl ?_
      refine ow_val (val_move rfl) rfl ?_   -- 150
      refine ow_guard_yes rfl rfl rfl ?_
      refine ow_call_keep (v := .bool false) 1 0 rfl rfl (by decide) (callsTo Try.func26 rfl (by kernel_rfl) rfl) rfl (fun w hm hm2 => iClosed_any w false q a108 c108 (qL f g ++ [vInt (g : Int)]) e108 (pc : Int) hpl hr108 (by simp only [List.length_append, List.length_cons, List.length_nil, qL_len]; omega) hm2) ?_   -- 151
      refine ow_guard_yes rfl rfl rfl ?_
      refine ow_val (val_move rfl) rfl ?_   -- 152
      refine ow_guard_yes rfl rfl rfl ?_
      refine ow_val ((val_neq_bool Try.underlying4 rfl rfl).to (v' := .bool false) (by simp)) rfl ?_   -- 153
      refine ow_val (val_pick_false rfl rfl) rfl ?_   -- 154
      refine ow_nil (into ?_)
      refine sw_false rfl rfl ?_
      refine sw_skip (into ?_)
      refine sw_region ?_
      refine ow_val (val_move rfl) rfl ?_   -- 64
      refine ow_val (val_add_int ((i + 1 : Nat) : Int) rfl rfl (by omega) (by omega)) rfl ?_   -- 65
      refine ow_val (val_assign rfl) rfl ?_   -- 15
      exact ow_nil (fun w hm => ⟨(i + 1, f, (g + 1), false, a108, c108, e108), ⟨by dsimp only; omega, by dsimp only; omega, by dsimp only; omega, by rw [← qL_put hfg0]; exact hr108⟩, by dsimp only; omega, ⟨rfl, rfl, rfl, rfl, rfl, rfl, rfl, rfl⟩, by rw [← qL_put hfg0]; exact hm⟩)
    · -- case
      refine sw_region ?_
      refine ow_val (val_move rfl) rfl ?_   -- 88
      refine ow_val (val_move rfl) rfl ?_   -- 89
      refine ow_val (val_indexAddr_slice i (oa + i * 1) rfl rfl Try.underlying58 Try.sizeOf59 (by omega) (by omega) (by omega)) rfl ?_   -- 90
      refine ow_val ((val_load (v := Value.int .i8 (l.getD i default)) rfl Try.isAgg59 (fun w' hm => Rd.get (V := fun x => Value.int .i8 x) (p := l) (k := i) (hr1.mem hm) (by omega) (by omega))).to (v' := .int .i8 x) (by rw [hx])) rfl ?_   -- 91
      refine ow_val ((val_eql_i8 rfl rfl).to (congrArg Value.bool (decide_eq_false (by omega)))) rfl ?_   -- 92
      refine ow_val (val_assign rfl) rfl ?_   -- 87
      refine ow_nil (into ?_)
      refine sw_false rfl rfl ?_
      refine sw_seq ?_
      refine sw_region ?_
      refine ow_val (val_move rfl) rfl ?_   -- 100
      refine ow_val (val_move rfl) rfl ?_   -- 101
      refine ow_val (val_indexAddr_slice i (oa + i * 1) rfl rfl Try.underlying58 Try.sizeOf59 (by omega) (by omega) (by omega)) rfl ?_   -- 102
      refine ow_val ((val_load (v := Value.int .i8 (l.getD i default)) rfl Try.isAgg59 (fun w' hm => Rd.get (V := fun x => Value.int .i8 x) (p := l) (k := i) (hr1.mem hm) (by omega) (by omega))).to (v' := .int .i8 x) (by rw [hx])) rfl ?_   -- 103
      refine ow_val ((val_gtr_i8 rfl rfl).to (congrArg Value.bool (decide_eq_true (h0)))) rfl ?_   -- 104
      refine ow_val (val_assign rfl) rfl ?_   -- 99
      refine ow_nil (into ?_)
      refine sw_true rfl rfl ?_
      refine sw_seq ?_
      refine sw_region ?_
      refine ow_val (val_move rfl) rfl ?_   -- 106
      refine ow_val (val_move rfl) rfl ?_   -- 107
      refine ow_call_two' (σ := Option Addr × Nat × Ent) (fun _ => .tuple #[.bool false, vInt 9]) (fun s => blk [Value.int .i32 0, Value.int .u32 0, vInt (pc : Int), .slice s.1 (qL f g).length s.2.1, Value.bool true] 70) (fun s => s.2.2) (fun s => RowO (.slice s.1 (qL f g).length s.2.1) 3 (qL f g) s.2.2) (fun s => [s.2.2, some (q, blk [Value.int .i32 0, Value.int .u32 0, vInt (pc : Int), .slice s.1 (qL f g).length s.2.1, Value.bool true] 70)]) 1 0 rfl rfl (by decide) (fun _ => rfl) (callsTo Try.func19 rfl (by kernel_rfl) rfl) rfl (fun w hm hm2 => iPut_shut w q a c (qL f g) e (pc : Int) hpl hrow (by simp only [List.length_append, List.length_cons, List.length_nil, qL_len]; omega) hm2 (g : Int)) ?_   -- 108
      rintro ⟨a108, c108, e108⟩ hr108
      simp only at hr108 ⊢
      refine ow_val (val_move rfl) rfl ?_   -- 105
      refine ow_val (val_extract rfl rfl) rfl ?_   -- 109
      refine ow_val (val_extract rfl rfl) rfl ?_   -- 110
      refine ow_val (val_assign rfl) rfl ?_   -- 17
      refine ow_val (val_assign rfl) rfl ?_   -- 18
      refine ow_nil (into ?_)
      refine sw_seq ?_
      refine sw_seq ?_
      refine sw_region ?_
      refine ow_val (val_move rfl) rfl ?_   -- 111
      refine ow_nil (into ?_)
      refine sw_true rfl rfl ?_
      refine sw_seq ?_
      refine sw_seq ?_
      refine sw_region ?_
      refine ow_val (val_move rfl) rfl ?_   -- 112
      refine ow_val ((val_neq_int rfl rfl).to (v' := .bool false) (congrArg Value.bool (decide_eq_false (fun h => h rfl)))) rfl ?_   -- 113
      refine ow_val (val_move rfl) rfl ?_   -- 114
      refine ow_guard_yes rfl rfl rfl ?_
      refine ow_val (val_move rfl) rfl ?_   -- 115
      refine ow_val (val_pick_false rfl rfl) rfl ?_   -- 116
      refine ow_nil (into ?_)
      refine sw_false rfl rfl ?_
      refine sw_skip (into ?_)
      refine sw_exit (into ?_)
      refine sw_region ?_
      refine ow_val (val_move rfl) rfl ?_   -- 64
      refine ow_val (val_add_int ((i + 1 : Nat) : Int) rfl rfl (by omega) (by omega)) rfl ?_   -- 65
      refine ow_val (val_assign rfl) rfl ?_   -- 15
      exact ow_nil (fun w hm => ⟨(i + 1, f, g, true, a108, c108, e108), ⟨by dsimp only; omega, by dsimp only; omega, by dsimp only; omega, hr108⟩, by dsimp only; omega, ⟨rfl, rfl, rfl, rfl, rfl, rfl, rfl, rfl⟩, hm⟩)
    · -- case
      refine sw_region ?_
      refine ow_val (val_move rfl) rfl ?_   -- 88
      refine ow_val (val_move rfl) rfl ?_   -- 89
      refine ow_val (val_indexAddr_slice i (oa + i * 1) rfl rfl Try.underlying58 Try.sizeOf59 (by omega) (by omega) (by omega)) rfl ?_   -- 90
      refine ow_val ((val_load (v := Value.int .i8 (l.getD i default)) rfl Try.isAgg59 (fun w' hm => Rd.get (V := fun x => Value.int .i8 x) (p := l) (k := i) (hr1.mem hm) (by omega) (by omega))).to (v' := .int .i8 x) (by rw [hx])) rfl ?_   -- 91
      refine ow_val ((val_eql_i8 rfl rfl).to (congrArg Value.bool (decide_eq_false (by omega)))) rfl ?_   -- 92
      refine ow_val (val_assign rfl) rfl ?_   -- 87
      refine ow_nil (into ?_)
      refine sw_false rfl rfl ?_
      refine sw_seq ?_
      refine sw_region ?_
      refine ow_val (val_move rfl) rfl ?_   -- 100
      refine ow_val (val_move rfl) rfl ?_   -- 101
      refine ow_val (val_indexAddr_slice i (oa + i * 1) rfl rfl Try.underlying58 Try.sizeOf59 (by omega) (by omega) (by omega)) rfl ?_   -- 102
      refine ow_val ((val_load (v := Value.int .i8 (l.getD i default)) rfl Try.isAgg59 (fun w' hm => Rd.get (V := fun x => Value.int .i8 x) (p := l) (k := i) (hr1.mem hm) (by omega) (by omega))).to (v' := .int .i8 x) (by rw [hx])) rfl ?_   -- 103
      refine ow_val ((val_gtr_i8 rfl rfl).to (congrArg Value.bool (decide_eq_false (by omega)))) rfl ?_   -- 104
      refine ow_val (val_assign rfl) rfl ?_   -- 99
      refine ow_nil (into ?_)
      refine sw_false rfl rfl ?_
      refine sw_seq ?_
      refine sw_region ?_
      refine ow_val (val_move rfl) rfl ?_   -- 67
      refine ow_call_keep (v := .tuple #[vInt 0, .bool false]) 1 0 rfl rfl (by decide) (callsTo Try.func21 rfl (by kernel_rfl) rfl) rfl (fun w hm hm2 => iTake_none w cl q a c (qL f g) e (pc : Int) hpl hrow (by simp only [List.length_append, List.length_cons, List.length_nil, qL_len]; omega) hm2 (qL_nil hfg)) ?_   -- 68
      refine ow_val (val_move rfl) rfl ?_   -- 66
      refine ow_val (val_extract rfl rfl) rfl ?_   -- 69
      refine ow_val (val_extract rfl rfl) rfl ?_   -- 70
      refine ow_val (val_assign rfl) rfl ?_   -- 19
      refine ow_val (val_assign rfl) rfl ?_   -- 20
      refine ow_nil (into ?_)
      refine sw_seq ?_
      refine sw_seq ?_
      refine sw_region ?_
      refine ow_val (val_move rfl) rfl ?_   -- 71
      refine ow_val (val_move rfl) rfl ?_   -- 72
      refine ow_val (val_move rfl) rfl ?_   -- 73
      refine ow_val ((val_lss_int rfl rfl).to (congrArg Value.bool (decide_eq_false (by omega)))) rfl ?_   -- 74
      refine ow_val (val_neq_bool Try.underlying4 rfl rfl) rfl ?_   -- 75
      refine ow_val (val_move rfl) rfl ?_   -- 76
      refine ow_guard_yes rfl rfl rfl ?_
      refine ow_val (val_move rfl) rfl ?_   -- 77
      refine ow_guard_yes rfl rfl rfl ?_
      refine ow_val (val_move rfl) rfl ?_   -- 78
      first | refine ow_guard_no rfl rfl rfl rfl rfl ?_ | refine ow_guard_none rfl rfl rfl rfl rfl ?_
      first | refine ow_guard_no rfl rfl rfl rfl rfl ?_ | refine ow_guard_none rfl rfl rfl rfl rfl ?_
      first | refine ow_guard_no rfl rfl rfl rfl rfl ?_ | refine ow_guard_none rfl rfl rfl rfl rfl ?_
      refine ow_guard_yes rfl rfl rfl ?_
      refine ow_val (val_pick_false rfl rfl) rfl ?_   -- 82
      refine ow_val (val_pick_false rfl rfl) rfl ?_   -- 83
      refine ow_nil (into ?_)
      refine sw_false rfl rfl ?_
      refine sw_skip (into ?_)
      refine sw_seq ?_
      refine sw_region ?_
      refine ow_val (val_move rfl) rfl ?_   -- 84
      refine ow_nil (into ?_)
      refine sw_false rfl rfl ?_
      refine sw_skip (into ?_)
      refine sw_seq ?_
      refine sw_region ?_
      refine ow_val (val_move rfl) rfl ?_   -- 130
      refine ow_call_keep (v := vInt (min ((qL f g).length : Int) (pc : Int))) 1 0 rfl rfl (by decide) (callsTo Try.func23 rfl (by kernel_rfl) rfl) rfl (fun w hm hm2 => iLen_any w cl q a c (qL f g) e (pc : Int) hpl hrow (by simp only [List.length_append, List.length_cons, List.length_nil, qL_len]; omega) hm2) ?_   -- 131
      refine ow_val (val_move rfl) rfl ?_   -- 132
      refine ow_val (val_move rfl) rfl ?_   -- 133
      refine ow_val (val_sub_int ((g - f : Nat) : Int) rfl rfl (by omega) (by omega)) rfl ?_   -- 134
      refine ow_val (val_move rfl) rfl ?_   -- 135
      refine ow_val (val_min rfl rfl) rfl ?_   -- 136
      refine ow_val ((val_neq_int rfl rfl).to (congrArg Value.bool (decide_eq_false ((fun h => h (by first | (simp only [List.length_append, List.length_cons, List.length_nil, qL_len]; done) | (simp only [List.length_append, List.length_cons, List.length_nil, qL_len]; omega) | omega)))))) rfl ?_   -- 137
      refine ow_val (val_move rfl) rfl ?_   -- 138
      refine ow_guard_yes rfl rfl rfl ?_
      refine ow_val (val_move rfl) rfl ?_   -- 139
      refine ow_guard_yes rfl rfl rfl ?_
      refine ow_call_keep (v := vInt (max 0 (((qL f g).length : Int) - (pc : Int)))) 1 0 rfl rfl (by decide) (callsTo Try.func24 rfl (by kernel_rfl) rfl) rfl (fun w hm hm2 => iLine_any w cl q a c (qL f g) e (pc : Int) hpl hrow (by simp only [List.length_append, List.length_cons, List.length_nil, qL_len]; omega) hm2) ?_   -- 140
      refine ow_guard_yes rfl rfl rfl ?_
      refine ow_val (val_move rfl) rfl ?_   -- 141
      refine ow_guard_yes rfl rfl rfl ?_
      refine ow_val (val_move rfl) rfl ?_   -- 142
      refine ow_guard_yes rfl rfl rfl ?_
      refine ow_val (val_sub_int ((g - f : Nat) : Int) rfl rfl (by omega) (by omega)) rfl ?_   -- 143
      refine ow_guard_yes rfl rfl rfl ?_
      refine ow_val (val_move rfl) rfl ?_   -- 144
      refine ow_guard_yes rfl rfl rfl ?_
      refine ow_val (val_sub_int _ rfl rfl rfl (by omega)) rfl ?_   -- 145
      refine ow_guard_yes rfl rfl rfl ?_
      refine ow_val (val_max rfl rfl) rfl ?_   -- 146
      refine ow_guard_yes rfl rfl rfl ?_
      refine ow_val ((val_neq_int rfl rfl).to (congrArg Value.bool (decide_eq_false ((fun h => h (by first | (simp only [List.length_append, List.length_cons, List.length_nil, qL_len]; done) | (simp only [List.length_append, List.length_cons, List.length_nil, qL_len]; omega) | omega)))))) rfl ?_   -- 147
      refine ow_val (val_pick_false rfl rfl) rfl ?_   -- 148
      refine ow_val (val_move rfl) rfl ?_   -- 149
      refine ow_guard_yes rfl rfl rfl ?_
      refine ow_val (val_move rfl) rfl ?_   -- 150
      refine ow_guard_yes rfl rfl rfl ?_
      refine ow_call_keep (v := .bool cl) 1 0 rfl rfl (by decide) (callsTo Try.func26 rfl (by kernel_rfl) rfl) rfl (fun w hm hm2 => iClosed_any w cl q a c (qL f g) e (pc : Int) hpl hrow (by simp only [List.length_append, List.length_cons, List.length_nil, qL_len]; omega) hm2) ?_   -- 151
      refine ow_guard_yes rfl rfl rfl ?_
      refine ow_val (val_move rfl) rfl ?_   -- 152
      refine ow_guard_yes rfl rfl rfl ?_
      refine ow_val ((val_neq_bool Try.underlying4 rfl rfl).to (v' := .bool false) (by simp)) rfl ?_   -- 153
      refine ow_val (val_pick_false rfl rfl) rfl ?_   -- 154
      refine ow_nil (into ?_)
      refine sw_false rfl rfl ?_
      refine sw_skip (into ?_)
      refine sw_region ?_
      refine ow_val (val_move rfl) rfl ?_   -- 64
      refine ow_val (val_add_int ((i + 1 : Nat) : Int) rfl rfl (by omega) (by omega)) rfl ?_   -- 65
      refine ow_val (val_assign rfl) rfl ?_   -- 15
      exact ow_nil (fun w hm => ⟨(i + 1, f, g, cl, a, c, e), ⟨by dsimp only; omega, by dsimp only; omega, by dsimp only; omega, hrow⟩, by dsimp only; omega, ⟨rfl, rfl, rfl, rfl, rfl, rfl, rfl, rfl⟩, hm⟩)
    · -- case
      have hqt := qL_take hfg
      rw [hqt] at hrow
      rw [hqt]
      refine sw_region ?_
      refine ow_val (val_move rfl) rfl ?_   -- 88
      refine ow_val (val_move rfl) rfl ?_   -- 89
      refine ow_val (val_indexAddr_slice i (oa + i * 1) rfl rfl Try.underlying58 Try.sizeOf59 (by omega) (by omega) (by omega)) rfl ?_   -- 90
      refine ow_val ((val_load (v := Value.int .i8 (l.getD i default)) rfl Try.isAgg59 (fun w' hm => Rd.get (V := fun x => Value.int .i8 x) (p := l) (k := i) (hr1.mem hm) (by omega) (by omega))).to (v' := .int .i8 x) (by rw [hx])) rfl ?_   -- 91
      refine ow_val ((val_eql_i8 rfl rfl).to (congrArg Value.bool (decide_eq_false (by omega)))) rfl ?_   -- 92
      refine ow_val (val_assign rfl) rfl ?_   -- 87
      refine ow_nil (into ?_)
      refine sw_false rfl rfl ?_
      refine sw_seq ?_
      refine sw_region ?_
      refine ow_val (val_move rfl) rfl ?_   -- 100
      refine ow_val (val_move rfl) rfl ?_   -- 101
      refine ow_val (val_indexAddr_slice i (oa + i * 1) rfl rfl Try.underlying58 Try.sizeOf59 (by omega) (by omega) (by omega)) rfl ?_   -- 102
      refine ow_val ((val_load (v := Value.int .i8 (l.getD i default)) rfl Try.isAgg59 (fun w' hm => Rd.get (V := fun x => Value.int .i8 x) (p := l) (k := i) (hr1.mem hm) (by omega) (by omega))).to (v' := .int .i8 x) (by rw [hx])) rfl ?_   -- 103
      refine ow_val ((val_gtr_i8 rfl rfl).to (congrArg Value.bool (decide_eq_false (by omega)))) rfl ?_   -- 104
      refine ow_val (val_assign rfl) rfl ?_   -- 99
      refine ow_nil (into ?_)
      refine sw_false rfl rfl ?_
      refine sw_seq ?_
      refine sw_region ?_
      refine ow_val (val_move rfl) rfl ?_   -- 67
      refine ow_call_two' (σ := Option Addr × Nat × Ent) (fun _ => .tuple #[vInt (f : Int), .bool true]) (fun s => blk [Value.int .i32 0, Value.int .u32 0, vInt (pc : Int), .slice s.1 (qL (f + 1) g).length s.2.1, Value.bool cl] 70) (fun s => s.2.2) (fun s => RowO (.slice s.1 (qL (f + 1) g).length s.2.1) 3 (qL (f + 1) g) s.2.2) (fun s => [s.2.2, some (q, blk [Value.int .i32 0, Value.int .u32 0, vInt (pc : Int), .slice s.1 (qL (f + 1) g).length s.2.1, Value.bool cl] 70)]) 1 0 rfl rfl (by decide) (fun _ => rfl) (callsTo Try.func21 rfl (by kernel_rfl) rfl) rfl (fun w hm hm2 => iTake_some w cl q a c (vInt (f : Int)) (qL (f + 1) g) e (pc : Int) hpl hrow (by simp only [List.length_cons, qL_len]; omega) hm2) ?_   -- 68
      rintro ⟨a68, c68, e68⟩ hr68
      simp only at hr68 ⊢
      refine ow_val (val_move rfl) rfl ?_   -- 66
      refine ow_val (val_extract rfl rfl) rfl ?_   -- 69
      refine ow_val (val_extract rfl rfl) rfl ?_   -- 70
      refine ow_val (val_assign rfl) rfl ?_   -- 19
      refine ow_val (val_assign rfl) rfl ?_   -- 20
      refine ow_nil (into ?_)
      refine sw_seq ?_
      refine sw_seq ?_
      refine sw_region ?_
      refine ow_val (val_move rfl) rfl ?_   -- 71
      refine ow_val (val_move rfl) rfl ?_   -- 72
      refine ow_val (val_move rfl) rfl ?_   -- 73
      refine ow_val ((val_lss_int rfl rfl).to (congrArg Value.bool (decide_eq_true (by omega)))) rfl ?_   -- 74
      refine ow_val (val_neq_bool Try.underlying4 rfl rfl) rfl ?_   -- 75
      refine ow_val (val_move rfl) rfl ?_   -- 76
      refine ow_guard_yes rfl rfl rfl ?_
      refine ow_val (val_move rfl) rfl ?_   -- 77
      refine ow_guard_yes rfl rfl rfl ?_
      refine ow_val (val_move rfl) rfl ?_   -- 78
      refine ow_guard_yes rfl rfl rfl ?_
      refine ow_val (val_move rfl) rfl ?_   -- 79
      refine ow_guard_yes rfl rfl rfl ?_
      refine ow_val (val_move rfl) rfl ?_   -- 80
      refine ow_guard_yes rfl rfl rfl ?_
      refine ow_val ((val_neq_int rfl rfl).to (v' := .bool false) (congrArg Value.bool (decide_eq_false (fun h => h rfl)))) rfl ?_   -- 81
      refine ow_guard_yes rfl rfl rfl ?_
      refine ow_val (val_pick_true rfl rfl) rfl ?_   -- 82
      refine ow_val (val_pick_false rfl rfl) rfl ?_   -- 83
      refine ow_nil (into ?_)
      refine sw_false rfl rfl ?_
      refine sw_skip (into ?_)
      refine sw_seq ?_
      refine sw_region ?_
      refine ow_val (val_move rfl) rfl ?_   -- 84
      refine ow_nil (into ?_)
      refine sw_true rfl rfl ?_
      refine sw_region ?_
      refine ow_val (val_move rfl) rfl ?_   -- 85
      refine ow_val (val_add_int ((f + 1 : Nat) : Int) rfl rfl (by omega) (by omega)) rfl ?_   -- 86
      refine ow_val (val_assign rfl) rfl ?_   -- 13
      refine ow_nil (into ?_)
      refine sw_seq ?_
      refine sw_region ?_
      refine ow_val (val_move rfl) rfl ?_   -- 130
      refine ow_call_keep (v := vInt (min ((qL (f + 1) g).length : Int) (pc : Int))) 1 0 rfl rfl (by decide) (callsTo Try.func23 rfl (by kernel_rfl) rfl) rfl (fun w hm hm2 => iLen_any w cl q a68 c68 (qL (f + 1) g) e68 (pc : Int) hpl hr68 (by simp only [List.length_append, List.length_cons, List.length_nil, qL_len]; omega) hm2) ?_   -- 131
      refine ow_val (val_move rfl) rfl ?_   -- 132
      refine ow_val (val_move rfl) rfl ?_   -- 133
      refine ow_val (val_sub_int ((g - (f + 1) : Nat) : Int) rfl rfl (by omega) (by omega)) rfl ?_   -- 134
      refine ow_val (val_move rfl) rfl ?_   -- 135
      refine ow_val (val_min rfl rfl) rfl ?_   -- 136
      refine ow_val ((val_neq_int rfl rfl).to (congrArg Value.bool (decide_eq_false ((fun h => h (by first | (simp only [List.length_append, List.length_cons, List.length_nil, qL_len]; done) | (simp only [List.length_append, List.length_cons, List.length_nil, qL_len]; omega) | omega)))))) rfl ?_   -- 137
      refine ow_val (val_move rfl) rfl ?_   -- 138
      refine ow_guard_yes rfl rfl rfl ?_
      refine ow_val (val_move rfl) rfl ?_   -- 139
      refine ow_guard_yes rfl rfl rfl ?_
      refine ow_call_keep (v := vInt (max 0 (((qL (f + 1) g).length : Int) - (pc : Int)))) 1 0 rfl rfl (by decide) (callsTo Try.func24 rfl (by kernel_rfl) rfl) rfl (fun w hm hm2 => iLine_any w cl q a68 c68 (qL (f + 1) g) e68 (pc : Int) hpl hr68 (by simp only [List.length_append, List.length_cons, List.length_nil, qL_len]; omega) hm2) ?_   -- 140
      refine ow_guard_yes rfl rfl rfl ?_
      refine ow_val (val_move rfl) rfl ?_   -- 141
      refine ow_guard_yes rfl rfl rfl ?_
      refine ow_val (val_move rfl) rfl ?_   -- 142
      refine ow_guard_yes rfl rfl rfl ?_
      refine ow_val (val_sub_int ((g - (f + 1) : Nat) : Int) rfl rfl (by omega) (by omega)) rfl ?_   -- 143
      refine ow_guard_yes rfl rfl rfl ?_
      refine ow_val (val_move rfl) rfl ?_   -- 144
      refine ow_guard_yes rfl rfl rfl ?_
      refine ow_val (val_sub_int _ rfl rfl rfl (by omega)) rfl ?_   -- 145
      refine ow_guard_yes rfl rfl rfl ?_
      refine ow_val (val_max rfl rfl) rfl ?_   -- 146
      refine ow_guard_yes rfl rfl rfl ?_
      refine ow_val ((val_neq_int rfl rfl).to (congrArg Value.bool (decide_eq_false ((fun h => h (by first | (simp only [List.length_append, List.length_cons, List.length_nil, qL_len]; done) | (simp only [List.length_append, List.length_cons, List.length_nil, qL_len]; omega) | omega)))))) rfl ?_   -- 147
      refine ow_val (val_pick_false rfl rfl) rfl ?_   -- 148
      refine ow_val (val_move rfl) rfl ?_   -- 149
      refine ow_guard_yes rfl rfl rfl ?_
      refine ow_val (val_move rfl) rfl ?_   -- 150
      refine ow_guard_yes rfl rfl rfl ?_
      refine ow_call_keep (v := .bool cl) 1 0 rfl rfl (by decide) (callsTo Try.func26 rfl (by kernel_rfl) rfl) rfl (fun w hm hm2 => iClosed_any w cl q a68 c68 (qL (f + 1) g) e68 (pc : Int) hpl hr68 (by simp only [List.length_append, List.length_cons, List.length_nil, qL_len]; omega) hm2) ?_   -- 151
      refine ow_guard_yes rfl rfl rfl ?_
      refine ow_val (val_move rfl) rfl ?_   -- 152
      refine ow_guard_yes rfl rfl rfl ?_
      refine ow_val ((val_neq_bool Try.underlying4 rfl rfl).to (v' := .bool false) (by simp)) rfl ?_   -- 153
      refine ow_val (val_pick_false rfl rfl) rfl ?_   -- 154
      refine ow_nil (into ?_)
      refine sw_false rfl rfl ?_
      refine sw_skip (into ?_)
      refine sw_region ?_
      refine ow_val (val_move rfl) rfl ?_   -- 64
      refine ow_val (val_add_int ((i + 1 : Nat) : Int) rfl rfl (by omega) (by omega)) rfl ?_   -- 65
      refine ow_val (val_assign rfl) rfl ?_   -- 15
      exact ow_nil (fun w hm => ⟨(i + 1, (f + 1), g, cl, a68, c68, e68), ⟨by dsimp only; omega, by dsimp only; omega, by dsimp only; omega, hr68⟩, by dsimp only; omega, ⟨rfl, rfl, rfl, rfl, rfl, rfl, rfl, rfl⟩, hm⟩)
  · -- else
    refine sw_exit (into ?_)
    refine sw_seq ?_
    refine sw_region ?_
    refine ow_val (val_assign rfl) rfl ?_   -- 4
    refine ow_nil (into ?_)
    refine sw_ret (fun w hm => ?_)
    try dsimp only [thenP, blockP, Nat.beq, cond]
    exact ret_one _ rfl rfl ⟨rfl, hm.forgetAll⟩

theorem wholeLine_any (p8 : UInt8) (w : World) (a1 : Option Addr) (c1 : Nat) (l : List Int) (hr1 : Rd w a1 (l.map fun x => Value.int .i8 x)) (hc1 : l.length ≤ c1) (hb : l.length ≤ 1048576) : Calls Try.prog 7 #[vU8 p8, .slice a1 l.length c1] w fun e w' => ∃ v, e = .returned v ∧ v = .bool true ∧ Mem w [] [] w' := line_0 p8 _ rfl w a1 c1 l hr1 hc1 hb
end Go.Proofs.Ytigogbodobifdaa
