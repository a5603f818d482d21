import Derived.Test.YtpmnhmfahgchgaaDoorSxB
set_option linter.unusedVariables false
set_option linter.unusedSimpArgs false
namespace Go.Sx
section
variable {P : Program} {n : Nat} {F : Fr} {S : World → Prop} {ty : TypeId}

theorem val_move {x : Operand} {v : Value} (h : ev F x = some v) : Val P n F S (.move x) ty v :=
  fun a w hf _ d ps af g => by simp [execOp, ev_eval hf h]
theorem val_assign {x : Operand} {v : Value} (h : ev F x = some v) : Val P n F S (.assign x) ty v :=
  fun a w hf _ d ps af g => by simp [execOp, ev_eval hf h]
theorem val_pick {c x y : Operand} {b : Bool} {v u : Value} (hc : ev F c = some (.bool b)) (hx : ev F x = some v) (hy : ev F y = some u) : Val P n F S (.pick c x y) ty (bif b then v else u) :=
  fun a w hf _ d ps af g => by
    simp only [execOp, ev_eval hf hc, ev_eval hf hx, ev_eval hf hy, asBool]
    cases b <;> simp
theorem val_pick_true {c x y : Operand} {v : Value} (hc : ev F c = some (.bool true)) (hx : ev F x = some v) : Val P n F S (.pick c x y) ty v :=
  fun a w hf _ d ps af g => by simp [execOp, ev_eval hf hc, ev_eval hf hx, asBool]
theorem val_pick_false {c x y : Operand} {v : Value} (hc : ev F c = some (.bool false)) (hy : ev F y = some v) : Val P n F S (.pick c x y) ty v :=
  fun a w hf _ d ps af g => by simp [execOp, ev_eval hf hc, ev_eval hf hy, asBool]
theorem val_not {x : Operand} {b : Bool} {t : TypeId} (h : ev F x = some (.bool b)) : Val P n F S (.unOp .not t x) ty (.bool (!b)) :=
  fun a w hf _ d ps af g => by simp [execOp, ev_eval hf h, Op.unary]
theorem val_extract {x : Operand} {vs : Array Value} {i : Nat} {v : Value} (h : ev F x = some (.tuple vs)) (hi : vs[i]? = some v) : Val P n F S (.extract x i) ty v :=
  fun a w hf _ d ps af g => by simp [execOp, ev_eval hf h, Instr.extract, hi]
theorem val_makeFunc {fn : Fn} {cap : Array Operand} {vs : Array Value} (h : ∀ a, Fits n F a → cap.map a.eval = vs) : Val P n F S (.makeFunc fn #[] cap) ty (.func fn #[] vs) :=
  fun a w hf _ d ps af g => by simp [execOp, Instr.makeFunc, h a hf]

/-! Binary operations: one law on Int, then by kinds. -/
theorem bin_ok {op : BinOp} {T U : TypeId} {x y : Operand} {u v r : Value} (hx : ev F x = some u) (hy : ev F y = some v)
    (hg : ∀ w, (eqGuard op T x y u v).run P w = .ok () w) (hr : ∀ w, (binOp op T u v).run P w = .ok r w) : Val P n F S (.binOp op T x y U) ty r :=
  fun a w hf _ d ps af g => by
    simp only [execOp, ev_eval hf hx, ev_eval hf hy, Sem.run_bind, hg, hr, Result.andThen_ok, Sem.run_pure]

theorem guard_int {op : BinOp} {T : TypeId} {x y : Operand} {k k' : IntKind} {p q : Int} (w : World) : (eqGuard op T x y (.int k p) (.int k' q)).run P w = .ok () w := by
  cases op <;> simp [eqGuard]
theorem guard_bool {op : BinOp} {T : TypeId} {x y : Operand} {p q : Bool} (w : World) : (eqGuard op T x y (.bool p) (.bool q)).run P w = .ok () w := by
  cases op <;> simp [eqGuard]
theorem guard_ptr {op : BinOp} {T : TypeId} {x y : Operand} {p q : Option Addr} (w : World) : (eqGuard op T x y (.pointer p) (.pointer q)).run P w = .ok () w := by
  cases op <;> simp [eqGuard]
theorem guard_slice {op : BinOp} {T : TypeId} {x y : Operand} {p q : Option Addr} {a b c d : Nat} (w : World) : (eqGuard op T x y (.slice p a b) (.slice q c d)).run P w = .ok () w := by
  cases op <;> simp [eqGuard]

theorem bin_int {op : BinOp} {T U : TypeId} {x y : Operand} {k k' : IntKind} {p q : Int} {r : Value} (hx : ev F x = some (.int k p)) (hy : ev F y = some (.int k' q))
    (hr : ∀ w, (binOp op T (.int k p) (.int k' q)).run P w = .ok r w) : Val P n F S (.binOp op T x y U) ty r :=
  bin_ok hx hy guard_int hr

theorem wrap_u8 (i : Int) : IntKind.u8.wrap i = i % 256 := by unfold IntKind.wrap; simp [IntKind.signed, IntKind.bits]
theorem wrap_u16 (i : Int) : IntKind.u16.wrap i = i % 65536 := by unfold IntKind.wrap; simp [IntKind.signed, IntKind.bits]
theorem wrap_u32 (i : Int) : IntKind.u32.wrap i = i % 4294967296 := by unfold IntKind.wrap; simp [IntKind.signed, IntKind.bits]
theorem wrap_u64 (i : Int) : IntKind.u64.wrap i = i % 18446744073709551616 := by unfold IntKind.wrap; simp [IntKind.signed, IntKind.bits]
theorem wrap_i64 (i : Int) (h0 : -9223372036854775808 ≤ i) (h1 : i ≤ 9223372036854775807) : IntKind.i64.wrap i = i := by
  rw [IntKind.wrap_i64]; omega
theorem val_add_u8 {T V : TypeId} {x y : Operand} {a b : UInt8} (hx : ev F x = some (vU8 a)) (hy : ev F y = some (vU8 b)) : Val P n F S (.binOp .add T x y V) ty (vU8 (a + b)) :=
  bin_int hx hy fun w => by
    simp only [binOp, Op.intArith, vU8, ne_eq, not_true, if_false, wrap_u8, UInt8.toNat_add, Sem.run_pure, Result.ok.injEq, Value.int.injEq, true_and, and_true]; omega

theorem val_sub_u8 {T V : TypeId} {x y : Operand} {a b : UInt8} (hx : ev F x = some (vU8 a)) (hy : ev F y = some (vU8 b)) : Val P n F S (.binOp .sub T x y V) ty (vU8 (a - b)) :=
  bin_int hx hy fun w => by
    simp only [binOp, Op.intArith, vU8, ne_eq, not_true, if_false, wrap_u8, UInt8.toNat_sub, Sem.run_pure, Result.ok.injEq, Value.int.injEq, true_and, and_true]; have := UInt8.toNat_lt a; have := UInt8.toNat_lt b; omega

theorem val_mul_u8 {T V : TypeId} {x y : Operand} {a b : UInt8} (hx : ev F x = some (vU8 a)) (hy : ev F y = some (vU8 b)) : Val P n F S (.binOp .mul T x y V) ty (vU8 (a * b)) :=
  bin_int hx hy fun w => by
    simp only [binOp, Op.intArith, vU8, ne_eq, not_true, if_false, wrap_u8, UInt8.toNat_mul, Sem.run_pure, Result.ok.injEq, Value.int.injEq, true_and, and_true]; simp

theorem val_and_u8 {T V : TypeId} {x y : Operand} {a b : UInt8} (hx : ev F x = some (vU8 a)) (hy : ev F y = some (vU8 b)) : Val P n F S (.binOp .and T x y V) ty (vU8 (a &&& b)) :=
  bin_int hx hy fun w => by
    have e : (binOp .and T (vU8 a) (vU8 b)).run P w = .ok (.int .u8 (IntKind.u8.wrap (((BitVec.ofInt 8 (a.toNat : Int)) &&& (BitVec.ofInt 8 (b.toNat : Int))).toNat : Int))) w := rfl
    have ha := UInt8.toNat_lt a; have hb := UInt8.toNat_lt b
    have hl := UInt8.toNat_lt (a &&& b)
    refine e.trans ?_
    simp only [vU8, Result.ok.injEq, Value.int.injEq, true_and, and_true, wrap_u8, BitVec.ofInt_natCast, BitVec.toNat_and, BitVec.toNat_ofNat, UInt8.toNat_and] at *
    rw [Nat.mod_eq_of_lt ha, Nat.mod_eq_of_lt hb]; omega

theorem val_or_u8 {T V : TypeId} {x y : Operand} {a b : UInt8} (hx : ev F x = some (vU8 a)) (hy : ev F y = some (vU8 b)) : Val P n F S (.binOp .or T x y V) ty (vU8 (a ||| b)) :=
  bin_int hx hy fun w => by
    have e : (binOp .or T (vU8 a) (vU8 b)).run P w = .ok (.int .u8 (IntKind.u8.wrap (((BitVec.ofInt 8 (a.toNat : Int)) ||| (BitVec.ofInt 8 (b.toNat : Int))).toNat : Int))) w := rfl
    have ha := UInt8.toNat_lt a; have hb := UInt8.toNat_lt b
    have hl := UInt8.toNat_lt (a ||| b)
    refine e.trans ?_
    simp only [vU8, Result.ok.injEq, Value.int.injEq, true_and, and_true, wrap_u8, BitVec.ofInt_natCast, BitVec.toNat_or, BitVec.toNat_ofNat, UInt8.toNat_or] at *
    rw [Nat.mod_eq_of_lt ha, Nat.mod_eq_of_lt hb]; omega

theorem val_xor_u8 {T V : TypeId} {x y : Operand} {a b : UInt8} (hx : ev F x = some (vU8 a)) (hy : ev F y = some (vU8 b)) : Val P n F S (.binOp .xor T x y V) ty (vU8 (a ^^^ b)) :=
  bin_int hx hy fun w => by
    have e : (binOp .xor T (vU8 a) (vU8 b)).run P w = .ok (.int .u8 (IntKind.u8.wrap (((BitVec.ofInt 8 (a.toNat : Int)) ^^^ (BitVec.ofInt 8 (b.toNat : Int))).toNat : Int))) w := rfl
    have ha := UInt8.toNat_lt a; have hb := UInt8.toNat_lt b
    have hl := UInt8.toNat_lt (a ^^^ b)
    refine e.trans ?_
    simp only [vU8, Result.ok.injEq, Value.int.injEq, true_and, and_true, wrap_u8, BitVec.ofInt_natCast, BitVec.toNat_xor, BitVec.toNat_ofNat, UInt8.toNat_xor] at *
    rw [Nat.mod_eq_of_lt ha, Nat.mod_eq_of_lt hb]; omega

theorem val_compl_u8 {T : TypeId} {x : Operand} {a : UInt8} (hx : ev F x = some (vU8 a)) : Val P n F S (.unOp .xor T x) ty (vU8 (~~~ a)) :=
  fun s w hf _ d ps af g => by
    have e : (Op.unary .xor (vU8 a)).run P w = .ok (.int .u8 (IntKind.u8.wrap (((BitVec.allOnes 8) ^^^ (BitVec.ofInt 8 (a.toNat : Int))).toNat : Int))) w := rfl
    have ha := UInt8.toNat_lt a
    simp only [execOp, ev_eval hf hx, Sem.run_bind, e, Result.andThen_ok, Sem.run_pure]
    simp only [vU8, Result.ok.injEq, Next.value.injEq, Value.int.injEq, true_and, and_true, wrap_u8, BitVec.ofInt_natCast, BitVec.allOnes_xor, BitVec.toNat_not, BitVec.toNat_ofNat, UInt8.toNat_not]
    rw [Nat.mod_eq_of_lt ha]; simp only [UInt8.size]; omega

theorem val_eql_u8 {T V : TypeId} {x y : Operand} {a b : UInt8} (hx : ev F x = some (vU8 a)) (hy : ev F y = some (vU8 b)) : Val P n F S (.binOp .eql T x y V) ty (.bool (decide (a = b))) :=
  bin_int hx hy fun w => by
    simp only [binOp, Op.intCmp, vU8, ne_eq, not_true, if_false, Sem.run_pure, Result.ok.injEq, Value.bool.injEq, and_true]
    rw [Bool.eq_iff_iff]; simp only [beq_iff_eq, bne_iff_ne, ne_eq, decide_eq_true_eq, ← UInt8.toNat_inj]; omega

theorem val_neq_u8 {T V : TypeId} {x y : Operand} {a b : UInt8} (hx : ev F x = some (vU8 a)) (hy : ev F y = some (vU8 b)) : Val P n F S (.binOp .neq T x y V) ty (.bool (decide (a ≠ b))) :=
  bin_int hx hy fun w => by
    simp only [binOp, Op.intCmp, vU8, ne_eq, not_true, if_false, Sem.run_pure, Result.ok.injEq, Value.bool.injEq, and_true]
    rw [Bool.eq_iff_iff]; simp only [beq_iff_eq, bne_iff_ne, ne_eq, decide_eq_true_eq, ← UInt8.toNat_inj]; omega

theorem val_lss_u8 {T V : TypeId} {x y : Operand} {a b : UInt8} (hx : ev F x = some (vU8 a)) (hy : ev F y = some (vU8 b)) : Val P n F S (.binOp .lss T x y V) ty (.bool (decide (a < b))) :=
  bin_int hx hy fun w => by
    simp only [binOp, Op.intCmp, vU8, ne_eq, not_true, if_false, Sem.run_pure, Result.ok.injEq, Value.bool.injEq, and_true]
    rw [Bool.eq_iff_iff]; simp only [decide_eq_true_eq, UInt8.lt_iff_toNat_lt, gt_iff_lt]; omega

theorem val_leq_u8 {T V : TypeId} {x y : Operand} {a b : UInt8} (hx : ev F x = some (vU8 a)) (hy : ev F y = some (vU8 b)) : Val P n F S (.binOp .leq T x y V) ty (.bool (decide (a ≤ b))) :=
  bin_int hx hy fun w => by
    simp only [binOp, Op.intCmp, vU8, ne_eq, not_true, if_false, Sem.run_pure, Result.ok.injEq, Value.bool.injEq, and_true]
    rw [Bool.eq_iff_iff]; simp only [decide_eq_true_eq, UInt8.le_iff_toNat_le, ge_iff_le]; omega

theorem val_gtr_u8 {T V : TypeId} {x y : Operand} {a b : UInt8} (hx : ev F x = some (vU8 a)) (hy : ev F y = some (vU8 b)) : Val P n F S (.binOp .gtr T x y V) ty (.bool (decide (b < a))) :=
  bin_int hx hy fun w => by
    simp only [binOp, Op.intCmp, vU8, ne_eq, not_true, if_false, Sem.run_pure, Result.ok.injEq, Value.bool.injEq, and_true]
    rw [Bool.eq_iff_iff]; simp only [decide_eq_true_eq, UInt8.lt_iff_toNat_lt, gt_iff_lt]; omega

theorem val_geq_u8 {T V : TypeId} {x y : Operand} {a b : UInt8} (hx : ev F x = some (vU8 a)) (hy : ev F y = some (vU8 b)) : Val P n F S (.binOp .geq T x y V) ty (.bool (decide (b ≤ a))) :=
  bin_int hx hy fun w => by
    simp only [binOp, Op.intCmp, vU8, ne_eq, not_true, if_false, Sem.run_pure, Result.ok.injEq, Value.bool.injEq, and_true]
    rw [Bool.eq_iff_iff]; simp only [decide_eq_true_eq, UInt8.le_iff_toNat_le, ge_iff_le]; omega

theorem val_shl_u8 {T V : TypeId} {x y : Operand} {a : UInt8} {k' : IntKind} {i : Int} (c : Nat) (hx : ev F x = some (vU8 a)) (hy : ev F y = some (.int k' i)) (hi : i = (c : Int)) (hc : c < 8) : Val P n F S (.binOp .shl T x y V) ty (vU8 (a <<< UInt8.ofNat c)) :=
  bin_int hx hy fun w => by
    subst hi
    have h1 : ¬ ((c : Int) < 0) := by omega
    have h2 : min (Int.toNat (c : Int)) 8 = c := by simp; omega
    have h3 : (UInt8.ofNat c).toNat % 8 = c := by rw [UInt8.toNat_ofNat']; omega
    simp only [binOp, Op.shift, vU8, h1, if_false, IntKind.bits, h2, Sem.run_pure, Result.ok.injEq, Value.int.injEq, true_and, and_true, wrap_u8, UInt8.toNat_shiftLeft, h3, Nat.shiftLeft_eq]
    simp

theorem val_shr_u8 {T V : TypeId} {x y : Operand} {a : UInt8} {k' : IntKind} {i : Int} (c : Nat) (hx : ev F x = some (vU8 a)) (hy : ev F y = some (.int k' i)) (hi : i = (c : Int)) (hc : c < 8) : Val P n F S (.binOp .shr T x y V) ty (vU8 (a >>> UInt8.ofNat c)) :=
  bin_int hx hy fun w => by
    subst hi
    have h1 : ¬ ((c : Int) < 0) := by omega
    have h2 : min (Int.toNat (c : Int)) 8 = c := by simp; omega
    have h3 : (UInt8.ofNat c).toNat % 8 = c := by rw [UInt8.toNat_ofNat']; omega
    simp only [binOp, Op.shift, vU8, h1, if_false, IntKind.bits, h2, Sem.run_pure, Result.ok.injEq, Value.int.injEq, true_and, and_true, UInt8.toNat_shiftRight, h3, Nat.shiftRight_eq_div_pow]
    have h4 : (2 : Int) ^ c = ((2 ^ c : Nat) : Int) := by simp
    rw [h4, ← Int.ofNat_fdiv]

theorem val_quo_u8 {T V : TypeId} {x y : Operand} {a b : UInt8} (hx : ev F x = some (vU8 a)) (hy : ev F y = some (vU8 b)) (hb : b ≠ 0) : Val P n F S (.binOp .quo T x y V) ty (vU8 (a / b)) :=
  bin_int hx hy fun w => by
    have hb' : ¬ ((b.toNat : Int) = 0) := by intro h; apply hb; rw [← UInt8.toNat_inj]; simpa using h
    have ha := UInt8.toNat_lt a
    simp only [binOp, Op.intDiv, vU8, ne_eq, not_true, if_false, hb', Sem.run_pure, Result.ok.injEq, Value.int.injEq, true_and, and_true, wrap_u8, UInt8.toNat_div]
    rw [Int.tdiv_eq_ediv_of_nonneg (by omega)]; have : a.toNat / b.toNat ≤ a.toNat := Nat.div_le_self _ _; have e : (a.toNat : Int) / (b.toNat : Int) = ((a.toNat / b.toNat : Nat) : Int) := by simp
    rw [e]; generalize a.toNat / b.toNat = q at *; omega

theorem val_rem_u8 {T V : TypeId} {x y : Operand} {a b : UInt8} (hx : ev F x = some (vU8 a)) (hy : ev F y = some (vU8 b)) (hb : b ≠ 0) : Val P n F S (.binOp .rem T x y V) ty (vU8 (a % b)) :=
  bin_int hx hy fun w => by
    have hb' : ¬ ((b.toNat : Int) = 0) := by intro h; apply hb; rw [← UInt8.toNat_inj]; simpa using h
    have ha := UInt8.toNat_lt a
    simp only [binOp, Op.intDiv, vU8, ne_eq, not_true, if_false, hb', Sem.run_pure, Result.ok.injEq, Value.int.injEq, true_and, and_true, UInt8.toNat_mod]
    rw [Int.tmod_eq_emod_of_nonneg (by omega)]; simp

theorem val_add_u16 {T V : TypeId} {x y : Operand} {a b : UInt16} (hx : ev F x = some (vU16 a)) (hy : ev F y = some (vU16 b)) : Val P n F S (.binOp .add T x y V) ty (vU16 (a + b)) :=
  bin_int hx hy fun w => by
    simp only [binOp, Op.intArith, vU16, ne_eq, not_true, if_false, wrap_u16, UInt16.toNat_add, Sem.run_pure, Result.ok.injEq, Value.int.injEq, true_and, and_true]; omega

theorem val_sub_u16 {T V : TypeId} {x y : Operand} {a b : UInt16} (hx : ev F x = some (vU16 a)) (hy : ev F y = some (vU16 b)) : Val P n F S (.binOp .sub T x y V) ty (vU16 (a - b)) :=
  bin_int hx hy fun w => by
    simp only [binOp, Op.intArith, vU16, ne_eq, not_true, if_false, wrap_u16, UInt16.toNat_sub, Sem.run_pure, Result.ok.injEq, Value.int.injEq, true_and, and_true]; have := UInt16.toNat_lt a; have := UInt16.toNat_lt b; omega

theorem val_mul_u16 {T V : TypeId} {x y : Operand} {a b : UInt16} (hx : ev F x = some (vU16 a)) (hy : ev F y = some (vU16 b)) : Val P n F S (.binOp .mul T x y V) ty (vU16 (a * b)) :=
  bin_int hx hy fun w => by
    simp only [binOp, Op.intArith, vU16, ne_eq, not_true, if_false, wrap_u16, UInt16.toNat_mul, Sem.run_pure, Result.ok.injEq, Value.int.injEq, true_and, and_true]; simp

theorem val_and_u16 {T V : TypeId} {x y : Operand} {a b : UInt16} (hx : ev F x = some (vU16 a)) (hy : ev F y = some (vU16 b)) : Val P n F S (.binOp .and T x y V) ty (vU16 (a &&& b)) :=
  bin_int hx hy fun w => by
    have e : (binOp .and T (vU16 a) (vU16 b)).run P w = .ok (.int .u16 (IntKind.u16.wrap (((BitVec.ofInt 16 (a.toNat : Int)) &&& (BitVec.ofInt 16 (b.toNat : Int))).toNat : Int))) w := rfl
    have ha := UInt16.toNat_lt a; have hb := UInt16.toNat_lt b
    have hl := UInt16.toNat_lt (a &&& b)
    refine e.trans ?_
    simp only [vU16, Result.ok.injEq, Value.int.injEq, true_and, and_true, wrap_u16, BitVec.ofInt_natCast, BitVec.toNat_and, BitVec.toNat_ofNat, UInt16.toNat_and] at *
    rw [Nat.mod_eq_of_lt ha, Nat.mod_eq_of_lt hb]; omega

theorem val_or_u16 {T V : TypeId} {x y : Operand} {a b : UInt16} (hx : ev F x = some (vU16 a)) (hy : ev F y = some (vU16 b)) : Val P n F S (.binOp .or T x y V) ty (vU16 (a ||| b)) :=
  bin_int hx hy fun w => by
    have e : (binOp .or T (vU16 a) (vU16 b)).run P w = .ok (.int .u16 (IntKind.u16.wrap (((BitVec.ofInt 16 (a.toNat : Int)) ||| (BitVec.ofInt 16 (b.toNat : Int))).toNat : Int))) w := rfl
    have ha := UInt16.toNat_lt a; have hb := UInt16.toNat_lt b
    have hl := UInt16.toNat_lt (a ||| b)
    refine e.trans ?_
    simp only [vU16, Result.ok.injEq, Value.int.injEq, true_and, and_true, wrap_u16, BitVec.ofInt_natCast, BitVec.toNat_or, BitVec.toNat_ofNat, UInt16.toNat_or] at *
    rw [Nat.mod_eq_of_lt ha, Nat.mod_eq_of_lt hb]; omega

theorem val_xor_u16 {T V : TypeId} {x y : Operand} {a b : UInt16} (hx : ev F x = some (vU16 a)) (hy : ev F y = some (vU16 b)) : Val P n F S (.binOp .xor T x y V) ty (vU16 (a ^^^ b)) :=
  bin_int hx hy fun w => by
    have e : (binOp .xor T (vU16 a) (vU16 b)).run P w = .ok (.int .u16 (IntKind.u16.wrap (((BitVec.ofInt 16 (a.toNat : Int)) ^^^ (BitVec.ofInt 16 (b.toNat : Int))).toNat : Int))) w := rfl
    have ha := UInt16.toNat_lt a; have hb := UInt16.toNat_lt b
    have hl := UInt16.toNat_lt (a ^^^ b)
    refine e.trans ?_
    simp only [vU16, Result.ok.injEq, Value.int.injEq, true_and, and_true, wrap_u16, BitVec.ofInt_natCast, BitVec.toNat_xor, BitVec.toNat_ofNat, UInt16.toNat_xor] at *
    rw [Nat.mod_eq_of_lt ha, Nat.mod_eq_of_lt hb]; omega

theorem val_compl_u16 {T : TypeId} {x : Operand} {a : UInt16} (hx : ev F x = some (vU16 a)) : Val P n F S (.unOp .xor T x) ty (vU16 (~~~ a)) :=
  fun s w hf _ d ps af g => by
    have e : (Op.unary .xor (vU16 a)).run P w = .ok (.int .u16 (IntKind.u16.wrap (((BitVec.allOnes 16) ^^^ (BitVec.ofInt 16 (a.toNat : Int))).toNat : Int))) w := rfl
    have ha := UInt16.toNat_lt a
    simp only [execOp, ev_eval hf hx, Sem.run_bind, e, Result.andThen_ok, Sem.run_pure]
    simp only [vU16, Result.ok.injEq, Next.value.injEq, Value.int.injEq, true_and, and_true, wrap_u16, BitVec.ofInt_natCast, BitVec.allOnes_xor, BitVec.toNat_not, BitVec.toNat_ofNat, UInt16.toNat_not]
    rw [Nat.mod_eq_of_lt ha]; simp only [UInt16.size]; omega

theorem val_eql_u16 {T V : TypeId} {x y : Operand} {a b : UInt16} (hx : ev F x = some (vU16 a)) (hy : ev F y = some (vU16 b)) : Val P n F S (.binOp .eql T x y V) ty (.bool (decide (a = b))) :=
  bin_int hx hy fun w => by
    simp only [binOp, Op.intCmp, vU16, ne_eq, not_true, if_false, Sem.run_pure, Result.ok.injEq, Value.bool.injEq, and_true]
    rw [Bool.eq_iff_iff]; simp only [beq_iff_eq, bne_iff_ne, ne_eq, decide_eq_true_eq, ← UInt16.toNat_inj]; omega

theorem val_neq_u16 {T V : TypeId} {x y : Operand} {a b : UInt16} (hx : ev F x = some (vU16 a)) (hy : ev F y = some (vU16 b)) : Val P n F S (.binOp .neq T x y V) ty (.bool (decide (a ≠ b))) :=
  bin_int hx hy fun w => by
    simp only [binOp, Op.intCmp, vU16, ne_eq, not_true, if_false, Sem.run_pure, Result.ok.injEq, Value.bool.injEq, and_true]
    rw [Bool.eq_iff_iff]; simp only [beq_iff_eq, bne_iff_ne, ne_eq, decide_eq_true_eq, ← UInt16.toNat_inj]; omega

theorem val_lss_u16 {T V : TypeId} {x y : Operand} {a b : UInt16} (hx : ev F x = some (vU16 a)) (hy : ev F y = some (vU16 b)) : Val P n F S (.binOp .lss T x y V) ty (.bool (decide (a < b))) :=
  bin_int hx hy fun w => by
    simp only [binOp, Op.intCmp, vU16, ne_eq, not_true, if_false, Sem.run_pure, Result.ok.injEq, Value.bool.injEq, and_true]
    rw [Bool.eq_iff_iff]; simp only [decide_eq_true_eq, UInt16.lt_iff_toNat_lt, gt_iff_lt]; omega

theorem val_leq_u16 {T V : TypeId} {x y : Operand} {a b : UInt16} (hx : ev F x = some (vU16 a)) (hy : ev F y = some (vU16 b)) : Val P n F S (.binOp .leq T x y V) ty (.bool (decide (a ≤ b))) :=
  bin_int hx hy fun w => by
    simp only [binOp, Op.intCmp, vU16, ne_eq, not_true, if_false, Sem.run_pure, Result.ok.injEq, Value.bool.injEq, and_true]
    rw [Bool.eq_iff_iff]; simp only [decide_eq_true_eq, UInt16.le_iff_toNat_le, ge_iff_le]; omega

theorem val_gtr_u16 {T V : TypeId} {x y : Operand} {a b : UInt16} (hx : ev F x = some (vU16 a)) (hy : ev F y = some (vU16 b)) : Val P n F S (.binOp .gtr T x y V) ty (.bool (decide (b < a))) :=
  bin_int hx hy fun w => by
    simp only [binOp, Op.intCmp, vU16, ne_eq, not_true, if_false, Sem.run_pure, Result.ok.injEq, Value.bool.injEq, and_true]
    rw [Bool.eq_iff_iff]; simp only [decide_eq_true_eq, UInt16.lt_iff_toNat_lt, gt_iff_lt]; omega

theorem val_geq_u16 {T V : TypeId} {x y : Operand} {a b : UInt16} (hx : ev F x = some (vU16 a)) (hy : ev F y = some (vU16 b)) : Val P n F S (.binOp .geq T x y V) ty (.bool (decide (b ≤ a))) :=
  bin_int hx hy fun w => by
    simp only [binOp, Op.intCmp, vU16, ne_eq, not_true, if_false, Sem.run_pure, Result.ok.injEq, Value.bool.injEq, and_true]
    rw [Bool.eq_iff_iff]; simp only [decide_eq_true_eq, UInt16.le_iff_toNat_le, ge_iff_le]; omega

theorem val_shl_u16 {T V : TypeId} {x y : Operand} {a : UInt16} {k' : IntKind} {i : Int} (c : Nat) (hx : ev F x = some (vU16 a)) (hy : ev F y = some (.int k' i)) (hi : i = (c : Int)) (hc : c < 16) : Val P n F S (.binOp .shl T x y V) ty (vU16 (a <<< UInt16.ofNat c)) :=
  bin_int hx hy fun w => by
    subst hi
    have h1 : ¬ ((c : Int) < 0) := by omega
    have h2 : min (Int.toNat (c : Int)) 16 = c := by simp; omega
    have h3 : (UInt16.ofNat c).toNat % 16 = c := by rw [UInt16.toNat_ofNat']; omega
    simp only [binOp, Op.shift, vU16, h1, if_false, IntKind.bits, h2, Sem.run_pure, Result.ok.injEq, Value.int.injEq, true_and, and_true, wrap_u16, UInt16.toNat_shiftLeft, h3, Nat.shiftLeft_eq]
    simp

theorem val_shr_u16 {T V : TypeId} {x y : Operand} {a : UInt16} {k' : IntKind} {i : Int} (c : Nat) (hx : ev F x = some (vU16 a)) (hy : ev F y = some (.int k' i)) (hi : i = (c : Int)) (hc : c < 16) : Val P n F S (.binOp .shr T x y V) ty (vU16 (a >>> UInt16.ofNat c)) :=
  bin_int hx hy fun w => by
    subst hi
    have h1 : ¬ ((c : Int) < 0) := by omega
    have h2 : min (Int.toNat (c : Int)) 16 = c := by simp; omega
    have h3 : (UInt16.ofNat c).toNat % 16 = c := by rw [UInt16.toNat_ofNat']; omega
    simp only [binOp, Op.shift, vU16, h1, if_false, IntKind.bits, h2, Sem.run_pure, Result.ok.injEq, Value.int.injEq, true_and, and_true, UInt16.toNat_shiftRight, h3, Nat.shiftRight_eq_div_pow]
    have h4 : (2 : Int) ^ c = ((2 ^ c : Nat) : Int) := by simp
    rw [h4, ← Int.ofNat_fdiv]

theorem val_quo_u16 {T V : TypeId} {x y : Operand} {a b : UInt16} (hx : ev F x = some (vU16 a)) (hy : ev F y = some (vU16 b)) (hb : b ≠ 0) : Val P n F S (.binOp .quo T x y V) ty (vU16 (a / b)) :=
  bin_int hx hy fun w => by
    have hb' : ¬ ((b.toNat : Int) = 0) := by intro h; apply hb; rw [← UInt16.toNat_inj]; simpa using h
    have ha := UInt16.toNat_lt a
    simp only [binOp, Op.intDiv, vU16, ne_eq, not_true, if_false, hb', Sem.run_pure, Result.ok.injEq, Value.int.injEq, true_and, and_true, wrap_u16, UInt16.toNat_div]
    rw [Int.tdiv_eq_ediv_of_nonneg (by omega)]; have : a.toNat / b.toNat ≤ a.toNat := Nat.div_le_self _ _; have e : (a.toNat : Int) / (b.toNat : Int) = ((a.toNat / b.toNat : Nat) : Int) := by simp
    rw [e]; generalize a.toNat / b.toNat = q at *; omega

theorem val_rem_u16 {T V : TypeId} {x y : Operand} {a b : UInt16} (hx : ev F x = some (vU16 a)) (hy : ev F y = some (vU16 b)) (hb : b ≠ 0) : Val P n F S (.binOp .rem T x y V) ty (vU16 (a % b)) :=
  bin_int hx hy fun w => by
    have hb' : ¬ ((b.toNat : Int) = 0) := by intro h; apply hb; rw [← UInt16.toNat_inj]; simpa using h
    have ha := UInt16.toNat_lt a
    simp only [binOp, Op.intDiv, vU16, ne_eq, not_true, if_false, hb', Sem.run_pure, Result.ok.injEq, Value.int.injEq, true_and, and_true, UInt16.toNat_mod]
    rw [Int.tmod_eq_emod_of_nonneg (by omega)]; simp

theorem val_add_u32 {T V : TypeId} {x y : Operand} {a b : UInt32} (hx : ev F x = some (vU32 a)) (hy : ev F y = some (vU32 b)) : Val P n F S (.binOp .add T x y V) ty (vU32 (a + b)) :=
  bin_int hx hy fun w => by
    simp only [binOp, Op.intArith, vU32, ne_eq, not_true, if_false, wrap_u32, UInt32.toNat_add, Sem.run_pure, Result.ok.injEq, Value.int.injEq, true_and, and_true]; omega

theorem val_sub_u32 {T V : TypeId} {x y : Operand} {a b : UInt32} (hx : ev F x = some (vU32 a)) (hy : ev F y = some (vU32 b)) : Val P n F S (.binOp .sub T x y V) ty (vU32 (a - b)) :=
  bin_int hx hy fun w => by
    simp only [binOp, Op.intArith, vU32, ne_eq, not_true, if_false, wrap_u32, UInt32.toNat_sub, Sem.run_pure, Result.ok.injEq, Value.int.injEq, true_and, and_true]; have := UInt32.toNat_lt a; have := UInt32.toNat_lt b; omega

theorem val_mul_u32 {T V : TypeId} {x y : Operand} {a b : UInt32} (hx : ev F x = some (vU32 a)) (hy : ev F y = some (vU32 b)) : Val P n F S (.binOp .mul T x y V) ty (vU32 (a * b)) :=
  bin_int hx hy fun w => by
    simp only [binOp, Op.intArith, vU32, ne_eq, not_true, if_false, wrap_u32, UInt32.toNat_mul, Sem.run_pure, Result.ok.injEq, Value.int.injEq, true_and, and_true]; simp

theorem val_and_u32 {T V : TypeId} {x y : Operand} {a b : UInt32} (hx : ev F x = some (vU32 a)) (hy : ev F y = some (vU32 b)) : Val P n F S (.binOp .and T x y V) ty (vU32 (a &&& b)) :=
  bin_int hx hy fun w => by
    have e : (binOp .and T (vU32 a) (vU32 b)).run P w = .ok (.int .u32 (IntKind.u32.wrap (((BitVec.ofInt 32 (a.toNat : Int)) &&& (BitVec.ofInt 32 (b.toNat : Int))).toNat : Int))) w := rfl
    have ha := UInt32.toNat_lt a; have hb := UInt32.toNat_lt b
    have hl := UInt32.toNat_lt (a &&& b)
    refine e.trans ?_
    simp only [vU32, Result.ok.injEq, Value.int.injEq, true_and, and_true, wrap_u32, BitVec.ofInt_natCast, BitVec.toNat_and, BitVec.toNat_ofNat, UInt32.toNat_and] at *
    rw [Nat.mod_eq_of_lt ha, Nat.mod_eq_of_lt hb]; omega

theorem val_or_u32 {T V : TypeId} {x y : Operand} {a b : UInt32} (hx : ev F x = some (vU32 a)) (hy : ev F y = some (vU32 b)) : Val P n F S (.binOp .or T x y V) ty (vU32 (a ||| b)) :=
  bin_int hx hy fun w => by
    have e : (binOp .or T (vU32 a) (vU32 b)).run P w = .ok (.int .u32 (IntKind.u32.wrap (((BitVec.ofInt 32 (a.toNat : Int)) ||| (BitVec.ofInt 32 (b.toNat : Int))).toNat : Int))) w := rfl
    have ha := UInt32.toNat_lt a; have hb := UInt32.toNat_lt b
    have hl := UInt32.toNat_lt (a ||| b)
    refine e.trans ?_
    simp only [vU32, Result.ok.injEq, Value.int.injEq, true_and, and_true, wrap_u32, BitVec.ofInt_natCast, BitVec.toNat_or, BitVec.toNat_ofNat, UInt32.toNat_or] at *
    rw [Nat.mod_eq_of_lt ha, Nat.mod_eq_of_lt hb]; omega

theorem val_xor_u32 {T V : TypeId} {x y : Operand} {a b : UInt32} (hx : ev F x = some (vU32 a)) (hy : ev F y = some (vU32 b)) : Val P n F S (.binOp .xor T x y V) ty (vU32 (a ^^^ b)) :=
  bin_int hx hy fun w => by
    have e : (binOp .xor T (vU32 a) (vU32 b)).run P w = .ok (.int .u32 (IntKind.u32.wrap (((BitVec.ofInt 32 (a.toNat : Int)) ^^^ (BitVec.ofInt 32 (b.toNat : Int))).toNat : Int))) w := rfl
    have ha := UInt32.toNat_lt a; have hb := UInt32.toNat_lt b
    have hl := UInt32.toNat_lt (a ^^^ b)
    refine e.trans ?_
    simp only [vU32, Result.ok.injEq, Value.int.injEq, true_and, and_true, wrap_u32, BitVec.ofInt_natCast, BitVec.toNat_xor, BitVec.toNat_ofNat, UInt32.toNat_xor] at *
    rw [Nat.mod_eq_of_lt ha, Nat.mod_eq_of_lt hb]; omega

theorem val_compl_u32 {T : TypeId} {x : Operand} {a : UInt32} (hx : ev F x = some (vU32 a)) : Val P n F S (.unOp .xor T x) ty (vU32 (~~~ a)) :=
  fun s w hf _ d ps af g => by
    have e : (Op.unary .xor (vU32 a)).run P w = .ok (.int .u32 (IntKind.u32.wrap (((BitVec.allOnes 32) ^^^ (BitVec.ofInt 32 (a.toNat : Int))).toNat : Int))) w := rfl
    have ha := UInt32.toNat_lt a
    simp only [execOp, ev_eval hf hx, Sem.run_bind, e, Result.andThen_ok, Sem.run_pure]
    simp only [vU32, Result.ok.injEq, Next.value.injEq, Value.int.injEq, true_and, and_true, wrap_u32, BitVec.ofInt_natCast, BitVec.allOnes_xor, BitVec.toNat_not, BitVec.toNat_ofNat, UInt32.toNat_not]
    rw [Nat.mod_eq_of_lt ha]; simp only [UInt32.size]; omega

theorem val_eql_u32 {T V : TypeId} {x y : Operand} {a b : UInt32} (hx : ev F x = some (vU32 a)) (hy : ev F y = some (vU32 b)) : Val P n F S (.binOp .eql T x y V) ty (.bool (decide (a = b))) :=
  bin_int hx hy fun w => by
    simp only [binOp, Op.intCmp, vU32, ne_eq, not_true, if_false, Sem.run_pure, Result.ok.injEq, Value.bool.injEq, and_true]
    rw [Bool.eq_iff_iff]; simp only [beq_iff_eq, bne_iff_ne, ne_eq, decide_eq_true_eq, ← UInt32.toNat_inj]; omega

theorem val_neq_u32 {T V : TypeId} {x y : Operand} {a b : UInt32} (hx : ev F x = some (vU32 a)) (hy : ev F y = some (vU32 b)) : Val P n F S (.binOp .neq T x y V) ty (.bool (decide (a ≠ b))) :=
  bin_int hx hy fun w => by
    simp only [binOp, Op.intCmp, vU32, ne_eq, not_true, if_false, Sem.run_pure, Result.ok.injEq, Value.bool.injEq, and_true]
    rw [Bool.eq_iff_iff]; simp only [beq_iff_eq, bne_iff_ne, ne_eq, decide_eq_true_eq, ← UInt32.toNat_inj]; omega

theorem val_lss_u32 {T V : TypeId} {x y : Operand} {a b : UInt32} (hx : ev F x = some (vU32 a)) (hy : ev F y = some (vU32 b)) : Val P n F S (.binOp .lss T x y V) ty (.bool (decide (a < b))) :=
  bin_int hx hy fun w => by
    simp only [binOp, Op.intCmp, vU32, ne_eq, not_true, if_false, Sem.run_pure, Result.ok.injEq, Value.bool.injEq, and_true]
    rw [Bool.eq_iff_iff]; simp only [decide_eq_true_eq, UInt32.lt_iff_toNat_lt, gt_iff_lt]; omega

theorem val_leq_u32 {T V : TypeId} {x y : Operand} {a b : UInt32} (hx : ev F x = some (vU32 a)) (hy : ev F y = some (vU32 b)) : Val P n F S (.binOp .leq T x y V) ty (.bool (decide (a ≤ b))) :=
  bin_int hx hy fun w => by
    simp only [binOp, Op.intCmp, vU32, ne_eq, not_true, if_false, Sem.run_pure, Result.ok.injEq, Value.bool.injEq, and_true]
    rw [Bool.eq_iff_iff]; simp only [decide_eq_true_eq, UInt32.le_iff_toNat_le, ge_iff_le]; omega

theorem val_gtr_u32 {T V : TypeId} {x y : Operand} {a b : UInt32} (hx : ev F x = some (vU32 a)) (hy : ev F y = some (vU32 b)) : Val P n F S (.binOp .gtr T x y V) ty (.bool (decide (b < a))) :=
  bin_int hx hy fun w => by
    simp only [binOp, Op.intCmp, vU32, ne_eq, not_true, if_false, Sem.run_pure, Result.ok.injEq, Value.bool.injEq, and_true]
    rw [Bool.eq_iff_iff]; simp only [decide_eq_true_eq, UInt32.lt_iff_toNat_lt, gt_iff_lt]; omega

theorem val_geq_u32 {T V : TypeId} {x y : Operand} {a b : UInt32} (hx : ev F x = some (vU32 a)) (hy : ev F y = some (vU32 b)) : Val P n F S (.binOp .geq T x y V) ty (.bool (decide (b ≤ a))) :=
  bin_int hx hy fun w => by
    simp only [binOp, Op.intCmp, vU32, ne_eq, not_true, if_false, Sem.run_pure, Result.ok.injEq, Value.bool.injEq, and_true]
    rw [Bool.eq_iff_iff]; simp only [decide_eq_true_eq, UInt32.le_iff_toNat_le, ge_iff_le]; omega

theorem val_shl_u32 {T V : TypeId} {x y : Operand} {a : UInt32} {k' : IntKind} {i : Int} (c : Nat) (hx : ev F x = some (vU32 a)) (hy : ev F y = some (.int k' i)) (hi : i = (c : Int)) (hc : c < 32) : Val P n F S (.binOp .shl T x y V) ty (vU32 (a <<< UInt32.ofNat c)) :=
  bin_int hx hy fun w => by
    subst hi
    have h1 : ¬ ((c : Int) < 0) := by omega
    have h2 : min (Int.toNat (c : Int)) 32 = c := by simp; omega
    have h3 : (UInt32.ofNat c).toNat % 32 = c := by rw [UInt32.toNat_ofNat']; omega
    simp only [binOp, Op.shift, vU32, h1, if_false, IntKind.bits, h2, Sem.run_pure, Result.ok.injEq, Value.int.injEq, true_and, and_true, wrap_u32, UInt32.toNat_shiftLeft, h3, Nat.shiftLeft_eq]
    simp

theorem val_shr_u32 {T V : TypeId} {x y : Operand} {a : UInt32} {k' : IntKind} {i : Int} (c : Nat) (hx : ev F x = some (vU32 a)) (hy : ev F y = some (.int k' i)) (hi : i = (c : Int)) (hc : c < 32) : Val P n F S (.binOp .shr T x y V) ty (vU32 (a >>> UInt32.ofNat c)) :=
  bin_int hx hy fun w => by
    subst hi
    have h1 : ¬ ((c : Int) < 0) := by omega
    have h2 : min (Int.toNat (c : Int)) 32 = c := by simp; omega
    have h3 : (UInt32.ofNat c).toNat % 32 = c := by rw [UInt32.toNat_ofNat']; omega
    simp only [binOp, Op.shift, vU32, h1, if_false, IntKind.bits, h2, Sem.run_pure, Result.ok.injEq, Value.int.injEq, true_and, and_true, UInt32.toNat_shiftRight, h3, Nat.shiftRight_eq_div_pow]
    have h4 : (2 : Int) ^ c = ((2 ^ c : Nat) : Int) := by simp
    rw [h4, ← Int.ofNat_fdiv]

theorem val_quo_u32 {T V : TypeId} {x y : Operand} {a b : UInt32} (hx : ev F x = some (vU32 a)) (hy : ev F y = some (vU32 b)) (hb : b ≠ 0) : Val P n F S (.binOp .quo T x y V) ty (vU32 (a / b)) :=
  bin_int hx hy fun w => by
    have hb' : ¬ ((b.toNat : Int) = 0) := by intro h; apply hb; rw [← UInt32.toNat_inj]; simpa using h
    have ha := UInt32.toNat_lt a
    simp only [binOp, Op.intDiv, vU32, ne_eq, not_true, if_false, hb', Sem.run_pure, Result.ok.injEq, Value.int.injEq, true_and, and_true, wrap_u32, UInt32.toNat_div]
    rw [Int.tdiv_eq_ediv_of_nonneg (by omega)]; have : a.toNat / b.toNat ≤ a.toNat := Nat.div_le_self _ _; have e : (a.toNat : Int) / (b.toNat : Int) = ((a.toNat / b.toNat : Nat) : Int) := by simp
    rw [e]; generalize a.toNat / b.toNat = q at *; omega

theorem val_rem_u32 {T V : TypeId} {x y : Operand} {a b : UInt32} (hx : ev F x = some (vU32 a)) (hy : ev F y = some (vU32 b)) (hb : b ≠ 0) : Val P n F S (.binOp .rem T x y V) ty (vU32 (a % b)) :=
  bin_int hx hy fun w => by
    have hb' : ¬ ((b.toNat : Int) = 0) := by intro h; apply hb; rw [← UInt32.toNat_inj]; simpa using h
    have ha := UInt32.toNat_lt a
    simp only [binOp, Op.intDiv, vU32, ne_eq, not_true, if_false, hb', Sem.run_pure, Result.ok.injEq, Value.int.injEq, true_and, and_true, UInt32.toNat_mod]
    rw [Int.tmod_eq_emod_of_nonneg (by omega)]; simp

theorem val_add_u64 {T V : TypeId} {x y : Operand} {a b : UInt64} (hx : ev F x = some (vU64 a)) (hy : ev F y = some (vU64 b)) : Val P n F S (.binOp .add T x y V) ty (vU64 (a + b)) :=
  bin_int hx hy fun w => by
    simp only [binOp, Op.intArith, vU64, ne_eq, not_true, if_false, wrap_u64, UInt64.toNat_add, Sem.run_pure, Result.ok.injEq, Value.int.injEq, true_and, and_true]; omega

theorem val_sub_u64 {T V : TypeId} {x y : Operand} {a b : UInt64} (hx : ev F x = some (vU64 a)) (hy : ev F y = some (vU64 b)) : Val P n F S (.binOp .sub T x y V) ty (vU64 (a - b)) :=
  bin_int hx hy fun w => by
    simp only [binOp, Op.intArith, vU64, ne_eq, not_true, if_false, wrap_u64, UInt64.toNat_sub, Sem.run_pure, Result.ok.injEq, Value.int.injEq, true_and, and_true]; have := UInt64.toNat_lt a; have := UInt64.toNat_lt b; omega

theorem val_mul_u64 {T V : TypeId} {x y : Operand} {a b : UInt64} (hx : ev F x = some (vU64 a)) (hy : ev F y = some (vU64 b)) : Val P n F S (.binOp .mul T x y V) ty (vU64 (a * b)) :=
  bin_int hx hy fun w => by
    simp only [binOp, Op.intArith, vU64, ne_eq, not_true, if_false, wrap_u64, UInt64.toNat_mul, Sem.run_pure, Result.ok.injEq, Value.int.injEq, true_and, and_true]; simp

theorem val_and_u64 {T V : TypeId} {x y : Operand} {a b : UInt64} (hx : ev F x = some (vU64 a)) (hy : ev F y = some (vU64 b)) : Val P n F S (.binOp .and T x y V) ty (vU64 (a &&& b)) :=
  bin_int hx hy fun w => by
    have e : (binOp .and T (vU64 a) (vU64 b)).run P w = .ok (.int .u64 (IntKind.u64.wrap (((BitVec.ofInt 64 (a.toNat : Int)) &&& (BitVec.ofInt 64 (b.toNat : Int))).toNat : Int))) w := rfl
    have ha := UInt64.toNat_lt a; have hb := UInt64.toNat_lt b
    have hl := UInt64.toNat_lt (a &&& b)
    refine e.trans ?_
    simp only [vU64, Result.ok.injEq, Value.int.injEq, true_and, and_true, wrap_u64, BitVec.ofInt_natCast, BitVec.toNat_and, BitVec.toNat_ofNat, UInt64.toNat_and] at *
    rw [Nat.mod_eq_of_lt ha, Nat.mod_eq_of_lt hb]; omega

theorem val_or_u64 {T V : TypeId} {x y : Operand} {a b : UInt64} (hx : ev F x = some (vU64 a)) (hy : ev F y = some (vU64 b)) : Val P n F S (.binOp .or T x y V) ty (vU64 (a ||| b)) :=
  bin_int hx hy fun w => by
    have e : (binOp .or T (vU64 a) (vU64 b)).run P w = .ok (.int .u64 (IntKind.u64.wrap (((BitVec.ofInt 64 (a.toNat : Int)) ||| (BitVec.ofInt 64 (b.toNat : Int))).toNat : Int))) w := rfl
    have ha := UInt64.toNat_lt a; have hb := UInt64.toNat_lt b
    have hl := UInt64.toNat_lt (a ||| b)
    refine e.trans ?_
    simp only [vU64, Result.ok.injEq, Value.int.injEq, true_and, and_true, wrap_u64, BitVec.ofInt_natCast, BitVec.toNat_or, BitVec.toNat_ofNat, UInt64.toNat_or] at *
    rw [Nat.mod_eq_of_lt ha, Nat.mod_eq_of_lt hb]; omega

theorem val_xor_u64 {T V : TypeId} {x y : Operand} {a b : UInt64} (hx : ev F x = some (vU64 a)) (hy : ev F y = some (vU64 b)) : Val P n F S (.binOp .xor T x y V) ty (vU64 (a ^^^ b)) :=
  bin_int hx hy fun w => by
    have e : (binOp .xor T (vU64 a) (vU64 b)).run P w = .ok (.int .u64 (IntKind.u64.wrap (((BitVec.ofInt 64 (a.toNat : Int)) ^^^ (BitVec.ofInt 64 (b.toNat : Int))).toNat : Int))) w := rfl
    have ha := UInt64.toNat_lt a; have hb := UInt64.toNat_lt b
    have hl := UInt64.toNat_lt (a ^^^ b)
    refine e.trans ?_
    simp only [vU64, Result.ok.injEq, Value.int.injEq, true_and, and_true, wrap_u64, BitVec.ofInt_natCast, BitVec.toNat_xor, BitVec.toNat_ofNat, UInt64.toNat_xor] at *
    rw [Nat.mod_eq_of_lt ha, Nat.mod_eq_of_lt hb]; omega

theorem val_compl_u64 {T : TypeId} {x : Operand} {a : UInt64} (hx : ev F x = some (vU64 a)) : Val P n F S (.unOp .xor T x) ty (vU64 (~~~ a)) :=
  fun s w hf _ d ps af g => by
    have e : (Op.unary .xor (vU64 a)).run P w = .ok (.int .u64 (IntKind.u64.wrap (((BitVec.allOnes 64) ^^^ (BitVec.ofInt 64 (a.toNat : Int))).toNat : Int))) w := rfl
    have ha := UInt64.toNat_lt a
    simp only [execOp, ev_eval hf hx, Sem.run_bind, e, Result.andThen_ok, Sem.run_pure]
    simp only [vU64, Result.ok.injEq, Next.value.injEq, Value.int.injEq, true_and, and_true, wrap_u64, BitVec.ofInt_natCast, BitVec.allOnes_xor, BitVec.toNat_not, BitVec.toNat_ofNat, UInt64.toNat_not]
    rw [Nat.mod_eq_of_lt ha]; simp only [UInt64.size]; omega

theorem val_eql_u64 {T V : TypeId} {x y : Operand} {a b : UInt64} (hx : ev F x = some (vU64 a)) (hy : ev F y = some (vU64 b)) : Val P n F S (.binOp .eql T x y V) ty (.bool (decide (a = b))) :=
  bin_int hx hy fun w => by
    simp only [binOp, Op.intCmp, vU64, ne_eq, not_true, if_false, Sem.run_pure, Result.ok.injEq, Value.bool.injEq, and_true]
    rw [Bool.eq_iff_iff]; simp only [beq_iff_eq, bne_iff_ne, ne_eq, decide_eq_true_eq, ← UInt64.toNat_inj]; omega

theorem val_neq_u64 {T V : TypeId} {x y : Operand} {a b : UInt64} (hx : ev F x = some (vU64 a)) (hy : ev F y = some (vU64 b)) : Val P n F S (.binOp .neq T x y V) ty (.bool (decide (a ≠ b))) :=
  bin_int hx hy fun w => by
    simp only [binOp, Op.intCmp, vU64, ne_eq, not_true, if_false, Sem.run_pure, Result.ok.injEq, Value.bool.injEq, and_true]
    rw [Bool.eq_iff_iff]; simp only [beq_iff_eq, bne_iff_ne, ne_eq, decide_eq_true_eq, ← UInt64.toNat_inj]; omega

theorem val_lss_u64 {T V : TypeId} {x y : Operand} {a b : UInt64} (hx : ev F x = some (vU64 a)) (hy : ev F y = some (vU64 b)) : Val P n F S (.binOp .lss T x y V) ty (.bool (decide (a < b))) :=
  bin_int hx hy fun w => by
    simp only [binOp, Op.intCmp, vU64, ne_eq, not_true, if_false, Sem.run_pure, Result.ok.injEq, Value.bool.injEq, and_true]
    rw [Bool.eq_iff_iff]; simp only [decide_eq_true_eq, UInt64.lt_iff_toNat_lt, gt_iff_lt]; omega

theorem val_leq_u64 {T V : TypeId} {x y : Operand} {a b : UInt64} (hx : ev F x = some (vU64 a)) (hy : ev F y = some (vU64 b)) : Val P n F S (.binOp .leq T x y V) ty (.bool (decide (a ≤ b))) :=
  bin_int hx hy fun w => by
    simp only [binOp, Op.intCmp, vU64, ne_eq, not_true, if_false, Sem.run_pure, Result.ok.injEq, Value.bool.injEq, and_true]
    rw [Bool.eq_iff_iff]; simp only [decide_eq_true_eq, UInt64.le_iff_toNat_le, ge_iff_le]; omega

theorem val_gtr_u64 {T V : TypeId} {x y : Operand} {a b : UInt64} (hx : ev F x = some (vU64 a)) (hy : ev F y = some (vU64 b)) : Val P n F S (.binOp .gtr T x y V) ty (.bool (decide (b < a))) :=
  bin_int hx hy fun w => by
    simp only [binOp, Op.intCmp, vU64, ne_eq, not_true, if_false, Sem.run_pure, Result.ok.injEq, Value.bool.injEq, and_true]
    rw [Bool.eq_iff_iff]; simp only [decide_eq_true_eq, UInt64.lt_iff_toNat_lt, gt_iff_lt]; omega

theorem val_geq_u64 {T V : TypeId} {x y : Operand} {a b : UInt64} (hx : ev F x = some (vU64 a)) (hy : ev F y = some (vU64 b)) : Val P n F S (.binOp .geq T x y V) ty (.bool (decide (b ≤ a))) :=
  bin_int hx hy fun w => by
    simp only [binOp, Op.intCmp, vU64, ne_eq, not_true, if_false, Sem.run_pure, Result.ok.injEq, Value.bool.injEq, and_true]
    rw [Bool.eq_iff_iff]; simp only [decide_eq_true_eq, UInt64.le_iff_toNat_le, ge_iff_le]; omega

theorem val_shl_u64 {T V : TypeId} {x y : Operand} {a : UInt64} {k' : IntKind} {i : Int} (c : Nat) (hx : ev F x = some (vU64 a)) (hy : ev F y = some (.int k' i)) (hi : i = (c : Int)) (hc : c < 64) : Val P n F S (.binOp .shl T x y V) ty (vU64 (a <<< UInt64.ofNat c)) :=
  bin_int hx hy fun w => by
    subst hi
    have h1 : ¬ ((c : Int) < 0) := by omega
    have h2 : min (Int.toNat (c : Int)) 64 = c := by simp; omega
    have h3 : (UInt64.ofNat c).toNat % 64 = c := by rw [UInt64.toNat_ofNat']; omega
    simp only [binOp, Op.shift, vU64, h1, if_false, IntKind.bits, h2, Sem.run_pure, Result.ok.injEq, Value.int.injEq, true_and, and_true, wrap_u64, UInt64.toNat_shiftLeft, h3, Nat.shiftLeft_eq]
    simp

theorem val_shr_u64 {T V : TypeId} {x y : Operand} {a : UInt64} {k' : IntKind} {i : Int} (c : Nat) (hx : ev F x = some (vU64 a)) (hy : ev F y = some (.int k' i)) (hi : i = (c : Int)) (hc : c < 64) : Val P n F S (.binOp .shr T x y V) ty (vU64 (a >>> UInt64.ofNat c)) :=
  bin_int hx hy fun w => by
    subst hi
    have h1 : ¬ ((c : Int) < 0) := by omega
    have h2 : min (Int.toNat (c : Int)) 64 = c := by simp; omega
    have h3 : (UInt64.ofNat c).toNat % 64 = c := by rw [UInt64.toNat_ofNat']; omega
    simp only [binOp, Op.shift, vU64, h1, if_false, IntKind.bits, h2, Sem.run_pure, Result.ok.injEq, Value.int.injEq, true_and, and_true, UInt64.toNat_shiftRight, h3, Nat.shiftRight_eq_div_pow]
    have h4 : (2 : Int) ^ c = ((2 ^ c : Nat) : Int) := by simp
    rw [h4, ← Int.ofNat_fdiv]

theorem val_quo_u64 {T V : TypeId} {x y : Operand} {a b : UInt64} (hx : ev F x = some (vU64 a)) (hy : ev F y = some (vU64 b)) (hb : b ≠ 0) : Val P n F S (.binOp .quo T x y V) ty (vU64 (a / b)) :=
  bin_int hx hy fun w => by
    have hb' : ¬ ((b.toNat : Int) = 0) := by intro h; apply hb; rw [← UInt64.toNat_inj]; simpa using h
    have ha := UInt64.toNat_lt a
    simp only [binOp, Op.intDiv, vU64, ne_eq, not_true, if_false, hb', Sem.run_pure, Result.ok.injEq, Value.int.injEq, true_and, and_true, wrap_u64, UInt64.toNat_div]
    rw [Int.tdiv_eq_ediv_of_nonneg (by omega)]; have : a.toNat / b.toNat ≤ a.toNat := Nat.div_le_self _ _; have e : (a.toNat : Int) / (b.toNat : Int) = ((a.toNat / b.toNat : Nat) : Int) := by simp
    rw [e]; generalize a.toNat / b.toNat = q at *; omega

theorem val_rem_u64 {T V : TypeId} {x y : Operand} {a b : UInt64} (hx : ev F x = some (vU64 a)) (hy : ev F y = some (vU64 b)) (hb : b ≠ 0) : Val P n F S (.binOp .rem T x y V) ty (vU64 (a % b)) :=
  bin_int hx hy fun w => by
    have hb' : ¬ ((b.toNat : Int) = 0) := by intro h; apply hb; rw [← UInt64.toNat_inj]; simpa using h
    have ha := UInt64.toNat_lt a
    simp only [binOp, Op.intDiv, vU64, ne_eq, not_true, if_false, hb', Sem.run_pure, Result.ok.injEq, Value.int.injEq, true_and, and_true, UInt64.toNat_mod]
    rw [Int.tmod_eq_emod_of_nonneg (by omega)]; simp
end
end Go.Sx
