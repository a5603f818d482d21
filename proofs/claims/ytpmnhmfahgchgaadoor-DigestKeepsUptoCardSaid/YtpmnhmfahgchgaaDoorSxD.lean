import Derived.Test.YtpmnhmfahgchgaaDoorSxC
set_option linter.unusedVariables false
set_option linter.unusedSimpArgs false
namespace Go.Sx
section
variable {P : Program} {n : Nat} {F : Fr} {S : World → Prop} {ty : TypeId}

theorem val_add_int {T V : TypeId} {x y : Operand} {a b : Int} (r : Int) (hx : ev F x = some (vInt a)) (hy : ev F y = some (vInt b)) (hr : a + b = r) (hb : -9223372036854775808 ≤ r ∧ r ≤ 9223372036854775807) : Val P n F S (.binOp .add T x y V) ty (vInt r) :=
  bin_int hx hy fun w => by
    subst hr
    simp only [binOp, Op.intArith, ne_eq, not_true, if_false, vInt, Sem.run_pure, Result.ok.injEq, Value.int.injEq, true_and, and_true]
    exact wrap_i64 _ hb.1 hb.2

theorem val_sub_int {T V : TypeId} {x y : Operand} {a b : Int} (r : Int) (hx : ev F x = some (vInt a)) (hy : ev F y = some (vInt b)) (hr : a - b = r) (hb : -9223372036854775808 ≤ r ∧ r ≤ 9223372036854775807) : Val P n F S (.binOp .sub T x y V) ty (vInt r) :=
  bin_int hx hy fun w => by
    subst hr
    simp only [binOp, Op.intArith, ne_eq, not_true, if_false, vInt, Sem.run_pure, Result.ok.injEq, Value.int.injEq, true_and, and_true]
    exact wrap_i64 _ hb.1 hb.2

theorem val_mul_int {T V : TypeId} {x y : Operand} {a b : Int} (r : Int) (hx : ev F x = some (vInt a)) (hy : ev F y = some (vInt b)) (hr : a * b = r) (hb : -9223372036854775808 ≤ r ∧ r ≤ 9223372036854775807) : Val P n F S (.binOp .mul T x y V) ty (vInt r) :=
  bin_int hx hy fun w => by
    subst hr
    simp only [binOp, Op.intArith, ne_eq, not_true, if_false, vInt, Sem.run_pure, Result.ok.injEq, Value.int.injEq, true_and, and_true]
    exact wrap_i64 _ hb.1 hb.2

theorem val_quo_int {T V : TypeId} {x y : Operand} {a b : Int} (r : Int) (hx : ev F x = some (vInt a)) (hy : ev F y = some (vInt b)) (ha : 0 ≤ a ∧ a ≤ 9223372036854775807) (hb : 0 < b) (hr : a / b = r) : Val P n F S (.binOp .quo T x y V) ty (vInt r) :=
  bin_int hx hy fun w => by
    have hb' : ¬ b = 0 := by omega
    have h1 : 0 ≤ a / b := Int.ediv_nonneg ha.1 (by omega)
    have h2 : a / b ≤ a := Int.ediv_le_self _ ha.1
    simp only [binOp, Op.intDiv, ne_eq, not_true, if_false, hb', vInt, Sem.run_pure, Result.ok.injEq, Value.int.injEq, true_and, and_true]
    rw [Int.tdiv_eq_ediv_of_nonneg ha.1, ← hr]
    exact wrap_i64 _ (by omega) (by omega)

theorem val_rem_int {T V : TypeId} {x y : Operand} {a b : Int} (hx : ev F x = some (vInt a)) (hy : ev F y = some (vInt b)) (hb : b ≠ 0) : Val P n F S (.binOp .rem T x y V) ty (vInt (a.tmod b)) :=
  bin_int hx hy fun w => by
    simp only [binOp, Op.intDiv, ne_eq, not_true, if_false, hb, vInt, Sem.run_pure]

theorem val_rem_nn {T V : TypeId} {x y : Operand} {a b : Int} (r : Int) (hx : ev F x = some (vInt a)) (hy : ev F y = some (vInt b)) (ha : 0 ≤ a) (hb : 0 < b) (hr : a % b = r) : Val P n F S (.binOp .rem T x y V) ty (vInt r) := by
  rw [← hr, ← Int.tmod_eq_emod_of_nonneg ha]
  exact val_rem_int hx hy (by omega)

theorem val_neg_int {T : TypeId} {x : Operand} {a : Int} (r : Int) (hx : ev F x = some (vInt a)) (hr : - a = r) (hb : -9223372036854775808 ≤ r ∧ r ≤ 9223372036854775807) : Val P n F S (.unOp .neg T x) ty (vInt r) :=
  fun s w hf _ d ps af g => by
    subst hr
    have : IntKind.i64.wrap (0 - a) = -a := by rw [Int.zero_sub]; exact wrap_i64 _ hb.1 hb.2
    simp only [execOp, ev_eval hf hx, Op.unary, Op.intArith, vInt, this, Sem.run_bind, Sem.run_pure, Result.andThen_ok]

theorem val_eql_int {T V : TypeId} {x y : Operand} {a b : Int} (hx : ev F x = some (vInt a)) (hy : ev F y = some (vInt b)) : Val P n F S (.binOp .eql T x y V) ty (.bool (decide (a = b))) :=
  bin_int hx hy fun w => by
    simp only [binOp, Op.intCmp, ne_eq, not_true, if_false, Sem.run_pure, Result.ok.injEq, Value.bool.injEq, and_true]
    rw [Bool.eq_iff_iff]; simp

theorem val_neq_int {T V : TypeId} {x y : Operand} {a b : Int} (hx : ev F x = some (vInt a)) (hy : ev F y = some (vInt b)) : Val P n F S (.binOp .neq T x y V) ty (.bool (decide (a ≠ b))) :=
  bin_int hx hy fun w => by
    simp only [binOp, Op.intCmp, ne_eq, not_true, if_false, Sem.run_pure, Result.ok.injEq, Value.bool.injEq, and_true]
    rw [Bool.eq_iff_iff]; simp

theorem val_lss_int {T V : TypeId} {x y : Operand} {a b : Int} (hx : ev F x = some (vInt a)) (hy : ev F y = some (vInt b)) : Val P n F S (.binOp .lss T x y V) ty (.bool (decide (a < b))) :=
  bin_int hx hy fun w => by
    simp only [binOp, Op.intCmp, ne_eq, not_true, if_false, Sem.run_pure, Result.ok.injEq, Value.bool.injEq, and_true]

theorem val_leq_int {T V : TypeId} {x y : Operand} {a b : Int} (hx : ev F x = some (vInt a)) (hy : ev F y = some (vInt b)) : Val P n F S (.binOp .leq T x y V) ty (.bool (decide (a ≤ b))) :=
  bin_int hx hy fun w => by
    simp only [binOp, Op.intCmp, ne_eq, not_true, if_false, Sem.run_pure, Result.ok.injEq, Value.bool.injEq, and_true]

theorem val_gtr_int {T V : TypeId} {x y : Operand} {a b : Int} (hx : ev F x = some (vInt a)) (hy : ev F y = some (vInt b)) : Val P n F S (.binOp .gtr T x y V) ty (.bool (decide (b < a))) :=
  bin_int hx hy fun w => by
    simp only [binOp, Op.intCmp, ne_eq, not_true, if_false, Sem.run_pure, Result.ok.injEq, Value.bool.injEq, and_true]

theorem val_geq_int {T V : TypeId} {x y : Operand} {a b : Int} (hx : ev F x = some (vInt a)) (hy : ev F y = some (vInt b)) : Val P n F S (.binOp .geq T x y V) ty (.bool (decide (b ≤ a))) :=
  bin_int hx hy fun w => by
    simp only [binOp, Op.intCmp, ne_eq, not_true, if_false, Sem.run_pure, Result.ok.injEq, Value.bool.injEq, and_true]

theorem eqIn_nilptr {T E : TypeId} (d : Nat) (hT : P.underlying T = some (.pointer E)) (p : Option Addr) (w : World) : (Op.equalIn (d + 1) T (.pointer p) (.pointer none)).run P w = .ok p.isNone w := by
  cases p <;> simp [Op.equalIn, run_underlying hT]
theorem eqIn_nilslice {T E : TypeId} (d : Nat) (hT : P.underlying T = some (.slice E)) (p : Option Addr) (l c l' c' : Nat) (w : World) : (Op.equalIn (d + 1) T (.slice p l c) (.slice none l' c')).run P w = .ok p.isNone w := by
  cases p <;> simp [Op.equalIn, run_underlying hT]
theorem run_eql_of {T : TypeId} {u v : Value} {b : Bool} {w : World} (h : (Op.equal T u v).run P w = .ok b w) (e : binOp .eql T u v = (do pure (.bool (← Op.equal T u v)))) : (binOp .eql T u v).run P w = .ok (.bool b) w := by
  rw [e]; simp only [Sem.run_bind, h, Result.andThen_ok, Sem.run_pure]
theorem run_neq_of {T : TypeId} {u v : Value} {b : Bool} {w : World} (h : (Op.equal T u v).run P w = .ok b w) (e : binOp .neq T u v = (do pure (.bool (!(← Op.equal T u v))))) : (binOp .neq T u v).run P w = .ok (.bool (!b)) w := by
  rw [e]; simp only [Sem.run_bind, h, Result.andThen_ok, Sem.run_pure]

theorem val_eql_bool {T V : TypeId} {x y : Operand} {a b : Bool} (hT : P.underlying T = some .bool) (hx : ev F x = some (.bool a)) (hy : ev F y = some (.bool b)) : Val P n F S (.binOp .eql T x y V) ty (.bool (a == b)) :=
  bin_ok hx hy guard_bool fun w => run_eql_of (run_equalIn_bool w 9999 T a b hT) rfl
theorem val_neq_bool {T V : TypeId} {x y : Operand} {a b : Bool} (hT : P.underlying T = some .bool) (hx : ev F x = some (.bool a)) (hy : ev F y = some (.bool b)) : Val P n F S (.binOp .neq T x y V) ty (.bool (!(a == b))) :=
  bin_ok hx hy guard_bool fun w => run_neq_of (run_equalIn_bool w 9999 T a b hT) rfl
theorem val_eql_nilptr {T V E : TypeId} {x y : Operand} {p : Option Addr} (hT : P.underlying T = some (.pointer E)) (hx : ev F x = some (.pointer p)) (hy : ev F y = some (.pointer none)) : Val P n F S (.binOp .eql T x y V) ty (.bool p.isNone) :=
  bin_ok hx hy guard_ptr fun w => run_eql_of (eqIn_nilptr 9999 hT p w) rfl
theorem val_neq_nilptr {T V E : TypeId} {x y : Operand} {p : Option Addr} (hT : P.underlying T = some (.pointer E)) (hx : ev F x = some (.pointer p)) (hy : ev F y = some (.pointer none)) : Val P n F S (.binOp .neq T x y V) ty (.bool (!p.isNone)) :=
  bin_ok hx hy guard_ptr fun w => run_neq_of (eqIn_nilptr 9999 hT p w) rfl
theorem val_eql_nilslice {T V E : TypeId} {x y : Operand} {p : Option Addr} {l c l' c' : Nat} (hT : P.underlying T = some (.slice E)) (hx : ev F x = some (.slice p l c)) (hy : ev F y = some (.slice none l' c')) : Val P n F S (.binOp .eql T x y V) ty (.bool p.isNone) :=
  bin_ok hx hy guard_slice fun w => run_eql_of (eqIn_nilslice 9999 hT p l c l' c' w) rfl

theorem val_conv_u8_u8 {T U : TypeId} {x : Operand} {a : UInt8} (hT : P.underlying T = some (.int .u8)) (hU : P.underlying U = some (.int .u8)) (hx : ev F x = some (vU8 a)) : Val P n F S (.convert T U x) ty (vU8 a) :=
  fun s w hf _ d ps af g => by
    simp only [execOp, ev_eval hf hx, convert, vU8, Sem.run_bind, run_underlying hT, run_underlying hU, Result.andThen_ok, Conv.intToInt, Sem.run_pure, Result.ok.injEq, Next.value.injEq, Value.int.injEq, true_and, and_true]
    have := UInt8.toNat_lt a; rw [wrap_u8]; omega

theorem val_conv_u8_u16 {T U : TypeId} {x : Operand} {a : UInt8} (hT : P.underlying T = some (.int .u8)) (hU : P.underlying U = some (.int .u16)) (hx : ev F x = some (vU8 a)) : Val P n F S (.convert T U x) ty (vU16 a.toUInt16) :=
  fun s w hf _ d ps af g => by
    simp only [execOp, ev_eval hf hx, convert, vU8, vU16, Sem.run_bind, run_underlying hT, run_underlying hU, Result.andThen_ok, Conv.intToInt, Sem.run_pure, Result.ok.injEq, Next.value.injEq, Value.int.injEq, true_and, and_true]
    have := UInt8.toNat_lt a; rw [wrap_u16, UInt8.toNat_toUInt16]; omega

theorem val_conv_u8_u32 {T U : TypeId} {x : Operand} {a : UInt8} (hT : P.underlying T = some (.int .u8)) (hU : P.underlying U = some (.int .u32)) (hx : ev F x = some (vU8 a)) : Val P n F S (.convert T U x) ty (vU32 a.toUInt32) :=
  fun s w hf _ d ps af g => by
    simp only [execOp, ev_eval hf hx, convert, vU8, vU32, Sem.run_bind, run_underlying hT, run_underlying hU, Result.andThen_ok, Conv.intToInt, Sem.run_pure, Result.ok.injEq, Next.value.injEq, Value.int.injEq, true_and, and_true]
    have := UInt8.toNat_lt a; rw [wrap_u32, UInt8.toNat_toUInt32]; omega

theorem val_conv_u8_u64 {T U : TypeId} {x : Operand} {a : UInt8} (hT : P.underlying T = some (.int .u8)) (hU : P.underlying U = some (.int .u64)) (hx : ev F x = some (vU8 a)) : Val P n F S (.convert T U x) ty (vU64 a.toUInt64) :=
  fun s w hf _ d ps af g => by
    simp only [execOp, ev_eval hf hx, convert, vU8, vU64, Sem.run_bind, run_underlying hT, run_underlying hU, Result.andThen_ok, Conv.intToInt, Sem.run_pure, Result.ok.injEq, Next.value.injEq, Value.int.injEq, true_and, and_true]
    have := UInt8.toNat_lt a; rw [wrap_u64, UInt8.toNat_toUInt64]; omega

theorem val_conv_u8_i64 {T U : TypeId} {x : Operand} {a : UInt8} (hT : P.underlying T = some (.int .u8)) (hU : P.underlying U = some (.int .i64)) (hx : ev F x = some (vU8 a)) : Val P n F S (.convert T U x) ty (vInt (a.toNat : Int)) :=
  fun s w hf _ d ps af g => by
    simp only [execOp, ev_eval hf hx, convert, vU8, vInt, Sem.run_bind, run_underlying hT, run_underlying hU, Result.andThen_ok, Conv.intToInt, Sem.run_pure, Result.ok.injEq, Next.value.injEq, Value.int.injEq, true_and, and_true]
    have := UInt8.toNat_lt a; exact wrap_i64 _ (by omega) (by omega)

theorem val_conv_i64_u8 {T U : TypeId} {x : Operand} {a : Int} (hT : P.underlying T = some (.int .i64)) (hU : P.underlying U = some (.int .u8)) (hx : ev F x = some (vInt a)) : Val P n F S (.convert T U x) ty (vU8 (UInt8.ofInt a)) :=
  fun s w hf _ d ps af g => by
    simp only [execOp, ev_eval hf hx, convert, vU8, vInt, Sem.run_bind, run_underlying hT, run_underlying hU, Result.andThen_ok, Conv.intToInt, Sem.run_pure, Result.ok.injEq, Next.value.injEq, Value.int.injEq, true_and, and_true]
    rw [wrap_u8]; unfold UInt8.ofInt; rw [UInt8.toNat_ofNat']; omega

theorem val_conv_u16_u8 {T U : TypeId} {x : Operand} {a : UInt16} (hT : P.underlying T = some (.int .u16)) (hU : P.underlying U = some (.int .u8)) (hx : ev F x = some (vU16 a)) : Val P n F S (.convert T U x) ty (vU8 a.toUInt8) :=
  fun s w hf _ d ps af g => by
    simp only [execOp, ev_eval hf hx, convert, vU16, vU8, Sem.run_bind, run_underlying hT, run_underlying hU, Result.andThen_ok, Conv.intToInt, Sem.run_pure, Result.ok.injEq, Next.value.injEq, Value.int.injEq, true_and, and_true]
    have := UInt16.toNat_lt a; rw [wrap_u8, UInt16.toNat_toUInt8]; omega

theorem val_conv_u16_u16 {T U : TypeId} {x : Operand} {a : UInt16} (hT : P.underlying T = some (.int .u16)) (hU : P.underlying U = some (.int .u16)) (hx : ev F x = some (vU16 a)) : Val P n F S (.convert T U x) ty (vU16 a) :=
  fun s w hf _ d ps af g => by
    simp only [execOp, ev_eval hf hx, convert, vU16, Sem.run_bind, run_underlying hT, run_underlying hU, Result.andThen_ok, Conv.intToInt, Sem.run_pure, Result.ok.injEq, Next.value.injEq, Value.int.injEq, true_and, and_true]
    have := UInt16.toNat_lt a; rw [wrap_u16]; omega

theorem val_conv_u16_u32 {T U : TypeId} {x : Operand} {a : UInt16} (hT : P.underlying T = some (.int .u16)) (hU : P.underlying U = some (.int .u32)) (hx : ev F x = some (vU16 a)) : Val P n F S (.convert T U x) ty (vU32 a.toUInt32) :=
  fun s w hf _ d ps af g => by
    simp only [execOp, ev_eval hf hx, convert, vU16, vU32, Sem.run_bind, run_underlying hT, run_underlying hU, Result.andThen_ok, Conv.intToInt, Sem.run_pure, Result.ok.injEq, Next.value.injEq, Value.int.injEq, true_and, and_true]
    have := UInt16.toNat_lt a; rw [wrap_u32, UInt16.toNat_toUInt32]; omega

theorem val_conv_u16_u64 {T U : TypeId} {x : Operand} {a : UInt16} (hT : P.underlying T = some (.int .u16)) (hU : P.underlying U = some (.int .u64)) (hx : ev F x = some (vU16 a)) : Val P n F S (.convert T U x) ty (vU64 a.toUInt64) :=
  fun s w hf _ d ps af g => by
    simp only [execOp, ev_eval hf hx, convert, vU16, vU64, Sem.run_bind, run_underlying hT, run_underlying hU, Result.andThen_ok, Conv.intToInt, Sem.run_pure, Result.ok.injEq, Next.value.injEq, Value.int.injEq, true_and, and_true]
    have := UInt16.toNat_lt a; rw [wrap_u64, UInt16.toNat_toUInt64]; omega

theorem val_conv_u16_i64 {T U : TypeId} {x : Operand} {a : UInt16} (hT : P.underlying T = some (.int .u16)) (hU : P.underlying U = some (.int .i64)) (hx : ev F x = some (vU16 a)) : Val P n F S (.convert T U x) ty (vInt (a.toNat : Int)) :=
  fun s w hf _ d ps af g => by
    simp only [execOp, ev_eval hf hx, convert, vU16, vInt, Sem.run_bind, run_underlying hT, run_underlying hU, Result.andThen_ok, Conv.intToInt, Sem.run_pure, Result.ok.injEq, Next.value.injEq, Value.int.injEq, true_and, and_true]
    have := UInt16.toNat_lt a; exact wrap_i64 _ (by omega) (by omega)

theorem val_conv_i64_u16 {T U : TypeId} {x : Operand} {a : Int} (hT : P.underlying T = some (.int .i64)) (hU : P.underlying U = some (.int .u16)) (hx : ev F x = some (vInt a)) : Val P n F S (.convert T U x) ty (vU16 (UInt16.ofInt a)) :=
  fun s w hf _ d ps af g => by
    simp only [execOp, ev_eval hf hx, convert, vU16, vInt, Sem.run_bind, run_underlying hT, run_underlying hU, Result.andThen_ok, Conv.intToInt, Sem.run_pure, Result.ok.injEq, Next.value.injEq, Value.int.injEq, true_and, and_true]
    rw [wrap_u16]; unfold UInt16.ofInt; rw [UInt16.toNat_ofNat']; omega

theorem val_conv_u32_u8 {T U : TypeId} {x : Operand} {a : UInt32} (hT : P.underlying T = some (.int .u32)) (hU : P.underlying U = some (.int .u8)) (hx : ev F x = some (vU32 a)) : Val P n F S (.convert T U x) ty (vU8 a.toUInt8) :=
  fun s w hf _ d ps af g => by
    simp only [execOp, ev_eval hf hx, convert, vU32, vU8, Sem.run_bind, run_underlying hT, run_underlying hU, Result.andThen_ok, Conv.intToInt, Sem.run_pure, Result.ok.injEq, Next.value.injEq, Value.int.injEq, true_and, and_true]
    have := UInt32.toNat_lt a; rw [wrap_u8, UInt32.toNat_toUInt8]; omega

theorem val_conv_u32_u16 {T U : TypeId} {x : Operand} {a : UInt32} (hT : P.underlying T = some (.int .u32)) (hU : P.underlying U = some (.int .u16)) (hx : ev F x = some (vU32 a)) : Val P n F S (.convert T U x) ty (vU16 a.toUInt16) :=
  fun s w hf _ d ps af g => by
    simp only [execOp, ev_eval hf hx, convert, vU32, vU16, Sem.run_bind, run_underlying hT, run_underlying hU, Result.andThen_ok, Conv.intToInt, Sem.run_pure, Result.ok.injEq, Next.value.injEq, Value.int.injEq, true_and, and_true]
    have := UInt32.toNat_lt a; rw [wrap_u16, UInt32.toNat_toUInt16]; omega

theorem val_conv_u32_u32 {T U : TypeId} {x : Operand} {a : UInt32} (hT : P.underlying T = some (.int .u32)) (hU : P.underlying U = some (.int .u32)) (hx : ev F x = some (vU32 a)) : Val P n F S (.convert T U x) ty (vU32 a) :=
  fun s w hf _ d ps af g => by
    simp only [execOp, ev_eval hf hx, convert, vU32, Sem.run_bind, run_underlying hT, run_underlying hU, Result.andThen_ok, Conv.intToInt, Sem.run_pure, Result.ok.injEq, Next.value.injEq, Value.int.injEq, true_and, and_true]
    have := UInt32.toNat_lt a; rw [wrap_u32]; omega

theorem val_conv_u32_u64 {T U : TypeId} {x : Operand} {a : UInt32} (hT : P.underlying T = some (.int .u32)) (hU : P.underlying U = some (.int .u64)) (hx : ev F x = some (vU32 a)) : Val P n F S (.convert T U x) ty (vU64 a.toUInt64) :=
  fun s w hf _ d ps af g => by
    simp only [execOp, ev_eval hf hx, convert, vU32, vU64, Sem.run_bind, run_underlying hT, run_underlying hU, Result.andThen_ok, Conv.intToInt, Sem.run_pure, Result.ok.injEq, Next.value.injEq, Value.int.injEq, true_and, and_true]
    have := UInt32.toNat_lt a; rw [wrap_u64, UInt32.toNat_toUInt64]; omega

theorem val_conv_u32_i64 {T U : TypeId} {x : Operand} {a : UInt32} (hT : P.underlying T = some (.int .u32)) (hU : P.underlying U = some (.int .i64)) (hx : ev F x = some (vU32 a)) : Val P n F S (.convert T U x) ty (vInt (a.toNat : Int)) :=
  fun s w hf _ d ps af g => by
    simp only [execOp, ev_eval hf hx, convert, vU32, vInt, Sem.run_bind, run_underlying hT, run_underlying hU, Result.andThen_ok, Conv.intToInt, Sem.run_pure, Result.ok.injEq, Next.value.injEq, Value.int.injEq, true_and, and_true]
    have := UInt32.toNat_lt a; exact wrap_i64 _ (by omega) (by omega)

theorem val_conv_i64_u32 {T U : TypeId} {x : Operand} {a : Int} (hT : P.underlying T = some (.int .i64)) (hU : P.underlying U = some (.int .u32)) (hx : ev F x = some (vInt a)) : Val P n F S (.convert T U x) ty (vU32 (UInt32.ofInt a)) :=
  fun s w hf _ d ps af g => by
    simp only [execOp, ev_eval hf hx, convert, vU32, vInt, Sem.run_bind, run_underlying hT, run_underlying hU, Result.andThen_ok, Conv.intToInt, Sem.run_pure, Result.ok.injEq, Next.value.injEq, Value.int.injEq, true_and, and_true]
    rw [wrap_u32]; unfold UInt32.ofInt; rw [UInt32.toNat_ofNat']; omega

theorem val_conv_u64_u8 {T U : TypeId} {x : Operand} {a : UInt64} (hT : P.underlying T = some (.int .u64)) (hU : P.underlying U = some (.int .u8)) (hx : ev F x = some (vU64 a)) : Val P n F S (.convert T U x) ty (vU8 a.toUInt8) :=
  fun s w hf _ d ps af g => by
    simp only [execOp, ev_eval hf hx, convert, vU64, vU8, Sem.run_bind, run_underlying hT, run_underlying hU, Result.andThen_ok, Conv.intToInt, Sem.run_pure, Result.ok.injEq, Next.value.injEq, Value.int.injEq, true_and, and_true]
    have := UInt64.toNat_lt a; rw [wrap_u8, UInt64.toNat_toUInt8]; omega

theorem val_conv_u64_u16 {T U : TypeId} {x : Operand} {a : UInt64} (hT : P.underlying T = some (.int .u64)) (hU : P.underlying U = some (.int .u16)) (hx : ev F x = some (vU64 a)) : Val P n F S (.convert T U x) ty (vU16 a.toUInt16) :=
  fun s w hf _ d ps af g => by
    simp only [execOp, ev_eval hf hx, convert, vU64, vU16, Sem.run_bind, run_underlying hT, run_underlying hU, Result.andThen_ok, Conv.intToInt, Sem.run_pure, Result.ok.injEq, Next.value.injEq, Value.int.injEq, true_and, and_true]
    have := UInt64.toNat_lt a; rw [wrap_u16, UInt64.toNat_toUInt16]; omega

theorem val_conv_u64_u32 {T U : TypeId} {x : Operand} {a : UInt64} (hT : P.underlying T = some (.int .u64)) (hU : P.underlying U = some (.int .u32)) (hx : ev F x = some (vU64 a)) : Val P n F S (.convert T U x) ty (vU32 a.toUInt32) :=
  fun s w hf _ d ps af g => by
    simp only [execOp, ev_eval hf hx, convert, vU64, vU32, Sem.run_bind, run_underlying hT, run_underlying hU, Result.andThen_ok, Conv.intToInt, Sem.run_pure, Result.ok.injEq, Next.value.injEq, Value.int.injEq, true_and, and_true]
    have := UInt64.toNat_lt a; rw [wrap_u32, UInt64.toNat_toUInt32]; omega

theorem val_conv_u64_u64 {T U : TypeId} {x : Operand} {a : UInt64} (hT : P.underlying T = some (.int .u64)) (hU : P.underlying U = some (.int .u64)) (hx : ev F x = some (vU64 a)) : Val P n F S (.convert T U x) ty (vU64 a) :=
  fun s w hf _ d ps af g => by
    simp only [execOp, ev_eval hf hx, convert, vU64, Sem.run_bind, run_underlying hT, run_underlying hU, Result.andThen_ok, Conv.intToInt, Sem.run_pure, Result.ok.injEq, Next.value.injEq, Value.int.injEq, true_and, and_true]
    have := UInt64.toNat_lt a; rw [wrap_u64]; omega

theorem val_conv_u64_i64 {T U : TypeId} {x : Operand} {a : UInt64} (hT : P.underlying T = some (.int .u64)) (hU : P.underlying U = some (.int .i64)) (hx : ev F x = some (vU64 a)) (ha : a.toNat < 9223372036854775808) : Val P n F S (.convert T U x) ty (vInt (a.toNat : Int)) :=
  fun s w hf _ d ps af g => by
    simp only [execOp, ev_eval hf hx, convert, vU64, vInt, Sem.run_bind, run_underlying hT, run_underlying hU, Result.andThen_ok, Conv.intToInt, Sem.run_pure, Result.ok.injEq, Next.value.injEq, Value.int.injEq, true_and, and_true]
    exact wrap_i64 _ (by omega) (by omega)

theorem val_conv_i64_u64 {T U : TypeId} {x : Operand} {a : Int} (hT : P.underlying T = some (.int .i64)) (hU : P.underlying U = some (.int .u64)) (hx : ev F x = some (vInt a)) : Val P n F S (.convert T U x) ty (vU64 (UInt64.ofInt a)) :=
  fun s w hf _ d ps af g => by
    simp only [execOp, ev_eval hf hx, convert, vU64, vInt, Sem.run_bind, run_underlying hT, run_underlying hU, Result.andThen_ok, Conv.intToInt, Sem.run_pure, Result.ok.injEq, Next.value.injEq, Value.int.injEq, true_and, and_true]
    rw [wrap_u64]; unfold UInt64.ofInt; rw [UInt64.toNat_ofNat']; omega

theorem val_conv_i64_i64 {T U : TypeId} {x : Operand} {a : Int} (hT : P.underlying T = some (.int .i64)) (hU : P.underlying U = some (.int .i64)) (hx : ev F x = some (vInt a)) (ha : -9223372036854775808 ≤ a ∧ a ≤ 9223372036854775807) : Val P n F S (.convert T U x) ty (vInt a) :=
  fun s w hf _ d ps af g => by
    simp only [execOp, ev_eval hf hx, convert, vInt, Sem.run_bind, run_underlying hT, run_underlying hU, Result.andThen_ok, Conv.intToInt, Sem.run_pure, Result.ok.injEq, Next.value.injEq, Value.int.injEq, true_and, and_true]
    exact wrap_i64 _ ha.1 ha.2
end
end Go.Sx
