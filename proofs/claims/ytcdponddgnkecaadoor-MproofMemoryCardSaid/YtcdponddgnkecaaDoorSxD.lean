import Derived.Test.YtcdponddgnkecaaDoorSxA
import Derived.Laws.MakeOwn
import Derived.Laws.Append
set_option linter.unusedVariables false
set_option linter.unusedSimpArgs false
namespace Go.Sx
section
variable {P : Program} {n : Nat} {F : Fr} {S : World → Prop} {ty : TypeId}

theorem val_add_int {T V : TypeId} {x y : Operand} {a b : Int} (r : Int) (hx : ev F x = some (vInt a)) (hy : ev F y = some (vInt b)) (hr : a + b = r) (hb : -9223372036854775808 ≤ r ∧ r ≤ 9223372036854775807) : Val P n F S (.binOp .add T x y V) ty (vInt r) :=
  bin_int hx hy fun w => by
    subst hr
    simp only [binOp, Op.intArith, ne_eq, not_true, if_false, vInt, Sem.run_pure, Result.ok.injEq, Value.int.injEq, true_and, and_true]
    exact wrap_i64 _ hb.1 hb.2

theorem val_sub_int {T V : TypeId} {x y : Operand} {a b : Int} (r : Int) (hx : ev F x = some (vInt a)) (hy : ev F y = some (vInt b)) (hr : a - b = r) (hb : -9223372036854775808 ≤ r ∧ r ≤ 9223372036854775807) : Val P n F S (.binOp .sub T x y V) ty (vInt r) :=
  bin_int hx hy fun w => by
    subst hr
    simp only [binOp, Op.intArith, ne_eq, not_true, if_false, vInt, Sem.run_pure, Result.ok.injEq, Value.int.injEq, true_and, and_true]
    exact wrap_i64 _ hb.1 hb.2

theorem val_mul_int {T V : TypeId} {x y : Operand} {a b : Int} (r : Int) (hx : ev F x = some (vInt a)) (hy : ev F y = some (vInt b)) (hr : a * b = r) (hb : -9223372036854775808 ≤ r ∧ r ≤ 9223372036854775807) : Val P n F S (.binOp .mul T x y V) ty (vInt r) :=
  bin_int hx hy fun w => by
    subst hr
    simp only [binOp, Op.intArith, ne_eq, not_true, if_false, vInt, Sem.run_pure, Result.ok.injEq, Value.int.injEq, true_and, and_true]
    exact wrap_i64 _ hb.1 hb.2

theorem val_quo_int {T V : TypeId} {x y : Operand} {a b : Int} (r : Int) (hx : ev F x = some (vInt a)) (hy : ev F y = some (vInt b)) (ha : 0 ≤ a ∧ a ≤ 9223372036854775807) (hb : 0 < b) (hr : a / b = r) : Val P n F S (.binOp .quo T x y V) ty (vInt r) :=
  bin_int hx hy fun w => by
    have hb' : ¬ b = 0 := by omega
    have h1 : 0 ≤ a / b := Int.ediv_nonneg ha.1 (by omega)
    have h2 : a / b ≤ a := Int.ediv_le_self _ ha.1
    simp only [binOp, Op.intDiv, ne_eq, not_true, if_false, hb', vInt, Sem.run_pure, Result.ok.injEq, Value.int.injEq, true_and, and_true]
    rw [Int.tdiv_eq_ediv_of_nonneg ha.1, ← hr]
    exact wrap_i64 _ (by omega) (by omega)

theorem val_rem_int {T V : TypeId} {x y : Operand} {a b : Int} (hx : ev F x = some (vInt a)) (hy : ev F y = some (vInt b)) (hb : b ≠ 0) : Val P n F S (.binOp .rem T x y V) ty (vInt (a.tmod b)) :=
  bin_int hx hy fun w => by
    simp only [binOp, Op.intDiv, ne_eq, not_true, if_false, hb, vInt, Sem.run_pure]

theorem val_rem_nn {T V : TypeId} {x y : Operand} {a b : Int} (r : Int) (hx : ev F x = some (vInt a)) (hy : ev F y = some (vInt b)) (ha : 0 ≤ a) (hb : 0 < b) (hr : a % b = r) : Val P n F S (.binOp .rem T x y V) ty (vInt r) := by
  rw [← hr, ← Int.tmod_eq_emod_of_nonneg ha]
  exact val_rem_int hx hy (by omega)

theorem val_neg_int {T : TypeId} {x : Operand} {a : Int} (r : Int) (hx : ev F x = some (vInt a)) (hr : - a = r) (hb : -9223372036854775808 ≤ r ∧ r ≤ 9223372036854775807) : Val P n F S (.unOp .neg T x) ty (vInt r) :=
  fun s w hf _ d ps af g => by
    subst hr
    have : IntKind.i64.wrap (0 - a) = -a := by rw [Int.zero_sub]; exact wrap_i64 _ hb.1 hb.2
    simp only [execOp, ev_eval hf hx, Op.unary, Op.intArith, vInt, this, Sem.run_bind, Sem.run_pure, Result.andThen_ok]

theorem val_eql_int {T V : TypeId} {x y : Operand} {a b : Int} (hx : ev F x = some (vInt a)) (hy : ev F y = some (vInt b)) : Val P n F S (.binOp .eql T x y V) ty (.bool (decide (a = b))) :=
  bin_int hx hy fun w => by
    simp only [binOp, Op.intCmp, ne_eq, not_true, if_false, Sem.run_pure, Result.ok.injEq, Value.bool.injEq, and_true]
    rw [Bool.eq_iff_iff]; simp

theorem val_neq_int {T V : TypeId} {x y : Operand} {a b : Int} (hx : ev F x = some (vInt a)) (hy : ev F y = some (vInt b)) : Val P n F S (.binOp .neq T x y V) ty (.bool (decide (a ≠ b))) :=
  bin_int hx hy fun w => by
    simp only [binOp, Op.intCmp, ne_eq, not_true, if_false, Sem.run_pure, Result.ok.injEq, Value.bool.injEq, and_true]
    rw [Bool.eq_iff_iff]; simp

theorem val_lss_int {T V : TypeId} {x y : Operand} {a b : Int} (hx : ev F x = some (vInt a)) (hy : ev F y = some (vInt b)) : Val P n F S (.binOp .lss T x y V) ty (.bool (decide (a < b))) :=
  bin_int hx hy fun w => by
    simp only [binOp, Op.intCmp, ne_eq, not_true, if_false, Sem.run_pure, Result.ok.injEq, Value.bool.injEq, and_true]

theorem val_leq_int {T V : TypeId} {x y : Operand} {a b : Int} (hx : ev F x = some (vInt a)) (hy : ev F y = some (vInt b)) : Val P n F S (.binOp .leq T x y V) ty (.bool (decide (a ≤ b))) :=
  bin_int hx hy fun w => by
    simp only [binOp, Op.intCmp, ne_eq, not_true, if_false, Sem.run_pure, Result.ok.injEq, Value.bool.injEq, and_true]

theorem val_gtr_int {T V : TypeId} {x y : Operand} {a b : Int} (hx : ev F x = some (vInt a)) (hy : ev F y = some (vInt b)) : Val P n F S (.binOp .gtr T x y V) ty (.bool (decide (b < a))) :=
  bin_int hx hy fun w => by
    simp only [binOp, Op.intCmp, ne_eq, not_true, if_false, Sem.run_pure, Result.ok.injEq, Value.bool.injEq, and_true]

theorem val_geq_int {T V : TypeId} {x y : Operand} {a b : Int} (hx : ev F x = some (vInt a)) (hy : ev F y = some (vInt b)) : Val P n F S (.binOp .geq T x y V) ty (.bool (decide (b ≤ a))) :=
  bin_int hx hy fun w => by
    simp only [binOp, Op.intCmp, ne_eq, not_true, if_false, Sem.run_pure, Result.ok.injEq, Value.bool.injEq, and_true]

theorem eqIn_nilptr {T E : TypeId} (d : Nat) (hT : P.underlying T = some (.pointer E)) (p : Option Addr) (w : World) : (Op.equalIn (d + 1) T (.pointer p) (.pointer none)).run P w = .ok p.isNone w := by
  cases p <;> simp [Op.equalIn, run_underlying hT]
theorem eqIn_nilslice {T E : TypeId} (d : Nat) (hT : P.underlying T = some (.slice E)) (p : Option Addr) (l c l' c' : Nat) (w : World) : (Op.equalIn (d + 1) T (.slice p l c) (.slice none l' c')).run P w = .ok p.isNone w := by
  cases p <;> simp [Op.equalIn, run_underlying hT]
theorem run_eql_of {T : TypeId} {u v : Value} {b : Bool} {w : World} (h : (Op.equal T u v).run P w = .ok b w) (e : binOp .eql T u v = (do pure (.bool (← Op.equal T u v)))) : (binOp .eql T u v).run P w = .ok (.bool b) w := by
  rw [e]; simp only [Sem.run_bind, h, Result.andThen_ok, Sem.run_pure]
theorem run_neq_of {T : TypeId} {u v : Value} {b : Bool} {w : World} (h : (Op.equal T u v).run P w = .ok b w) (e : binOp .neq T u v = (do pure (.bool (!(← Op.equal T u v))))) : (binOp .neq T u v).run P w = .ok (.bool (!b)) w := by
  rw [e]; simp only [Sem.run_bind, h, Result.andThen_ok, Sem.run_pure]

theorem val_eql_bool {T V : TypeId} {x y : Operand} {a b : Bool} (hT : P.underlying T = some .bool) (hx : ev F x = some (.bool a)) (hy : ev F y = some (.bool b)) : Val P n F S (.binOp .eql T x y V) ty (.bool (a == b)) :=
  bin_ok hx hy guard_bool fun w => run_eql_of (run_equalIn_bool w 9999 T a b hT) rfl
theorem val_neq_bool {T V : TypeId} {x y : Operand} {a b : Bool} (hT : P.underlying T = some .bool) (hx : ev F x = some (.bool a)) (hy : ev F y = some (.bool b)) : Val P n F S (.binOp .neq T x y V) ty (.bool (!(a == b))) :=
  bin_ok hx hy guard_bool fun w => run_neq_of (run_equalIn_bool w 9999 T a b hT) rfl
theorem val_eql_nilptr {T V E : TypeId} {x y : Operand} {p : Option Addr} (hT : P.underlying T = some (.pointer E)) (hx : ev F x = some (.pointer p)) (hy : ev F y = some (.pointer none)) : Val P n F S (.binOp .eql T x y V) ty (.bool p.isNone) :=
  bin_ok hx hy guard_ptr fun w => run_eql_of (eqIn_nilptr 9999 hT p w) rfl
theorem val_neq_nilptr {T V E : TypeId} {x y : Operand} {p : Option Addr} (hT : P.underlying T = some (.pointer E)) (hx : ev F x = some (.pointer p)) (hy : ev F y = some (.pointer none)) : Val P n F S (.binOp .neq T x y V) ty (.bool (!p.isNone)) :=
  bin_ok hx hy guard_ptr fun w => run_neq_of (eqIn_nilptr 9999 hT p w) rfl
theorem val_eql_nilslice {T V E : TypeId} {x y : Operand} {p : Option Addr} {l c l' c' : Nat} (hT : P.underlying T = some (.slice E)) (hx : ev F x = some (.slice p l c)) (hy : ev F y = some (.slice none l' c')) : Val P n F S (.binOp .eql T x y V) ty (.bool p.isNone) :=
  bin_ok hx hy guard_slice fun w => run_eql_of (eqIn_nilslice 9999 hT p l c l' c' w) rfl

theorem val_conv_u8_u8 {T U : TypeId} {x : Operand} {a : UInt8} (hT : P.underlying T = some (.int .u8)) (hU : P.underlying U = some (.int .u8)) (hx : ev F x = some (vU8 a)) : Val P n F S (.convert T U x) ty (vU8 a) :=
  fun s w hf _ d ps af g => by
    simp only [execOp, ev_eval hf hx, convert, vU8, Sem.run_bind, run_underlying hT, run_underlying hU, Result.andThen_ok, Conv.intToInt, Sem.run_pure, Result.ok.injEq, Next.value.injEq, Value.int.injEq, true_and, and_true]
    have := UInt8.toNat_lt a; rw [wrap_u8]; omega

theorem val_conv_u8_u16 {T U : TypeId} {x : Operand} {a : UInt8} (hT : P.underlying T = some (.int .u8)) (hU : P.underlying U = some (.int .u16)) (hx : ev F x = some (vU8 a)) : Val P n F S (.convert T U x) ty (vU16 a.toUInt16) :=
  fun s w hf _ d ps af g => by
    simp only [execOp, ev_eval hf hx, convert, vU8, vU16, Sem.run_bind, run_underlying hT, run_underlying hU, Result.andThen_ok, Conv.intToInt, Sem.run_pure, Result.ok.injEq, Next.value.injEq, Value.int.injEq, true_and, and_true]
    have := UInt8.toNat_lt a; rw [wrap_u16, UInt8.toNat_toUInt16]; omega

theorem val_conv_u8_u32 {T U : TypeId} {x : Operand} {a : UInt8} (hT : P.underlying T = some (.int .u8)) (hU : P.underlying U = some (.int .u32)) (hx : ev F x = some (vU8 a)) : Val P n F S (.convert T U x) ty (vU32 a.toUInt32) :=
  fun s w hf _ d ps af g => by
    simp only [execOp, ev_eval hf hx, convert, vU8, vU32, Sem.run_bind, run_underlying hT, run_underlying hU, Result.andThen_ok, Conv.intToInt, Sem.run_pure, Result.ok.injEq, Next.value.injEq, Value.int.injEq, true_and, and_true]
    have := UInt8.toNat_lt a; rw [wrap_u32, UInt8.toNat_toUInt32]; omega

theorem val_conv_u8_u64 {T U : TypeId} {x : Operand} {a : UInt8} (hT : P.underlying T = some (.int .u8)) (hU : P.underlying U = some (.int .u64)) (hx : ev F x = some (vU8 a)) : Val P n F S (.convert T U x) ty (vU64 a.toUInt64) :=
  fun s w hf _ d ps af g => by
    simp only [execOp, ev_eval hf hx, convert, vU8, vU64, Sem.run_bind, run_underlying hT, run_underlying hU, Result.andThen_ok, Conv.intToInt, Sem.run_pure, Result.ok.injEq, Next.value.injEq, Value.int.injEq, true_and, and_true]
    have := UInt8.toNat_lt a; rw [wrap_u64, UInt8.toNat_toUInt64]; omega

theorem val_conv_u8_i64 {T U : TypeId} {x : Operand} {a : UInt8} (hT : P.underlying T = some (.int .u8)) (hU : P.underlying U = some (.int .i64)) (hx : ev F x = some (vU8 a)) : Val P n F S (.convert T U x) ty (vInt (a.toNat : Int)) :=
  fun s w hf _ d ps af g => by
    simp only [execOp, ev_eval hf hx, convert, vU8, vInt, Sem.run_bind, run_underlying hT, run_underlying hU, Result.andThen_ok, Conv.intToInt, Sem.run_pure, Result.ok.injEq, Next.value.injEq, Value.int.injEq, true_and, and_true]
    have := UInt8.toNat_lt a; exact wrap_i64 _ (by omega) (by omega)

theorem val_conv_i64_u8 {T U : TypeId} {x : Operand} {a : Int} (hT : P.underlying T = some (.int .i64)) (hU : P.underlying U = some (.int .u8)) (hx : ev F x = some (vInt a)) : Val P n F S (.convert T U x) ty (vU8 (UInt8.ofInt a)) :=
  fun s w hf _ d ps af g => by
    simp only [execOp, ev_eval hf hx, convert, vU8, vInt, Sem.run_bind, run_underlying hT, run_underlying hU, Result.andThen_ok, Conv.intToInt, Sem.run_pure, Result.ok.injEq, Next.value.injEq, Value.int.injEq, true_and, and_true]
    rw [wrap_u8]; unfold UInt8.ofInt; rw [UInt8.toNat_ofNat']; omega

theorem val_conv_u16_u8 {T U : TypeId} {x : Operand} {a : UInt16} (hT : P.underlying T = some (.int .u16)) (hU : P.underlying U = some (.int .u8)) (hx : ev F x = some (vU16 a)) : Val P n F S (.convert T U x) ty (vU8 a.toUInt8) :=
  fun s w hf _ d ps af g => by
    simp only [execOp, ev_eval hf hx, convert, vU16, vU8, Sem.run_bind, run_underlying hT, run_underlying hU, Result.andThen_ok, Conv.intToInt, Sem.run_pure, Result.ok.injEq, Next.value.injEq, Value.int.injEq, true_and, and_true]
    have := UInt16.toNat_lt a; rw [wrap_u8, UInt16.toNat_toUInt8]; omega

theorem val_conv_u16_u16 {T U : TypeId} {x : Operand} {a : UInt16} (hT : P.underlying T = some (.int .u16)) (hU : P.underlying U = some (.int .u16)) (hx : ev F x = some (vU16 a)) : Val P n F S (.convert T U x) ty (vU16 a) :=
  fun s w hf _ d ps af g => by
    simp only [execOp, ev_eval hf hx, convert, vU16, Sem.run_bind, run_underlying hT, run_underlying hU, Result.andThen_ok, Conv.intToInt, Sem.run_pure, Result.ok.injEq, Next.value.injEq, Value.int.injEq, true_and, and_true]
    have := UInt16.toNat_lt a; rw [wrap_u16]; omega

theorem val_conv_u16_u32 {T U : TypeId} {x : Operand} {a : UInt16} (hT : P.underlying T = some (.int .u16)) (hU : P.underlying U = some (.int .u32)) (hx : ev F x = some (vU16 a)) : Val P n F S (.convert T U x) ty (vU32 a.toUInt32) :=
  fun s w hf _ d ps af g => by
    simp only [execOp, ev_eval hf hx, convert, vU16, vU32, Sem.run_bind, run_underlying hT, run_underlying hU, Result.andThen_ok, Conv.intToInt, Sem.run_pure, Result.ok.injEq, Next.value.injEq, Value.int.injEq, true_and, and_true]
    have := UInt16.toNat_lt a; rw [wrap_u32, UInt16.toNat_toUInt32]; omega

theorem val_conv_u16_u64 {T U : TypeId} {x : Operand} {a : UInt16} (hT : P.underlying T = some (.int .u16)) (hU : P.underlying U = some (.int .u64)) (hx : ev F x = some (vU16 a)) : Val P n F S (.convert T U x) ty (vU64 a.toUInt64) :=
  fun s w hf _ d ps af g => by
    simp only [execOp, ev_eval hf hx, convert, vU16, vU64, Sem.run_bind, run_underlying hT, run_underlying hU, Result.andThen_ok, Conv.intToInt, Sem.run_pure, Result.ok.injEq, Next.value.injEq, Value.int.injEq, true_and, and_true]
    have := UInt16.toNat_lt a; rw [wrap_u64, UInt16.toNat_toUInt64]; omega

theorem val_conv_u16_i64 {T U : TypeId} {x : Operand} {a : UInt16} (hT : P.underlying T = some (.int .u16)) (hU : P.underlying U = some (.int .i64)) (hx : ev F x = some (vU16 a)) : Val P n F S (.convert T U x) ty (vInt (a.toNat : Int)) :=
  fun s w hf _ d ps af g => by
    simp only [execOp, ev_eval hf hx, convert, vU16, vInt, Sem.run_bind, run_underlying hT, run_underlying hU, Result.andThen_ok, Conv.intToInt, Sem.run_pure, Result.ok.injEq, Next.value.injEq, Value.int.injEq, true_and, and_true]
    have := UInt16.toNat_lt a; exact wrap_i64 _ (by omega) (by omega)

theorem val_conv_i64_u16 {T U : TypeId} {x : Operand} {a : Int} (hT : P.underlying T = some (.int .i64)) (hU : P.underlying U = some (.int .u16)) (hx : ev F x = some (vInt a)) : Val P n F S (.convert T U x) ty (vU16 (UInt16.ofInt a)) :=
  fun s w hf _ d ps af g => by
    simp only [execOp, ev_eval hf hx, convert, vU16, vInt, Sem.run_bind, run_underlying hT, run_underlying hU, Result.andThen_ok, Conv.intToInt, Sem.run_pure, Result.ok.injEq, Next.value.injEq, Value.int.injEq, true_and, and_true]
    rw [wrap_u16]; unfold UInt16.ofInt; rw [UInt16.toNat_ofNat']; omega

theorem val_conv_u32_u8 {T U : TypeId} {x : Operand} {a : UInt32} (hT : P.underlying T = some (.int .u32)) (hU : P.underlying U = some (.int .u8)) (hx : ev F x = some (vU32 a)) : Val P n F S (.convert T U x) ty (vU8 a.toUInt8) :=
  fun s w hf _ d ps af g => by
    simp only [execOp, ev_eval hf hx, convert, vU32, vU8, Sem.run_bind, run_underlying hT, run_underlying hU, Result.andThen_ok, Conv.intToInt, Sem.run_pure, Result.ok.injEq, Next.value.injEq, Value.int.injEq, true_and, and_true]
    have := UInt32.toNat_lt a; rw [wrap_u8, UInt32.toNat_toUInt8]; omega

theorem val_conv_u32_u16 {T U : TypeId} {x : Operand} {a : UInt32} (hT : P.underlying T = some (.int .u32)) (hU : P.underlying U = some (.int .u16)) (hx : ev F x = some (vU32 a)) : Val P n F S (.convert T U x) ty (vU16 a.toUInt16) :=
  fun s w hf _ d ps af g => by
    simp only [execOp, ev_eval hf hx, convert, vU32, vU16, Sem.run_bind, run_underlying hT, run_underlying hU, Result.andThen_ok, Conv.intToInt, Sem.run_pure, Result.ok.injEq, Next.value.injEq, Value.int.injEq, true_and, and_true]
    have := UInt32.toNat_lt a; rw [wrap_u16, UInt32.toNat_toUInt16]; omega

theorem val_conv_u32_u32 {T U : TypeId} {x : Operand} {a : UInt32} (hT : P.underlying T = some (.int .u32)) (hU : P.underlying U = some (.int .u32)) (hx : ev F x = some (vU32 a)) : Val P n F S (.convert T U x) ty (vU32 a) :=
  fun s w hf _ d ps af g => by
    simp only [execOp, ev_eval hf hx, convert, vU32, Sem.run_bind, run_underlying hT, run_underlying hU, Result.andThen_ok, Conv.intToInt, Sem.run_pure, Result.ok.injEq, Next.value.injEq, Value.int.injEq, true_and, and_true]
    have := UInt32.toNat_lt a; rw [wrap_u32]; omega

theorem val_conv_u32_u64 {T U : TypeId} {x : Operand} {a : UInt32} (hT : P.underlying T = some (.int .u32)) (hU : P.underlying U = some (.int .u64)) (hx : ev F x = some (vU32 a)) : Val P n F S (.convert T U x) ty (vU64 a.toUInt64) :=
  fun s w hf _ d ps af g => by
    simp only [execOp, ev_eval hf hx, convert, vU32, vU64, Sem.run_bind, run_underlying hT, run_underlying hU, Result.andThen_ok, Conv.intToInt, Sem.run_pure, Result.ok.injEq, Next.value.injEq, Value.int.injEq, true_and, and_true]
    have := UInt32.toNat_lt a; rw [wrap_u64, UInt32.toNat_toUInt64]; omega

theorem val_conv_u32_i64 {T U : TypeId} {x : Operand} {a : UInt32} (hT : P.underlying T = some (.int .u32)) (hU : P.underlying U = some (.int .i64)) (hx : ev F x = some (vU32 a)) : Val P n F S (.convert T U x) ty (vInt (a.toNat : Int)) :=
  fun s w hf _ d ps af g => by
    simp only [execOp, ev_eval hf hx, convert, vU32, vInt, Sem.run_bind, run_underlying hT, run_underlying hU, Result.andThen_ok, Conv.intToInt, Sem.run_pure, Result.ok.injEq, Next.value.injEq, Value.int.injEq, true_and, and_true]
    have := UInt32.toNat_lt a; exact wrap_i64 _ (by omega) (by omega)

theorem val_conv_i64_u32 {T U : TypeId} {x : Operand} {a : Int} (hT : P.underlying T = some (.int .i64)) (hU : P.underlying U = some (.int .u32)) (hx : ev F x = some (vInt a)) : Val P n F S (.convert T U x) ty (vU32 (UInt32.ofInt a)) :=
  fun s w hf _ d ps af g => by
    simp only [execOp, ev_eval hf hx, convert, vU32, vInt, Sem.run_bind, run_underlying hT, run_underlying hU, Result.andThen_ok, Conv.intToInt, Sem.run_pure, Result.ok.injEq, Next.value.injEq, Value.int.injEq, true_and, and_true]
    rw [wrap_u32]; unfold UInt32.ofInt; rw [UInt32.toNat_ofNat']; omega

theorem val_conv_u64_u8 {T U : TypeId} {x : Operand} {a : UInt64} (hT : P.underlying T = some (.int .u64)) (hU : P.underlying U = some (.int .u8)) (hx : ev F x = some (vU64 a)) : Val P n F S (.convert T U x) ty (vU8 a.toUInt8) :=
  fun s w hf _ d ps af g => by
    simp only [execOp, ev_eval hf hx, convert, vU64, vU8, Sem.run_bind, run_underlying hT, run_underlying hU, Result.andThen_ok, Conv.intToInt, Sem.run_pure, Result.ok.injEq, Next.value.injEq, Value.int.injEq, true_and, and_true]
    have := UInt64.toNat_lt a; rw [wrap_u8, UInt64.toNat_toUInt8]; omega

theorem val_conv_u64_u16 {T U : TypeId} {x : Operand} {a : UInt64} (hT : P.underlying T = some (.int .u64)) (hU : P.underlying U = some (.int .u16)) (hx : ev F x = some (vU64 a)) : Val P n F S (.convert T U x) ty (vU16 a.toUInt16) :=
  fun s w hf _ d ps af g => by
    simp only [execOp, ev_eval hf hx, convert, vU64, vU16, Sem.run_bind, run_underlying hT, run_underlying hU, Result.andThen_ok, Conv.intToInt, Sem.run_pure, Result.ok.injEq, Next.value.injEq, Value.int.injEq, true_and, and_true]
    have := UInt64.toNat_lt a; rw [wrap_u16, UInt64.toNat_toUInt16]; omega

theorem val_conv_u64_u32 {T U : TypeId} {x : Operand} {a : UInt64} (hT : P.underlying T = some (.int .u64)) (hU : P.underlying U = some (.int .u32)) (hx : ev F x = some (vU64 a)) : Val P n F S (.convert T U x) ty (vU32 a.toUInt32) :=
  fun s w hf _ d ps af g => by
    simp only [execOp, ev_eval hf hx, convert, vU64, vU32, Sem.run_bind, run_underlying hT, run_underlying hU, Result.andThen_ok, Conv.intToInt, Sem.run_pure, Result.ok.injEq, Next.value.injEq, Value.int.injEq, true_and, and_true]
    have := UInt64.toNat_lt a; rw [wrap_u32, UInt64.toNat_toUInt32]; omega

theorem val_conv_u64_u64 {T U : TypeId} {x : Operand} {a : UInt64} (hT : P.underlying T = some (.int .u64)) (hU : P.underlying U = some (.int .u64)) (hx : ev F x = some (vU64 a)) : Val P n F S (.convert T U x) ty (vU64 a) :=
  fun s w hf _ d ps af g => by
    simp only [execOp, ev_eval hf hx, convert, vU64, Sem.run_bind, run_underlying hT, run_underlying hU, Result.andThen_ok, Conv.intToInt, Sem.run_pure, Result.ok.injEq, Next.value.injEq, Value.int.injEq, true_and, and_true]
    have := UInt64.toNat_lt a; rw [wrap_u64]; omega

theorem val_conv_u64_i64 {T U : TypeId} {x : Operand} {a : UInt64} (hT : P.underlying T = some (.int .u64)) (hU : P.underlying U = some (.int .i64)) (hx : ev F x = some (vU64 a)) (ha : a.toNat < 9223372036854775808) : Val P n F S (.convert T U x) ty (vInt (a.toNat : Int)) :=
  fun s w hf _ d ps af g => by
    simp only [execOp, ev_eval hf hx, convert, vU64, vInt, Sem.run_bind, run_underlying hT, run_underlying hU, Result.andThen_ok, Conv.intToInt, Sem.run_pure, Result.ok.injEq, Next.value.injEq, Value.int.injEq, true_and, and_true]
    exact wrap_i64 _ (by omega) (by omega)

theorem val_conv_i64_u64 {T U : TypeId} {x : Operand} {a : Int} (hT : P.underlying T = some (.int .i64)) (hU : P.underlying U = some (.int .u64)) (hx : ev F x = some (vInt a)) : Val P n F S (.convert T U x) ty (vU64 (UInt64.ofInt a)) :=
  fun s w hf _ d ps af g => by
    simp only [execOp, ev_eval hf hx, convert, vU64, vInt, Sem.run_bind, run_underlying hT, run_underlying hU, Result.andThen_ok, Conv.intToInt, Sem.run_pure, Result.ok.injEq, Next.value.injEq, Value.int.injEq, true_and, and_true]
    rw [wrap_u64]; unfold UInt64.ofInt; rw [UInt64.toNat_ofNat']; omega

theorem val_conv_i64_i64 {T U : TypeId} {x : Operand} {a : Int} (hT : P.underlying T = some (.int .i64)) (hU : P.underlying U = some (.int .i64)) (hx : ev F x = some (vInt a)) (ha : -9223372036854775808 ≤ a ∧ a ≤ 9223372036854775807) : Val P n F S (.convert T U x) ty (vInt a) :=
  fun s w hf _ d ps af g => by
    simp only [execOp, ev_eval hf hx, convert, vInt, Sem.run_bind, run_underlying hT, run_underlying hU, Result.andThen_ok, Conv.intToInt, Sem.run_pure, Result.ok.injEq, Next.value.injEq, Value.int.injEq, true_and, and_true]
    exact wrap_i64 _ ha.1 ha.2
end
end Go.Sx

namespace Go.Sx

/-- An entry: a block and what it holds, or nothing. -/
abbrev Ent := Option (Nat × Obj)
def keys (l : List Ent) : List Nat := l.filterMap (·.map Prod.fst)

/-- What is known of the memory: blocks below w0's size are as in w0 but for those of olds; the blocks of l hold what l says. -/
structure Mem (w0 : World) (olds : List Nat) (l : List Ent) (w : World) : Prop where
  os : w.os = w0.os
  tape : w.tape = w0.tape
  output : w.output = w0.output
  size : w0.heap.size ≤ w.heap.size
  keep : ∀ k, k < w0.heap.size → k ∉ olds → w.heap[k]? = w0.heap[k]?
  own : ∀ b o, some (b, o) ∈ l → w.heap[b]? = some o
  nodup : (keys l).Nodup
  fresh : ∀ b ∈ keys l, w0.heap.size ≤ b ∨ b ∈ olds

def pick : List Ent → Nat → Ent
  | [], _ => none
  | x :: _, 0 => x
  | _ :: r, i + 1 => pick r i
def upd : List Ent → Nat → Ent → List Ent
  | [], _, _ => []
  | _ :: r, 0, o => o :: r
  | x :: r, i + 1, o => x :: upd r i o

theorem pick_mem : ∀ {l : List Ent} {i : Nat} {x : Nat × Obj}, pick l i = some x → some x ∈ l
  | [], i, x, h => by simp [pick] at h
  | y :: r, 0, x, h => by simp [pick] at h; subst h; exact .head _
  | y :: r, i + 1, x, h => .tail _ (pick_mem (by simpa [pick] using h))
theorem mem_keys {l : List Ent} {b : Nat} {o : Obj} (h : some (b, o) ∈ l) : b ∈ keys l := List.mem_filterMap.2 ⟨_, h, rfl⟩
theorem keys_mem {l : List Ent} {b : Nat} (h : b ∈ keys l) : ∃ o, some (b, o) ∈ l := by
  obtain ⟨e, he, h2⟩ := List.mem_filterMap.1 h
  cases e with
  | none => simp at h2
  | some x => simp at h2; subst h2; exact ⟨x.2, he⟩
theorem keys_cons_none (l : List Ent) : keys (none :: l) = keys l := by simp [keys]
theorem keys_cons_some (x : Nat × Obj) (l : List Ent) : keys (some x :: l) = x.1 :: keys l := by simp [keys]
theorem keys_append (l l' : List Ent) : keys (l ++ l') = keys l ++ keys l' := by simp [keys]

/-- Behind an update of the entry i, which held the block b or nothing: those that are left are of other blocks than b. -/
theorem upd_mem : ∀ {l : List Ent} {i : Nat} {e : Ent}, (keys l).Nodup → ∀ y ∈ upd l i e, y = e ∨ (y ∈ l ∧ ∀ b o b' o', y = some (b, o) → pick l i = some (b', o') → b ≠ b')
  | [], i, e, _, y, hy => by simp [upd] at hy
  | z :: r, 0, e, hn, y, hy => by
    simp only [upd, List.mem_cons] at hy
    rcases hy with rfl | hy
    · exact .inl rfl
    · refine .inr ⟨.tail _ hy, fun b o b' o' e1 e2 eb => ?_⟩
      subst e1; simp only [pick] at e2; subst e2; subst eb
      rw [keys_cons_some, List.nodup_cons] at hn
      exact hn.1 (mem_keys hy)
  | z :: r, i + 1, e, hn, y, hy => by
    simp only [upd, List.mem_cons] at hy
    have hn' : (keys r).Nodup := by
      cases z with
      | none => rwa [keys_cons_none] at hn
      | some x => rw [keys_cons_some, List.nodup_cons] at hn; exact hn.2
    rcases hy with rfl | hy
    · refine .inr ⟨.head _, fun b o b' o' e1 e2 eb => ?_⟩
      subst e1; subst eb
      rw [keys_cons_some, List.nodup_cons] at hn
      exact hn.1 (mem_keys (pick_mem (by simpa [pick] using e2)))
    · rcases upd_mem hn' y hy with h1 | ⟨h1, h2⟩
      · exact .inl h1
      · exact .inr ⟨.tail _ h1, fun b o b' o' e1 e2 => h2 b o b' o' e1 (by simpa [pick] using e2)⟩

/-- The keys behind an update. -/
theorem keys_upd : ∀ (l : List Ent) (i : Nat) (e : Ent), ∀ b ∈ keys (upd l i e), b ∈ keys l ∨ (∃ o, e = some (b, o))
  | [], i, e, b, hb => by simp [upd, keys] at hb
  | z :: r, 0, e, b, hb => by
    obtain ⟨o, ho⟩ := keys_mem hb
    simp only [upd, List.mem_cons] at ho
    rcases ho with h | h
    · exact .inr ⟨o, h.symm⟩
    · exact .inl (mem_keys (List.mem_cons_of_mem _ h))
  | z :: r, i + 1, e, b, hb => by
    obtain ⟨o, ho⟩ := keys_mem hb
    simp only [upd, List.mem_cons] at ho
    rcases ho with h | h
    · exact .inl (mem_keys (by rw [h]; exact .head _))
    · rcases keys_upd r i e b (mem_keys h) with h1 | h1
      · obtain ⟨o', h1⟩ := keys_mem h1; exact .inl (mem_keys (List.mem_cons_of_mem _ h1))
      · exact .inr h1

theorem nodup_upd : ∀ (l : List Ent) (i : Nat) (e : Ent), (keys l).Nodup → (∀ b o, e = some (b, o) → b ∉ keys l ∨ ∃ o', pick l i = some (b, o')) → (keys (upd l i e)).Nodup
  | [], i, e, _, _ => by simp [upd, keys]
  | z :: r, 0, e, hn, he => by
    have hn' : (keys r).Nodup := by
      cases z with
      | none => rwa [keys_cons_none] at hn
      | some x => rw [keys_cons_some, List.nodup_cons] at hn; exact hn.2
    cases e with
    | none => rw [upd, keys_cons_none]; exact hn'
    | some x =>
      rw [upd, keys_cons_some, List.nodup_cons]
      refine ⟨fun hx => ?_, hn'⟩
      rcases he x.1 x.2 rfl with h | ⟨o', h⟩
      · obtain ⟨o, ho⟩ := keys_mem hx
        exact h (mem_keys (List.mem_cons_of_mem _ ho))
      · simp only [pick] at h; subst h
        rw [keys_cons_some, List.nodup_cons] at hn
        exact hn.1 hx
  | z :: r, i + 1, e, hn, he => by
    cases z with
    | none =>
      rw [keys_cons_none] at hn
      rw [upd, keys_cons_none]
      exact nodup_upd r i e hn (fun b o h => by simpa [keys_cons_none, pick] using he b o h)
    | some x =>
      rw [keys_cons_some, List.nodup_cons] at hn
      rw [upd, keys_cons_some, List.nodup_cons]
      refine ⟨fun hx => ?_, nodup_upd r i e hn.2 (fun b o h => ?_)⟩
      · rcases keys_upd r i e _ hx with h1 | ⟨o, h1⟩
        · exact hn.1 h1
        · rcases he _ o h1 with h2 | ⟨o', h2⟩
          · exact h2 (by rw [keys_cons_some]; exact .head _)
          · simp only [pick] at h2; exact hn.1 (mem_keys (pick_mem h2))
      · rcases he b o h with h2 | ⟨o', h2⟩
        · exact .inl (fun hb => h2 (by rw [keys_cons_some]; exact .tail _ hb))
        · exact .inr ⟨o', by simpa [pick] using h2⟩

section
variable {w0 w : World} {olds : List Nat} {l : List Ent}

theorem Mem.refl (w : World) : Mem w [] [] w := ⟨rfl, rfl, rfl, Nat.le_refl _, fun _ _ _ => rfl, (fun _ _ h => nomatch h), by simp [keys], (fun _ h => nomatch h)⟩

theorem Mem.lt (h : Mem w0 olds l w) {b : Nat} (hx : b ∈ keys l) : b < w.heap.size := by
  obtain ⟨o, ho⟩ := keys_mem hx
  exact (Array.getElem?_eq_some_iff.1 (h.own b o ho)).1
theorem Mem.at (h : Mem w0 olds l w) {i b : Nat} {o : Obj} (hp : pick l i = some (b, o)) : w.heap[b]? = some o := h.own b o (pick_mem hp)

/-- Only the draws' count has turned. -/
theorem Mem.drawn (h : Mem w0 olds l w) (k : Nat) : Mem w0 olds l { w with drawn := k } := ⟨h.os, h.tape, h.output, h.size, h.keep, h.own, h.nodup, h.fresh⟩

/-- A world that differs from w in the block b alone, of those that are known; b stood at i. -/
theorem Mem.put (h : Mem w0 olds l w) {i b : Nat} {o o' : Obj} (hp : pick l i = some (b, o)) {w' : World} (hos : w'.os = w.os) (htape : w'.tape = w.tape) (hout : w'.output = w.output)
    (hsize : w.heap.size ≤ w'.heap.size) (hb : w'.heap[b]? = some o') (hoth : ∀ k, k < w.heap.size → k ≠ b → w'.heap[k]? = w.heap[k]?) : Mem w0 olds (upd l i (some (b, o'))) w' := by
  have hm := pick_mem hp
  refine ⟨hos.trans h.os, htape.trans h.tape, hout.trans h.output, Nat.le_trans h.size hsize, fun k hk hko => ?_, fun c x hy => ?_, nodup_upd l i _ h.nodup (fun c x e => ?_), fun c hc => ?_⟩
  · have hkb : k ≠ b := fun e => by
      subst e
      rcases h.fresh _ (mem_keys hm) with h1 | h1
      · omega
      · exact hko h1
    have := h.size
    rw [hoth k (by omega) hkb]; exact h.keep k hk hko
  · rcases upd_mem h.nodup _ hy with e | ⟨h1, h2⟩
    · simp only [Option.some.injEq, Prod.mk.injEq] at e; obtain ⟨rfl, rfl⟩ := e; exact hb
    · rw [hoth _ (h.lt (mem_keys h1)) (h2 c x b o rfl hp)]; exact h.own c x h1
  · simp only [Option.some.injEq, Prod.mk.injEq] at e; obtain ⟨rfl, rfl⟩ := e; exact .inr ⟨o, hp⟩
  · rcases keys_upd l i _ c hc with h1 | ⟨x, e⟩
    · exact h.fresh c h1
    · simp only [Option.some.injEq, Prod.mk.injEq] at e; obtain ⟨rfl, rfl⟩ := e; exact h.fresh _ (mem_keys hm)

/-- A new block in the place of the entry i. -/
theorem Mem.renew (h : Mem w0 olds l w) (i : Nat) {b : Nat} {o' : Obj} {w' : World} (hos : w'.os = w.os) (htape : w'.tape = w.tape) (hout : w'.output = w.output)
    (hsize : w.heap.size ≤ w'.heap.size) (hbn : w.heap.size ≤ b) (hb : w'.heap[b]? = some o') (hoth : ∀ k, k < w.heap.size → w'.heap[k]? = w.heap[k]?) : Mem w0 olds (upd l i (some (b, o'))) w' := by
  refine ⟨hos.trans h.os, htape.trans h.tape, hout.trans h.output, Nat.le_trans h.size hsize, fun k hk hko => ?_, fun c x hy => ?_, nodup_upd l i _ h.nodup (fun c x e => ?_), fun c hc => ?_⟩
  · have := h.size
    rw [hoth k (by omega)]; exact h.keep k hk hko
  · rcases upd_mem h.nodup _ hy with e | ⟨h1, h2⟩
    · simp only [Option.some.injEq, Prod.mk.injEq] at e; obtain ⟨rfl, rfl⟩ := e; exact hb
    · rw [hoth _ (h.lt (mem_keys h1))]; exact h.own c x h1
  · simp only [Option.some.injEq, Prod.mk.injEq] at e; obtain ⟨rfl, rfl⟩ := e
    exact .inl fun hk => by have := h.lt hk; omega
  · rcases keys_upd l i _ c hc with h1 | ⟨x, e⟩
    · exact h.fresh c h1
    · simp only [Option.some.injEq, Prod.mk.injEq] at e; obtain ⟨rfl, rfl⟩ := e; have := h.size; exact .inl (by omega)

/-- A new block. -/
theorem Mem.alloc (h : Mem w0 olds l w) (o : Obj) : Mem w0 olds (some (w.heap.size, o) :: l) (w.alloc o) := by
  refine ⟨h.os, h.tape, h.output, by simp; have := h.size; omega, fun k hk hko => ?_, fun b x hy => ?_, ?_, fun b hb => ?_⟩
  · have := h.size
    rw [RowKit.Below.heap_alloc w o k (by omega)]; exact h.keep k hk hko
  · rcases List.mem_cons.1 hy with e | hy
    · simp only [Option.some.injEq, Prod.mk.injEq] at e; obtain ⟨rfl, rfl⟩ := e; exact heap_alloc_new w _
    · rw [RowKit.Below.heap_alloc w o _ (h.lt (mem_keys hy))]; exact h.own b x hy
  · rw [keys_cons_some, List.nodup_cons]
    exact ⟨fun hm => by have := h.lt hm; simp at this, h.nodup⟩
  · rw [keys_cons_some] at hb
    rcases List.mem_cons.1 hb with rfl | hb
    · exact .inl h.size
    · exact h.fresh b hb

/-- Blocks made anew may be forgotten. -/
theorem Mem.forget {x : Ent} (h : Mem w0 olds (x :: l) w) : Mem w0 olds l w :=
  ⟨h.os, h.tape, h.output, h.size, h.keep, fun b o hy => h.own b o (.tail _ hy), by
    have := h.nodup
    cases x with
    | none => rwa [keys_cons_none] at this
    | some x => rw [keys_cons_some, List.nodup_cons] at this; exact this.2, fun b hb => h.fresh b (by
      obtain ⟨o, ho⟩ := keys_mem hb; exact mem_keys (List.mem_cons_of_mem _ ho))⟩
theorem Mem.forgetAll (h : Mem w0 olds l w) : Mem w0 olds [] w :=
  ⟨h.os, h.tape, h.output, h.size, h.keep, (fun _ _ h => nomatch h), by simp [keys], (fun _ h => nomatch h)⟩
/-- The entries at some places, in their order. -/
theorem Mem.only (h : Mem w0 olds l w) {l' : List Ent} (hs : l'.Sublist l) : Mem w0 olds l' w :=
  ⟨h.os, h.tape, h.output, h.size, h.keep, fun b o hy => h.own b o (hs.subset hy), h.nodup.sublist (List.Sublist.filterMap _ hs), fun b hb => h.fresh b ((List.Sublist.filterMap _ hs).subset hb)⟩
/-- A place for a block that is not there yet. -/
theorem Mem.place (h : Mem w0 olds l w) : Mem w0 olds (none :: l) w :=
  ⟨h.os, h.tape, h.output, h.size, h.keep, fun b o hy => by rcases List.mem_cons.1 hy with e | hy; cases e; exact h.own b o hy, by rw [keys_cons_none]; exact h.nodup, by rw [keys_cons_none]; exact h.fresh⟩
theorem Mem.perm (h : Mem w0 olds l w) {l' : List Ent} (hp : l'.Perm l) : Mem w0 olds l' w :=
  ⟨h.os, h.tape, h.output, h.size, h.keep, fun b o hy => h.own b o (hp.subset hy), (hp.filterMap _).nodup_iff.2 h.nodup, fun b hb => h.fresh b ((hp.filterMap _).subset hb)⟩

/-- A callee that only made memory of its own. -/
theorem Mem.call (h : Mem w0 olds l w) {l' : List Ent} {w' : World} (h' : Mem w [] l' w') : Mem w0 olds (l' ++ l) w' := by
  refine ⟨h'.os.trans h.os, h'.tape.trans h.tape, h'.output.trans h.output, Nat.le_trans h.size h'.size, fun k hk hko => ?_, fun b o hy => ?_, ?_, fun b hb => ?_⟩
  · have := h.size
    rw [h'.keep k (by omega) (by simp)]; exact h.keep k hk hko
  · rcases List.mem_append.1 hy with hy | hy
    · exact h'.own b o hy
    · rw [h'.keep _ (h.lt (mem_keys hy)) (by simp)]; exact h.own b o hy
  · rw [keys_append, List.nodup_append]
    refine ⟨h'.nodup, h.nodup, fun a ha b hb e => ?_⟩
    subst e
    have h1 := h.lt hb
    rcases h'.fresh a ha with h2 | h2
    · omega
    · simp at h2
  · rw [keys_append] at hb
    rcases List.mem_append.1 hb with hb | hb
    · rcases h'.fresh b hb with h2 | h2
      · have := h.size; exact .inl (by omega)
      · simp at h2
    · exact h.fresh b hb
theorem Mem.call0 (h : Mem w0 olds l w) {w' : World} (h' : Mem w [] [] w') : Mem w0 olds l w' := h.call h'

/-- A callee that turned the block at i, and made memory of its own besides. -/
theorem Mem.callUpd (h : Mem w0 olds l w) {i b : Nat} {o o' : Obj} (hp : pick l i = some (b, o)) {w' : World} (h' : Mem w [b] [some (b, o')] w') : Mem w0 olds (upd l i (some (b, o'))) w' :=
  h.put hp h'.os h'.tape h'.output h'.size (h'.own b o' (.head _)) (fun k hk hkb => h'.keep k hk (by simpa using hkb))

/-- A block of the beginning that nobody turned. -/
theorem Mem.old (h : Mem w0 olds l w) {k : Nat} (hk : k < w0.heap.size) (ho : k ∉ olds) : w.heap[k]? = w0.heap[k]? := h.keep k hk ho
theorem Mem.cell (h : Mem w0 olds l w) {a : Addr} (hk : a.block < w0.heap.size) (ho : a.block ∉ olds) : w.cell? a = w0.cell? a := World.cell?_of_block (h.keep _ hk ho)
theorem Mem.cell_some (h : Mem w0 [] l w) {a : Addr} {v : Value} (ha : w0.cell? a = some v) : w.cell? a = some v :=
  (h.cell (World.block_lt_of_cell? _ _ ha) (by simp)).trans ha
theorem Mem.below (h : Mem w0 [] l w) : RowKit.Below w0.heap.size w0 w := ⟨h.os, h.tape, h.output, h.size, fun k hk => h.keep k hk (by simp)⟩

/-- Begin anew from the world at hand: these blocks may be written. -/
theorem Mem.start (h : Mem w0 olds l w) : Mem w (keys l) l w := ⟨rfl, rfl, rfl, Nat.le_refl _, fun _ _ _ => rfl, h.own, h.nodup, fun _ hx => .inr hx⟩

/-- A method's beginning: the receiver's block is known, and may be written. -/
theorem Mem.recv {b : Nat} {o : Obj} (h : w.heap[b]? = some o) : Mem w [b] [some (b, o)] w :=
  ⟨rfl, rfl, rfl, Nat.le_refl _, fun _ _ _ => rfl, fun c x hx => by simp at hx; obtain ⟨rfl, rfl⟩ := hx; exact h, by simp [keys], fun c hc => by simp [keys] at hc; subst hc; simp⟩
end

/-- A block of cells. -/
def blk (xs : List Value) (T : TypeId) : Obj := .cells xs.toArray T (0, 0)

theorem cell_of_blk {w : World} {b k : Nat} {xs : List Value} {T : TypeId} (h : w.heap[b]? = some (blk xs T)) : w.cell? ⟨b, k, none⟩ = xs[k]? := by
  rw [cell_of_row w b k _ T (0, 0) h]; simp
theorem Mem.cellAt {w0 w : World} {olds : List Nat} {l : List Ent} (h : Mem w0 olds l w) {i b k : Nat} {xs : List Value} {T : TypeId} (hp : pick l i = some (b, blk xs T)) : w.cell? ⟨b, k, none⟩ = xs[k]? :=
  cell_of_blk (h.at hp)

theorem add_none (b o k : Nat) : (⟨b, o, none⟩ : Addr).add k = ⟨b, o + k, none⟩ := by
  unfold Addr.add; split
  · rename_i h; subst h; rfl
  · rfl

section
variable {P : Program} {n : Nat} {F : Fr} {S : World → Prop} {ty : TypeId}

/-! Loads. -/
theorem loadVar_one {T : TypeId} {a : Addr} {v : Value} {w : World} (hA : (isAgg T).run P w = .ok false w) (hc : w.cell? a = some v) : (loadVar T a).run P w = .ok v w := by
  simp only [loadVar, Sem.run_bind, hA, Result.andThen_ok, Bool.false_eq_true, if_false, run_load, hc]

theorem loadVar_agg {T : TypeId} {b o m : Nat} {cs : List Value} {w : World} (hA : (isAgg T).run P w = .ok true w) (hS : (sizeOf T).run P w = .ok m w)
    (hl : cs.length = m) (hc : ∀ j v, cs[j]? = some v → w.cell? ⟨b, o + j, none⟩ = some v) : (loadVar T ⟨b, o, none⟩).run P w = .ok (.agg cs.toArray) w := by
  have h1 : (loadCells ⟨b, o, none⟩ m).run P w = .ok cs.toArray w := by
    rw [← hl]
    exact run_loadCells_list w _ cs (fun j v hj => by rw [add_none]; exact hc j v hj)
  simp only [loadVar, Sem.run_bind, hA, Result.andThen_ok, if_true, hS, h1, Sem.run_pure]

/-- A load of one cell that is known. -/
theorem val_load {T : TypeId} {x : Operand} {a : Addr} {v : Value} (hx : ev F x = some (.pointer (some a))) (hA : ∀ w, (isAgg T).run P w = .ok false w) (hc : ∀ w, S w → w.cell? a = some v) :
    Val P n F S (.load T x) ty v := fun s w hf hs d ps af g => by
  simp only [execOp, ev_eval hf hx, Instr.loadAt, Instr.sureAddr, Sem.run_bind, Sem.run_pure, Result.andThen_ok, loadVar_one (hA w) (hc w hs)]

/-- Out of a known block. -/
theorem val_load_at {T U : TypeId} {x : Operand} {b k : Nat} {v : Value} {w0 : World} {olds : List Nat} {l : List Ent} {xs : List Value} (i : Nat) (hx : ev F x = some (.pointer (some ⟨b, k, none⟩)))
    (hp : pick l i = some (b, blk xs U)) (hA : ∀ w, (isAgg T).run P w = .ok false w) (hv : xs[k]? = some v) :
    Val P n F (Mem w0 olds l) (.load T x) ty v := val_load hx hA fun w h => (h.cellAt hp).trans hv

theorem val_load_agg {T : TypeId} {x : Operand} {b o m : Nat} {cs : List Value} (hx : ev F x = some (.pointer (some ⟨b, o, none⟩))) (hA : ∀ w, (isAgg T).run P w = .ok true w) (hS : ∀ w, (sizeOf T).run P w = .ok m w)
    (hl : cs.length = m) (hc : ∀ w, S w → ∀ j v, cs[j]? = some v → w.cell? ⟨b, o + j, none⟩ = some v) :
    Val P n F S (.load T x) ty (.agg cs.toArray) := fun s w hf hs d ps af g => by
  simp only [execOp, ev_eval hf hx, Instr.loadAt, Instr.sureAddr, Sem.run_bind, Sem.run_pure, Result.andThen_ok, loadVar_agg (hA w) (hS w) hl (hc w hs)]

/-- A part of a known block. -/
theorem val_load_part {T U : TypeId} {x : Operand} {b o m : Nat} {w0 : World} {olds : List Nat} {l : List Ent} {xs cs : List Value} (i : Nat) (hx : ev F x = some (.pointer (some ⟨b, o, none⟩)))
    (hp : pick l i = some (b, blk xs U)) (hA : ∀ w, (isAgg T).run P w = .ok true w) (hS : ∀ w, (sizeOf T).run P w = .ok m w)
    (hl : cs.length = m) (hc : (xs.drop o).take m = cs) : Val P n F (Mem w0 olds l) (.load T x) ty (.agg cs.toArray) :=
  val_load_agg hx hA hS hl fun w h j v hj => by
    rw [h.cellAt hp]
    rw [← hc, List.getElem?_take] at hj
    split at hj
    · rw [List.getElem?_drop] at hj; exact hj
    · cases hj
/-- A whole known block. -/
theorem val_load_all {T U : TypeId} {x : Operand} {b m : Nat} {w0 : World} {olds : List Nat} {l : List Ent} {xs : List Value} (i : Nat) (hx : ev F x = some (.pointer (some ⟨b, 0, none⟩)))
    (hp : pick l i = some (b, blk xs U)) (hA : ∀ w, (isAgg T).run P w = .ok true w) (hS : ∀ w, (sizeOf T).run P w = .ok m w)
    (hl : xs.length = m) : Val P n F (Mem w0 olds l) (.load T x) ty (.agg xs.toArray) :=
  val_load_part i hx hp hA hS hl (by simp [← hl])

/-! New blocks. -/
theorem acts_box {T : TypeId} {x : Operand} {v : Value} {w0 : World} {olds : List Nat} {l : List Ent} (hx : ev F x = some v) :
    Acts P n F (Mem w0 olds l) (.box T x) ty (fun w u w' => u = .pointer (some ⟨w.heap.size, 0, none⟩) ∧ Mem w0 olds (some (w.heap.size, blk v.cells.toList T) :: l) w') :=
  fun s w hf hm d ps af g => ⟨_, w.alloc (.cells v.cells T), by simp [execOp, ev_eval hf hx, Instr.box, newVar, newRow], rfl, by have := hm.alloc (blk v.cells.toList T); simpa [blk] using this⟩

theorem acts_alloc {T : TypeId} {z : Value} {w0 : World} {olds : List Nat} {l : List Ent} (hz : ∀ w, (zeroValue T).run P w = .ok z w) :
    Acts P n F (Mem w0 olds l) (.alloc T) ty (fun w u w' => u = .pointer (some ⟨w.heap.size, 0, none⟩) ∧ Mem w0 olds (some (w.heap.size, blk z.cells.toList T) :: l) w') :=
  fun s w hf hm d ps af g => ⟨_, w.alloc (.cells z.cells T), by simp [execOp, Instr.alloc, hz, newVar, newRow], rfl, by have := hm.alloc (blk z.cells.toList T); simpa [blk] using this⟩

/-- A new block by name: the rule of a region's walk. -/
theorem ow_new {ops : Array Oper} {t : Nat} {op : Op} {ps : String} {af : Array Edge} {rest : List Oper} {Q : Po} {w0 : World} {olds : List Nat} {l : List Ent} {o : Obj}
    (hv : Acts P n F (Mem w0 olds l) op ty (fun w u w' => u = .pointer (some ⟨w.heap.size, 0, none⟩) ∧ Mem w0 olds (some (w.heap.size, o) :: l) w')) (ht : Nat.blt t n = true)
    (h : ∀ b, w0.heap.size ≤ b → OW P n ops rest ((t, .pointer (some ⟨b, 0, none⟩)) :: F) (Mem w0 olds (some (b, o) :: l)) Q) : OW P n ops (⟨some t, op, ty, ps, af, none⟩ :: rest) F (Mem w0 olds l) Q := by
  intro a w hf hm
  refine wpList_plain rfl fun K hK => ?_
  unfold Oper.wp
  obtain ⟨v, w', e, rfl, hm'⟩ := hv a w hf hm (some t) ps af none
  rw [e]
  exact hK _ _ (h w.heap.size hm.size _ w' (hf.put ht _) hm')

/-! Stores. -/
theorem setCell_blk {w : World} {b k : Nat} {xs : List Value} {T : TypeId} {v : Value} (h : w.heap[b]? = some (blk xs T)) : (w.setCell ⟨b, k, none⟩ v).heap[b]? = some (blk (xs.set k v) T) := by
  rw [heap_setCell_same w b k _ T v h]; simp [blk]

theorem does_store {T U : TypeId} {x y : Operand} {b k : Nat} {v : Value} {w0 : World} {olds : List Nat} {l : List Ent} {xs : List Value} (i : Nat) (hx : ev F x = some (.pointer (some ⟨b, k, none⟩))) (hy : ev F y = some v)
    (hp : pick l i = some (b, blk xs U)) (h1 : v.oneCell' = true) (hS : ∀ w, (sizeOf T).run P w = .ok 1 w) (hk : k < xs.length) :
    Does P n F (Mem w0 olds l) (.store T x y) ty (fun _ w' => Mem w0 olds (upd l i (some (b, blk (xs.set k v) U))) w') :=
  fun s w hf hm d ps af g => by
    have hb := hm.at hp
    have hc : w.cell? ⟨b, k, none⟩ = some xs[k] := by rw [cell_of_blk hb]; simp [hk]
    have hfz : w.frozen? ⟨b, k, none⟩ = false := frozen_of_row w b k _ U hb
    have hcells : v.cells = #[v] := by cases v <;> first | rfl | simp [Value.oneCell'] at h1
    have hst := run_store P w ⟨b, k, none⟩ v .plain h1
    rw [hc, hfz] at hst
    refine ⟨w.setCell ⟨b, k, none⟩ v, ?_, hm.put hp rfl rfl rfl (by simp) (setCell_blk hb) (fun j _ hj => heap_setCell_other w _ j v hj)⟩
    simp only [execOp, ev_eval hf hx, ev_eval hf hy, Instr.storeAt, Instr.sureAddr, Sem.run_bind, Sem.run_pure, Result.andThen_ok, storeVar, hS, hcells, storeCells, add_none, Nat.add_zero]
    simp [hst]

theorem splice_set (xs : List Value) (v : Value) (vs : List Value) (k : Nat) (hk : k < xs.length) :
    xs.take k ++ (v :: vs) ++ xs.drop (k + (vs.length + 1)) = (xs.set k v).take (k + 1) ++ vs ++ (xs.set k v).drop (k + (vs.length + 1)) := by
  have h1 : (xs.set k v).take (k + 1) = xs.take k ++ [v] := by
    rw [List.take_succ_eq_append_getElem (by simpa using hk), List.take_set_of_le (Nat.le_refl k)]
    simp
  have h2 : (xs.set k v).drop (k + (vs.length + 1)) = xs.drop (k + (vs.length + 1)) := by
    apply List.ext_getElem?
    intro j
    simp only [List.getElem?_drop]
    rw [List.getElem?_set_ne (by omega)]
  rw [h1, h2]; simp

/-- A whole row of cells. -/
theorem storeCells_blk : ∀ (vs : List Value) (i : Nat) (w : World) {b o : Nat} {xs : List Value} {T : TypeId} (_ : w.heap[b]? = some (blk xs T)) (_ : ∀ v ∈ vs, v.oneCell' = true) (_ : o + i + vs.length ≤ xs.length),
    ∃ w', (storeCells ⟨b, o, none⟩ vs i).run P w = .ok () w' ∧ w'.os = w.os ∧ w'.tape = w.tape ∧ w'.output = w.output ∧ w'.heap.size = w.heap.size ∧
      w'.heap[b]? = some (blk (xs.take (o + i) ++ vs ++ xs.drop (o + i + vs.length)) T) ∧ ∀ k, k ≠ b → w'.heap[k]? = w.heap[k]?
  | [], i, w, b, o, xs, T, hb, _, hl => ⟨w, by simp [storeCells], rfl, rfl, rfl, rfl, by simpa using hb, fun _ _ => rfl⟩
  | v :: vs, i, w, b, o, xs, T, hb, h1, hl => by
    simp only [List.length_cons] at hl
    have hk : o + i < xs.length := by omega
    have hc : w.cell? ⟨b, o + i, none⟩ = some xs[o + i] := by rw [cell_of_blk hb]; simp [hk]
    have hfz : w.frozen? ⟨b, o + i, none⟩ = false := frozen_of_row w b _ _ T hb
    have hst := run_store P w ⟨b, o + i, none⟩ v .plain (h1 v (.head _))
    rw [hc, hfz] at hst
    obtain ⟨w', e, h2, h3, h4, h5, h6, h7⟩ := storeCells_blk vs (i + 1) (w.setCell ⟨b, o + i, none⟩ v) (o := o) (setCell_blk hb) (fun u hu => h1 u (.tail _ hu)) (by simp; omega)
    refine ⟨w', ?_, h2, h3, h4, by rw [h5]; simp, ?_, fun k hk => by rw [h7 k hk]; exact heap_setCell_other w _ k v hk⟩
    · simp only [storeCells, add_none, Sem.run_bind, hst]
      simpa using e
    · rw [h6]
      rw [List.length_cons, splice_set xs v vs (o + i) hk, show o + (i + 1) = o + i + 1 by omega, show o + i + 1 + vs.length = o + i + (vs.length + 1) by omega]

theorem does_store_agg {T U : TypeId} {x y : Operand} {b o m : Nat} {cs : List Value} {w0 : World} {olds : List Nat} {l : List Ent} {xs : List Value} (i : Nat) (hx : ev F x = some (.pointer (some ⟨b, o, none⟩))) (hy : ev F y = some (.agg cs.toArray))
    (hp : pick l i = some (b, blk xs U)) (h1 : ∀ v ∈ cs, v.oneCell' = true) (hS : ∀ w, (sizeOf T).run P w = .ok m w) (hl : cs.length = m) (hk : o + m ≤ xs.length) :
    Does P n F (Mem w0 olds l) (.store T x y) ty (fun _ w' => Mem w0 olds (upd l i (some (b, blk (xs.take o ++ cs ++ xs.drop (o + m)) U))) w') :=
  fun s w hf hm d ps af g => by
    have hb := hm.at hp
    obtain ⟨w', e, h2, h3, h4, h5, h6, h7⟩ := storeCells_blk (P := P) cs 0 w (o := o) hb h1 (by omega)
    refine ⟨w', ?_, hm.put hp h2 h3 h4 (by rw [h5]; exact Nat.le_refl _) (by rw [← hl]; simpa using h6) (fun k _ hk => h7 k hk)⟩
    simp only [execOp, ev_eval hf hx, ev_eval hf hy, Instr.storeAt, Instr.sureAddr, Sem.run_bind, Sem.run_pure, Result.andThen_ok, storeVar, hS, Value.cells, List.size_toArray, hl, ne_eq, not_true, if_false, e]

/-! Addresses. -/
theorem val_nilCheck {x : Operand} {a : Addr} (hx : ev F x = some (.pointer (some a))) : Val P n F S (.nilCheck x) ty (.pointer (some a)) :=
  fun s w hf _ d ps af g => by simp [execOp, ev_eval hf hx]

theorem val_fieldAddr {T FT : TypeId} {x : Operand} {b o m e : Nat} {fs : Array Field} {f : Nat} {fd : Field} (hx : ev F x = some (.pointer (some ⟨b, o, none⟩))) (hT : P.underlying T = some (.struct fs)) (hf : fs[f]? = some fd)
    (hft : fd.type = FT) (hS : ∀ w, (sizeOf FT).run P w = .ok (m + 1) w) (he : o + fd.offset = e) : Val P n F S (.fieldAddr T x f) ty (.pointer (some ⟨b, e, none⟩)) :=
  fun s w hfit _ d ps af g => by
    subst hft; subst he
    simp [execOp, ev_eval hfit hx, Instr.fieldAt, run_underlying hT, hf, Instr.sureAddr, fieldPlace, hS, add_none]

theorem val_indexAddr {T E : TypeId} {x y : Operand} {b o len m : Nat} {k' : IntKind} {i : Int} (k e : Nat) (hx : ev F x = some (.pointer (some ⟨b, o, none⟩))) (hy : ev F y = some (.int k' i)) (hT : P.underlying T = some (.array len E))
    (hS : ∀ w, (sizeOf E).run P w = .ok m w) (hi : i = (k : Int)) (hk : k < len) (he : o + k * m = e) : Val P n F S (.indexAddr T x y) ty (.pointer (some ⟨b, e, none⟩)) :=
  fun s w hf _ d ps af g => by
    subst hi; subst he
    simp [execOp, ev_eval hf hx, ev_eval hf hy, Instr.indexAt, asIntOf, run_underlying hT, Instr.sureAddr, hS, add_none]
    intro; omega

theorem val_indexAddr_slice {T E : TypeId} {x y : Operand} {b o len cap m : Nat} {k' : IntKind} {i : Int} (k e : Nat) (hx : ev F x = some (.slice (some ⟨b, o, none⟩) len cap)) (hy : ev F y = some (.int k' i)) (hT : P.underlying T = some (.slice E))
    (hS : ∀ w, (sizeOf E).run P w = .ok m w) (hi : i = (k : Int)) (hk : k < len) (he : o + k * m = e) : Val P n F S (.indexAddr T x y) ty (.pointer (some ⟨b, e, none⟩)) :=
  fun s w hf _ d ps af g => by
    subst hi; subst he
    simp [execOp, ev_eval hf hx, ev_eval hf hy, Instr.indexAt, asIntOf, run_underlying hT, hS, add_none]
    intro; omega

/-- An element of an array value. -/
theorem val_index {T E : TypeId} {x y : Operand} {cs : List Value} {len : Nat} {k' : IntKind} {i : Int} {v : Value} (k : Nat) (hx : ev F x = some (.agg cs.toArray)) (hy : ev F y = some (.int k' i)) (hT : P.underlying T = some (.array len E))
    (hA : ∀ w, (isAgg E).run P w = .ok false w) (hS : ∀ w, (sizeOf E).run P w = .ok 1 w) (hi : i = (k : Int)) (hk : k < len) (hv : cs[k]? = some v) : Val P n F S (.index T x y) ty v :=
  fun s w hf _ d ps af g => by
    subst hi
    simp [execOp, ev_eval hf hx, ev_eval hf hy, Instr.index, asIntOf, run_underlying hT, hS, part, hA, hv]
    intro; omega

/-- A field of a struct value: of one cell, or of several. -/
theorem val_field {T : TypeId} {x : Operand} {cs : List Value} {fs : Array Field} {f : Nat} {fd : Field} {v : Value} (hx : ev F x = some (.agg cs.toArray)) (hT : P.underlying T = some (.struct fs)) (hf : fs[f]? = some fd)
    (hA : ∀ w, (isAgg fd.type).run P w = .ok false w) (hv : cs[fd.offset]? = some v) : Val P n F S (.field T x f) ty v :=
  fun s w hfit _ d ps af g => by
    simp [execOp, ev_eval hfit hx, Instr.field, run_underlying hT, hf, asAgg, part, hA, hv]
theorem val_field_agg {T : TypeId} {x : Operand} {cs vs : List Value} {m : Nat} {fs : Array Field} {f : Nat} {fd : Field} (hx : ev F x = some (.agg cs.toArray)) (hT : P.underlying T = some (.struct fs)) (hf : fs[f]? = some fd)
    (hA : ∀ w, (isAgg fd.type).run P w = .ok true w) (hS : ∀ w, (sizeOf fd.type).run P w = .ok m w) (hv : (cs.drop fd.offset).take m = vs) : Val P n F S (.field T x f) ty (.agg vs.toArray) :=
  fun s w hfit _ d ps af g => by
    subst hv
    simp [execOp, ev_eval hfit hx, Instr.field, run_underlying hT, hf, asAgg, part, hA, hS]

/-! Slices. -/
theorem bounds_run {isS : Bool} {len cap : Nat} {lo hi : Option Value} {w : World} {lk hk : IntKind} {lv hv : Option Nat} (hlo : lo = lv.map fun k => .int lk (k : Int)) (hhi : hi = hv.map fun k => .int hk (k : Int))
    (h : lv.getD 0 ≤ hv.getD len ∧ hv.getD len ≤ cap) : (Instr.sliceBounds isS len cap lo hi none).run P w = .ok (lv.getD 0, hv.getD len, cap) w := by
  subst hlo; subst hhi
  cases lv <;> cases hv <;> simp at h <;> simp [Instr.sliceBounds, Instr.sliceBound, asIntOf, h]

theorem val_slice {T E : TypeId} {x : Operand} {lo hi : Option Operand} {a : Option Addr} {len cap m : Nat} {lk hk : IntKind} (lv hv : Option Nat) (r : Value) (hx : ev F x = some (.slice a len cap)) (hT : P.underlying T = some (.slice E)) (hS : ∀ w, (sizeOf E).run P w = .ok m w)
    (hlo : ∀ s, Fits n F s → lo.map s.eval = lv.map fun k => .int lk (k : Int)) (hhi : ∀ s, Fits n F s → hi.map s.eval = hv.map fun k => .int hk (k : Int))
    (h : lv.getD 0 ≤ hv.getD len ∧ hv.getD len ≤ cap) (hr : .slice (if cap = lv.getD 0 then a else a.map (·.add (lv.getD 0 * m))) (hv.getD len - lv.getD 0) (cap - lv.getD 0) = r) : Val P n F S (.slice T x lo hi none) ty r :=
  fun s w hf _ d ps af g => by
    have hb := bounds_run (P := P) (w := w) (isS := true) (hlo s hf) (hhi s hf) h
    subst hr
    simp only [execOp, ev_eval hf hx, Instr.sliceAt, Sem.run_bind, run_underlying hT, Result.andThen_ok, Instr.slice, Option.map_none, hb, hS, Sem.run_pure]

theorem val_slice_array {T E : TypeId} {x : Operand} {lo hi : Option Operand} {b o len m : Nat} {lk hk : IntKind} (lv hv : Option Nat) (r : Value) (hx : ev F x = some (.pointer (some ⟨b, o, none⟩))) (hT : P.underlying T = some (.array len E)) (hS : ∀ w, (sizeOf E).run P w = .ok m w)
    (hlo : ∀ s, Fits n F s → lo.map s.eval = lv.map fun k => .int lk (k : Int)) (hhi : ∀ s, Fits n F s → hi.map s.eval = hv.map fun k => .int hk (k : Int))
    (h : lv.getD 0 ≤ hv.getD len ∧ hv.getD len ≤ len) (hr : .slice (some (if len = lv.getD 0 then ⟨b, o, none⟩ else ⟨b, o + lv.getD 0 * m, none⟩)) (hv.getD len - lv.getD 0) (len - lv.getD 0) = r) : Val P n F S (.slice T x lo hi none) ty r :=
  fun s w hf _ d ps af g => by
    have hb := bounds_run (P := P) (w := w) (isS := false) (hlo s hf) (hhi s hf) h
    subst hr
    simp only [execOp, ev_eval hf hx, Instr.sliceAt, Sem.run_bind, run_underlying hT, Result.andThen_ok, Option.map_none, hb, hS, Sem.run_pure, Instr.sureAddr, add_none]

theorem val_len {x : Operand} {T E : TypeId} {a : Option Addr} {len cap : Nat} (hx : ev F x = some (.slice a len cap)) (hT : P.underlying T = some (.slice E)) :
    Val P n F S (.call { callee := .builtin .len, args := #[x], argTypes := #[T] }) ty (vInt (len : Int)) :=
  fun s w hf _ d ps af g => by
    simp [execOp, resolve, ev_eval hf hx, invoke, builtin, Builtin.len_, run_underlying hT, goInt, vInt]

theorem val_min {x y : Operand} {ts : Array TypeId} {a b : Int} (hx : ev F x = some (vInt a)) (hy : ev F y = some (vInt b)) :
    Val P n F S (.call { callee := .builtin .min, args := #[x, y], argTypes := ts }) ty (vInt (min a b)) :=
  fun s w hf _ d ps af g => by
    have : (if b < a then b else a) = min a b := by split <;> omega
    simp [execOp, resolve, ev_eval hf hx, ev_eval hf hy, invoke, builtin, Builtin.min_, Builtin.min2, vInt, this]
theorem val_max {x y : Operand} {ts : Array TypeId} {a b : Int} (hx : ev F x = some (vInt a)) (hy : ev F y = some (vInt b)) :
    Val P n F S (.call { callee := .builtin .max, args := #[x, y], argTypes := ts }) ty (vInt (max a b)) :=
  fun s w hf _ d ps af g => by
    have : (if b > a then b else a) = max a b := by split <;> omega
    simp [execOp, resolve, ev_eval hf hx, ev_eval hf hy, invoke, builtin, Builtin.max_, Builtin.max2, vInt, this]
end
end Go.Sx

namespace Go.Sx

/-- The elements of a slice, read. -/
def Rd (w : World) (a : Option Addr) (xs : List Value) : Prop := ∀ j x, xs[j]? = some x → ∃ b o, a = some ⟨b, o, none⟩ ∧ w.cell? ⟨b, o + j, none⟩ = some x

theorem Rd.addr {w : World} {a : Option Addr} {xs : List Value} (h : Rd w a xs) (hp : 0 < xs.length) : ∃ b o, a = some ⟨b, o, none⟩ := by
  obtain ⟨b, o, e, _⟩ := h 0 xs[0] (by simp [hp])
  exact ⟨b, o, e⟩
theorem Rd.cell {w : World} {b o : Nat} {xs : List Value} (h : Rd w (some ⟨b, o, none⟩) xs) {j : Nat} {x : Value} (hj : xs[j]? = some x) : w.cell? ⟨b, o + j, none⟩ = some x := by
  obtain ⟨b', o', e, hc⟩ := h j x hj
  simp only [Option.some.injEq, Addr.mk.injEq, and_true] at e
  obtain ⟨rfl, rfl⟩ := e
  exact hc
theorem Rd.nil (w : World) (a : Option Addr) : Rd w a [] := fun j x h => by simp at h
theorem Rd.mem {w0 w : World} {l : List Ent} {a : Option Addr} {xs : List Value} (h : Rd w0 a xs) (hm : Mem w0 [] l w) : Rd w a xs := fun j x hj => by
  obtain ⟨b, o, e, hc⟩ := h j x hj
  exact ⟨b, o, e, hm.cell_some hc⟩
/-- The blocks of olds are others. -/
theorem Rd.memOlds {w0 w : World} {l : List Ent} {olds : List Nat} {a : Option Addr} {xs : List Value} (h : Rd w0 a xs) (hm : Mem w0 olds l w) (ho : ∀ b o, a = some ⟨b, o, none⟩ → b ∉ olds) : Rd w a xs := fun j x hj => by
  obtain ⟨b, o, e, hc⟩ := h j x hj
  refine ⟨b, o, e, ?_⟩
  rw [hm.cell (World.block_lt_of_cell? _ _ hc) (ho b o e)]; exact hc
theorem Rd.own {w0 w : World} {l : List Ent} {olds : List Nat} {i b o : Nat} {ys xs : List Value} {T : TypeId} (hm : Mem w0 olds l w) (hp : pick l i = some (b, blk ys T)) (hx : (ys.drop o).take xs.length = xs) : Rd w (some ⟨b, o, none⟩) xs :=
  fun j x hj => ⟨b, o, rfl, by
    rw [hm.cellAt hp, ← hj]
    conv => rhs; rw [← hx]
    have : j < xs.length := (List.getElem?_eq_some_iff.1 hj).1
    rw [List.getElem?_take, if_pos this, List.getElem?_drop]⟩
theorem Rd.sub {w : World} {b o : Nat} {xs ys : List Value} (h : Rd w (some ⟨b, o, none⟩) xs) (k : Nat) (hy : (xs.drop k).take ys.length = ys) : Rd w (some ⟨b, o + k, none⟩) ys := fun j x hj => by
  refine ⟨b, o + k, rfl, ?_⟩
  have hl : j < ys.length := (List.getElem?_eq_some_iff.1 hj).1
  have : xs[k + j]? = some x := by rw [← hj]; conv => rhs; rw [← hy]
                                   rw [List.getElem?_take, if_pos hl, List.getElem?_drop]
  have h2 := h.cell this
  rwa [Nat.add_assoc]

/-- The first n elements of a slice of its own: nil, or the head of the block at the entry. -/
def RowE (v : Value) (T : TypeId) (size n : Nat) (xs : List Value) (e : Ent) : Prop :=
  xs.length = n * size ∧ ((v = .slice none 0 0 ∧ n = 0 ∧ e = none) ∨
    ∃ b cap rest, v = .slice (some ⟨b, 0, none⟩) n cap ∧ n ≤ cap ∧ cap ≤ 9223372036854775807 ∧ (xs ++ rest).length = cap * size ∧ e = some (b, blk (xs ++ rest) T))

theorem RowE.nil (T : TypeId) (size : Nat) : RowE (.slice none 0 0) T size 0 [] none := ⟨by simp, .inl ⟨rfl, rfl, rfl⟩⟩
theorem RowE.full {b n : Nat} {T : TypeId} {size : Nat} {xs : List Value} (h : xs.length = n * size) (hn : n ≤ 9223372036854775807) : RowE (.slice (some ⟨b, 0, none⟩) n n) T size n xs (some (b, blk xs T)) :=
  ⟨h, .inr ⟨b, n, [], rfl, Nat.le_refl _, hn, by simpa using h, by simp⟩⟩
theorem RowE.rd {v : Value} {T : TypeId} {size n : Nat} {xs : List Value} {e : Ent} (h : RowE v T size n xs e) {w0 w : World} {olds : List Nat} {l : List Ent} {i : Nat} (hm : Mem w0 olds l w) (hp : pick l i = e) :
    ∃ a cap, v = .slice a n cap ∧ n ≤ cap ∧ Rd w a xs := by
  obtain ⟨hl, ⟨rfl, rfl, rfl⟩ | ⟨b, cap, rest, rfl, hc, _, hr, rfl⟩⟩ := h
  · exact ⟨none, 0, rfl, Nat.le_refl _, by
      have : xs = [] := List.length_eq_zero_iff.1 (by simpa using hl)
      rw [this]; exact Rd.nil _ _⟩
  · exact ⟨_, cap, rfl, hc, Rd.own hm hp (by simp)⟩

section
variable {P : Program} {n : Nat} {F : Fr} {S : World → Prop} {ty : TypeId}

/-! Calls. -/
def evs (F : Fr) : List Operand → Option (List Value)
  | [] => some []
  | x :: r => match ev F x, evs F r with
    | some v, some vs => some (v :: vs)
    | _, _ => none
theorem evs_eval {F : Fr} {a : Act} (hf : Fits n F a) : ∀ {xs : List Operand} {vs : List Value}, evs F xs = some vs → xs.map a.eval = vs
  | [], vs, h => by simp [evs] at h; subst h; rfl
  | x :: r, vs, h => by
    simp only [evs] at h
    split at h
    · rename_i v us hv hu
      simp only [Option.some.injEq] at h; subst h
      simp [ev_eval hf hv, evs_eval hf hu]
    · cases h

/-- A call of a named function with a Go body. -/
theorem callsTo {f : FuncId} {fn : Func} {xs : List Operand} {vs : List Value} {ts : Array TypeId} (hf : P.funcs[f]? = some fn) {c : Code} (hb : fn.body = some c) (hn : (fn.name == "runtime.NumGoroutine") = false)
    (hv : evs F xs = some vs) : CallsTo P n F S (.call { callee := .value (.func f), args := xs.toArray, argTypes := ts }) ty f vs.toArray :=
  fun a w hfit _ d ps af g => by
    have h1 : (xs.toArray.map a.eval) = vs.toArray := by simp [evs_eval hfit hv]
    have h2 : a.eval (.func f) = .func (.func f) #[] #[] := rfl
    simp only [execOp, resolve, h1, h2, Deferred.ofValue, Sem.run_bind]
    have hn' : ¬ fn.name = "runtime.NumGoroutine" := by simpa using hn
    simp [invoke, callFunc, hf, hn', hb]

/-- A call of a function value with captured variables. -/
theorem callsToVal {f : FuncId} {fn : Func} {x : Operand} {cap : List Value} {xs : List Operand} {vs : List Value} {ts : Array TypeId} (hx : ev F x = some (.func (.func f) #[] cap.toArray)) (hf : P.funcs[f]? = some fn) {c : Code} (hb : fn.body = some c) (hn : (fn.name == "runtime.NumGoroutine") = false)
    (hv : evs F xs = some vs) : CallsTo P n F S (.call { callee := .value x, args := xs.toArray, argTypes := ts }) ty f (vs ++ cap).toArray :=
  fun a w hfit _ d ps af g => by
    have h1 : (xs.toArray.map a.eval) = vs.toArray := by simp [evs_eval hfit hv]
    simp only [execOp, resolve, h1, ev_eval hfit hx, Deferred.ofValue, Sem.run_bind]
    have hn' : ¬ fn.name = "runtime.NumGoroutine" := by simpa using hn
    simp [invoke, callFunc, hf, hn', hb]

/-- A call that hands back a value told beforehand, and only made memory of its own. -/
theorem ow_call_pure {ops : Array Oper} {t : Nat} {op : Op} {ps : String} {af : Array Edge} {rest : List Oper} {Q : Po} {w0 : World} {olds : List Nat} {l : List Ent} {f : FuncId} {args : Array Value} {v : Value}
    (hv : CallsTo P n F (Mem w0 olds l) op ty f args) (ht : Nat.blt t n = true)
    (hc : ∀ w, Mem w0 olds l w → Calls P f args w fun e w' => ∃ u, e = .returned u ∧ u = v ∧ Mem w [] [] w')
    (h : OW P n ops rest ((t, v) :: F) (Mem w0 olds l) Q) : OW P n ops (⟨some t, op, ty, ps, af, none⟩ :: rest) F (Mem w0 olds l) Q :=
  ow_call (fun w u w' => u = v ∧ Mem w0 olds l w') hv ht (fun w hm => (hc w hm).mono fun e w' ⟨u, he, hu, hm'⟩ => ⟨u, he, hu, hm.call0 hm'⟩)
    (fun w u hm a w' hf ⟨hu, hm'⟩ => by subst hu; exact h a w' hf hm')

/-- A call that hands back something, and new blocks with it. -/
theorem ow_call_new {ops : Array Oper} {t : Nat} {op : Op} {ps : String} {af : Array Edge} {rest : List Oper} {Q : Po} {w0 : World} {olds : List Nat} {l : List Ent} {f : FuncId} {args : Array Value}
    (R : Value → List Ent → Prop) (hv : CallsTo P n F (Mem w0 olds l) op ty f args) (ht : Nat.blt t n = true)
    (hc : ∀ w, Mem w0 olds l w → Calls P f args w fun e w' => ∃ u, e = .returned u ∧ ∃ l', R u l' ∧ Mem w [] l' w')
    (h : ∀ u l', R u l' → OW P n ops rest ((t, u) :: F) (Mem w0 olds (l' ++ l)) Q) : OW P n ops (⟨some t, op, ty, ps, af, none⟩ :: rest) F (Mem w0 olds l) Q :=
  ow_call (fun w u w' => ∃ l', R u l' ∧ Mem w0 olds (l' ++ l) w') hv ht (fun w hm => (hc w hm).mono fun e w' ⟨u, he, l', hu, hm'⟩ => ⟨u, he, l', hu, hm.call hm'⟩)
    (fun w u hm a w' hf ⟨l', hu, hm'⟩ => h u l' hu a w' hf hm')

/-- A call that turns the block at i. -/
theorem ow_call_upd {ops : Array Oper} {t : Nat} {op : Op} {ps : String} {af : Array Edge} {rest : List Oper} {Q : Po} {w0 : World} {olds : List Nat} {l : List Ent} {f : FuncId} {args : Array Value} {b : Nat} {o : Obj} (i : Nat)
    (R : Value → Obj → Prop) (hp : pick l i = some (b, o)) (hv : CallsTo P n F (Mem w0 olds l) op ty f args) (ht : Nat.blt t n = true)
    (hc : ∀ w, Mem w0 olds l w → Calls P f args w fun e w' => ∃ u, e = .returned u ∧ ∃ o', R u o' ∧ Mem w [b] [some (b, o')] w')
    (h : ∀ u o', R u o' → OW P n ops rest ((t, u) :: F) (Mem w0 olds (upd l i (some (b, o')))) Q) : OW P n ops (⟨some t, op, ty, ps, af, none⟩ :: rest) F (Mem w0 olds l) Q :=
  ow_call (fun w u w' => ∃ o', R u o' ∧ Mem w0 olds (upd l i (some (b, o'))) w') hv ht (fun w hm => (hc w hm).mono fun e w' ⟨u, he, o', hu, hm'⟩ => ⟨u, he, o', hu, hm.callUpd hp hm'⟩)
    (fun w u hm a w' hf ⟨o', hu, hm'⟩ => h u o' hu a w' hf hm')

/-! make. -/
theorem cells_one {v : Value} (h : v.oneCell' = true) : v.cells = #[v] := by cases v <;> first | rfl | simp [Value.oneCell'] at h

theorem acts_make {T E : TypeId} {x y : Operand} {i : TypeInfo} {z : Value} {kl kc : IntKind} {w0 : World} {olds : List Nat} {l : List Ent} (len cap : Nat) (hx : ev F x = some (.int kl (len : Int))) (hy : ev F y = some (.int kc (cap : Int)))
    (hT : P.underlying T = some (.slice E)) (hi : P.info? E = some i) (hz : i.zero = some z) (hle : len ≤ cap) (hb : i.bytes * cap ≤ 281474976710656) (h63 : cap ≤ 9223372036854775807) :
    Acts P n F (Mem w0 olds l) (.makeSlice T x y) ty (fun w u w' => u = .slice (some ⟨w.heap.size, 0, none⟩) len cap ∧ Mem w0 olds (some (w.heap.size, blk (madeCells z.cells (cap * i.size)).toList E) :: l) w') :=
  fun s w hf hm d ps af g => by
    have hb' : ((i.bytes * cap : Nat) : Int) ≤ 281474976710656 := by omega
    rw [Int.natCast_mul] at hb'
    have h1 := run_make (P := P) w T E i z hT hi hz kl kc (len : Int) (cap : Int) (by omega) (by omega) hb' (by omega)
    simp only [Int.toNat_natCast] at h1
    refine ⟨_, _, by simp only [execOp, ev_eval hf hx, ev_eval hf hy, Sem.run_bind, h1, Result.andThen_ok, Sem.run_pure]; rfl, rfl, ?_⟩
    have := hm.alloc (blk (madeCells z.cells (cap * i.size)).toList E)
    simpa [blk] using this

theorem ow_make {ops : Array Oper} {t : Nat} {op : Op} {ps : String} {af : Array Edge} {rest : List Oper} {Q : Po} {w0 : World} {olds : List Nat} {l : List Ent} {o : Obj} {len cap : Nat}
    (hv : Acts P n F (Mem w0 olds l) op ty (fun w u w' => u = .slice (some ⟨w.heap.size, 0, none⟩) len cap ∧ Mem w0 olds (some (w.heap.size, o) :: l) w')) (ht : Nat.blt t n = true)
    (h : ∀ b, w0.heap.size ≤ b → OW P n ops rest ((t, .slice (some ⟨b, 0, none⟩) len cap) :: F) (Mem w0 olds (some (b, o) :: l)) Q) : OW P n ops (⟨some t, op, ty, ps, af, none⟩ :: rest) F (Mem w0 olds l) Q := by
  intro a w hf hm
  refine wpList_plain rfl fun K hK => ?_
  unfold Oper.wp
  obtain ⟨v, w', e, rfl, hm'⟩ := hv a w hf hm (some t) ps af none
  rw [e]
  exact hK _ _ (h w.heap.size hm.size _ w' (hf.put ht _) hm')

theorem made_one (z : Value) (n : Nat) : (madeCells #[z] n).toList = List.replicate n z := toList_madeCells_one z n

theorem upd_self : ∀ (l : List Ent) (i : Nat), upd l i (pick l i) = l
  | [], _ => rfl
  | x :: r, 0 => rfl
  | x :: r, i + 1 => by simp [upd, pick, upd_self r i]

/-! append. -/
theorem run_firstCells_Rd {w : World} {a : Option Addr} {xs : List Value} (h : Rd w a xs) {size m c : Nat} (hl : xs.length = m * size) : (Builtin.firstCells size m (.slice a m c)).run P w = .ok xs.toArray w := by
  cases a with
  | none =>
    have : xs = [] := by
      cases xs with
      | nil => rfl
      | cons x r => obtain ⟨b, o, e, _⟩ := h 0 x rfl; cases e
    subst this
    simp [Builtin.firstCells]
  | some ad =>
    refine run_firstCells_some w size m ad m c xs hl fun j v hj => ?_
    obtain ⟨b, o, e, hc⟩ := h j v hj
    simp only [Option.some.injEq] at e; subst e
    rw [add_none]; exact hc

/-- append of whatever slice that is read to a row of its own. -/
theorem acts_append {T E : TypeId} {x y : Operand} {i : TypeInfo} {z v : Value} {size bytes k m c : Nat} {a : Option Addr} {xs ys : List Value} {e : Ent} {w0 : World} {olds : List Nat} {l : List Ent} (idx : Nat)
    (hx : ev F x = some v) (hy : ev F y = some (.slice a m c)) (hp : pick l idx = e) (hrow : RowE v E size k xs e) (hlen : Nat.blt idx l.length = true)
    (hT : P.underlying T = some (.slice E)) (hi : P.info? E = some i) (hz : i.zero = some z) (hs : i.size = size) (hby : i.bytes = bytes) (hzs : z.cells.size = size) (hsz : 0 < size)
    (hrd : ∀ w, Mem w0 olds l w → Rd w a ys) (hyl : ys.length = m * size) (h1 : ∀ u ∈ ys, u.oneCell' = true) (hb : (k + m) * bytes ≤ 140737488355328) (hkm : k + m ≤ 9223372036854775807) :
    Acts P n F (Mem w0 olds l) (.call { callee := .builtin .append, args := #[x, y], argTypes := #[T, T] }) ty
      (fun _ u w' => ∃ e', RowE u E size (k + m) (xs ++ ys) e' ∧ Mem w0 olds (upd l idx e') w') := by
  intro s w hf hm d ps af g
  have hrdw := hrd w hm
  subst hs; subst hby
  have hexec : ∀ (u : Value) (w' : World), (Builtin.append_ #[T, T] ty #[v, .slice a m c]).run P w = .ok u w' →
      (execOp s.eval ⟨d, .call { callee := .builtin .append, args := #[x, y], argTypes := #[T, T] }, ty, ps, af, g⟩).run P w = .ok (.value u) w' := by
    intro u w' h
    simp [execOp, resolve, ev_eval hf hx, ev_eval hf hy, invoke, builtin, h]
  have hidx : idx < l.length := by simpa [Nat.blt, Nat.succ_le_iff] using hlen
  cases a with
  | none =>
    -- nothing is appended
    have hys : ys = [] := by
      cases ys with
      | nil => rfl
      | cons q r => obtain ⟨b, o, e, _⟩ := hrdw 0 q rfl; cases e
    subst hys
    have hm0 : m = 0 := by
      rcases Nat.eq_zero_or_pos m with h | h
      · exact h
      · have := Nat.mul_pos h hsz; simp at hyl; omega
    subst hm0
    refine ⟨v, w, hexec v w ?_, e, by simpa using hrow, ?_⟩
    · rcases hrow.2 with ⟨rfl, rfl, _⟩ | ⟨b, cap, rest, rfl, hc, _⟩
      · simp [Builtin.append_, run_underlying hT, sizeOf, typeInfo, hi, Builtin.lenOf, Builtin.firstCells]
      · simp [Builtin.append_, run_underlying hT, sizeOf, typeInfo, hi, Builtin.lenOf, Builtin.firstCells, hc, storeCells]
    · rw [← hp, upd_self]; exact hm
  | some ad =>
    have hnews : ∀ j u, ys[j]? = some u → w.cell? (ad.add j) = some u := fun j u hj => by
      obtain ⟨b, o, e, hc⟩ := hrdw j u hj
      simp only [Option.some.injEq] at e; subst e
      rw [add_none]; exact hc
    have hcap := grownCap_ge w (k + m)
    -- behind a growth
    have grown : ∀ (old : Nat), Mem w0 olds (upd l idx (some (w.heap.size, blk (xs ++ ys ++ (Builtin.zeroCells z.cells (grownCap w (k + m) old E - (k + m))).toList) E)))
        (w.drew.alloc (.cells (xs.toArray ++ ys.toArray ++ Builtin.zeroCells z.cells (grownCap w (k + m) old E - (k + m))) E)) := fun old =>
      hm.renew idx rfl rfl rfl (by simp) (Nat.le_refl _) (by
        have := heap_alloc_new w.drew (.cells (xs.toArray ++ ys.toArray ++ Builtin.zeroCells z.cells (grownCap w (k + m) old E - (k + m))) E)
        simp only [blk]
        refine this.trans ?_
        congr 2
        apply Array.ext'
        simp) (fun j hj => RowKit.Below.heap_alloc w.drew _ j hj)
    have growE : ∀ (old : Nat), RowE (.slice (some ⟨w.heap.size, 0, none⟩) (k + m) (grownCap w (k + m) old E)) E i.size (k + m) (xs ++ ys)
        (some (w.heap.size, blk (xs ++ ys ++ (Builtin.zeroCells z.cells (grownCap w (k + m) old E - (k + m))).toList) E)) := fun old => by
      have hge := grownCap_ge w (k + m) old E
      have hml := grownCap_le_maxLen w (k + m) old E (by simpa [maxLen] using hkm)
      refine ⟨by rw [List.length_append, hrow.1, hyl, Nat.add_mul], .inr ⟨_, _, _, rfl, hge, by simpa [maxLen] using hml, ?_, rfl⟩⟩
      simp only [List.length_append, Array.length_toList, size_zeroCells, hzs, hrow.1, hyl, ← Nat.add_mul]
      congr 1; omega
    rcases hrow.2 with ⟨rfl, rfl, rfl⟩ | ⟨b, cap, rest, rfl, hc, hcm, hcl, rfl⟩
    · have hxs : xs = [] := List.length_eq_zero_iff.1 (by simpa using hrow.1)
      subst hxs
      rcases Nat.eq_zero_or_pos m with rfl | hpos
      · have hys : ys = [] := List.length_eq_zero_iff.1 (by simpa using hyl)
        subst hys
        refine ⟨.slice none 0 0, w, hexec _ w ?_, none, RowE.nil E i.size, by rw [← hp, upd_self]; exact hm⟩
        simp [Builtin.append_, run_underlying hT, sizeOf, typeInfo, hi, Builtin.lenOf, Builtin.firstCells, loadCells, loadCellsFrom]
      · have hr := run_append_nil (P := P) w T ty E i z hT hi hz ad m c ys hyl hnews hpos (by omega) (by simp only [Nat.zero_add] at hb; omega)
        have g1 := grown 0; have g2 := growE 0
        simp only [Nat.zero_add, List.nil_append, Array.empty_append] at g1 g2 ⊢
        exact ⟨_, _, hexec _ _ hr, _, g2, g1⟩
    · have hbk := hm.at hp
      by_cases hroom : k + m ≤ cap
      · have hfit : k * i.size + ys.length ≤ (xs ++ rest).toArray.size := by
          simp only [List.size_toArray, hcl, hyl, ← Nat.add_mul]; exact Nat.mul_le_mul_right _ hroom
        have hr := run_append_room (P := P) w T ty E i hT hi b k cap _ hbk ad m c ys hyl hnews h1 hroom hfit
        have hx1 : (xs ++ rest).take (k * i.size) = xs := by rw [← hrow.1]; exact List.take_left
        have hx2 : (xs ++ rest).drop (k * i.size + ys.length) = rest.drop ys.length := by rw [← hrow.1, ← List.drop_drop, List.drop_left]
        simp only [hx1, hx2] at hr
        refine ⟨_, _, hexec _ _ hr, some (b, blk (xs ++ ys ++ rest.drop ys.length) E), ⟨by rw [List.length_append, hrow.1, hyl, Nat.add_mul], .inr ⟨b, cap, rest.drop ys.length, rfl, hroom, hcm, ?_, rfl⟩⟩, ?_⟩
        · simp only [List.size_toArray] at hfit
          simp only [List.length_append, List.length_drop] at hcl hfit ⊢
          have := hrow.1
          omega
        · refine hm.put hp rfl rfl rfl (by simp) ?_ (fun j _ hj => setRow_other w b j _ hj)
          exact setRow_heap w b _ _ E _ hbk
      · have holds : ∀ j u, xs[j]? = some u → w.cell? ((⟨b, 0, none⟩ : Addr).add j) = some u := fun j u hj => by
          rw [add_none, Nat.zero_add, hm.cellAt hp, List.getElem?_append_left (List.getElem?_eq_some_iff.1 hj).1]; exact hj
        have hr := run_append_grow (P := P) w T ty E i z hT hi hz ⟨b, 0, none⟩ k cap xs hrow.1 holds ad m c ys hyl hnews (by omega) (by omega) (growslice_fits (by omega) hb)
        exact ⟨_, _, hexec _ _ hr, _, growE cap, grown cap⟩
end
end Go.Sx
