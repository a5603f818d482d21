import Derived.Test.YtpmnhmfahgchgaaDoorSxF
set_option linter.unusedVariables false
set_option linter.unusedSimpArgs false
namespace Go.Sx
section
variable {P : Program}

theorem forIn_all {E : TypeId} {d m : Nat} {xs ys : Array Value} (X Y : Nat → Value) (f : Nat → Bool) : ∀ (L : List Nat) (w : World),
    (∀ i ∈ L, ∀ w, (part E xs (i * m)).run P w = .ok (X i) w ∧ (part E ys (i * m)).run P w = .ok (Y i) w ∧ (Op.equalIn d E (X i) (Y i)).run P w = .ok (f i) w) →
    ((forIn L (none, ()) fun i (_ : Option Bool × Unit) => do
        let a ← part E xs (i * m)
        let b ← part E ys (i * m)
        let r ← Op.equalIn d E a b
        if (!r) = true then pure (ForInStep.done (some false, ())) else pure (ForInStep.yield (none, ()))) : Sem (Option Bool × Unit)).run P w = .ok (bif L.all f then (none, ()) else (some false, ())) w
  | [], w, _ => by simp
  | i :: L, w, h => by
    obtain ⟨h1, h2, h3⟩ := h i (.head _) w
    have ih := forIn_all (E := E) (d := d) (m := m) (xs := xs) (ys := ys) X Y f L w (fun j hj => h j (.tail _ hj))
    simp only [List.forIn_cons, Sem.run_bind, h1, Result.andThen_ok, h2, h3, List.all_cons]
    cases hf : f i with
    | false => simp
    | true => simp only [Bool.not_true, Bool.false_eq_true, if_false, Sem.run_pure, Result.andThen_ok, Bool.true_and]; exact ih

theorem eqIn_array {T E : TypeId} {len m d : Nat} {xs ys : Array Value} (X Y : Nat → Value) (f : Nat → Bool) (hT : P.underlying T = some (.array len E)) (hS : ∀ w, (sizeOf E).run P w = .ok m w)
    (h : ∀ i, i < len → ∀ w, (part E xs (i * m)).run P w = .ok (X i) w ∧ (part E ys (i * m)).run P w = .ok (Y i) w ∧ (Op.equalIn d E (X i) (Y i)).run P w = .ok (f i) w) (w : World) :
    (Op.equalIn (d + 1) T (.agg xs) (.agg ys)).run P w = .ok ((List.range' 0 len).all f) w := by
  unfold Op.equalIn
  have e := forIn_all (P := P) (E := E) (d := d) (m := m) (xs := xs) (ys := ys) X Y f (List.range' 0 len) w (fun i hi => h i (by simp [List.mem_range'] at hi; omega))
  simp only [Sem.run_bind, run_underlying hT, Result.andThen_ok, hS, Std.Legacy.Range.forIn_eq_forIn_range']
  have hsz : ([:len] : Std.Legacy.Range).size = len := by simp [Std.Legacy.Range.size]
  simp only [hsz]
  rw [e]
  cases (List.range' 0 len).all f <;> simp

/-- Arrays of one kind of element of one cell. -/
theorem eqIn_list {α : Type} [DecidableEq α] {T E : TypeId} {len d : Nat} (V : α → Value) (hT : P.underlying T = some (.array len E)) (hS : ∀ w, (sizeOf E).run P w = .ok 1 w) (hA : ∀ w, (isAgg E).run P w = .ok false w)
    (hV : ∀ a b w, (Op.equalIn d E (V a) (V b)).run P w = .ok (decide (a = b)) w) (xs ys : List α) (hx : xs.length = len) (hy : ys.length = len) (w : World) :
    (Op.equalIn (d + 1) T (.agg (xs.map V).toArray) (.agg (ys.map V).toArray)).run P w = .ok (decide (xs = ys)) w := by
  by_cases hl : len = 0
  · subst hl
    rw [eqIn_array (fun _ => undef) (fun _ => undef) (fun _ => true) hT hS (fun i hi => by omega) w]
    simp [List.length_eq_zero_iff.1 hx, List.length_eq_zero_iff.1 hy]
  · obtain ⟨a0, _⟩ : ∃ a, a ∈ xs := by
      cases xs with
      | nil => simp at hx; omega
      | cons a r => exact ⟨a, .head _⟩
    have hpart : ∀ (zs : List α), zs.length = len → ∀ i, i < len → ∀ w, (part E (zs.map V).toArray (i * 1)).run P w = .ok (V (zs.getD i a0)) w := by
      intro zs hz i hi w
      simp [part, hA, show i < zs.length by omega]
    rw [eqIn_array (fun i => V (xs.getD i a0)) (fun i => V (ys.getD i a0)) (fun i => decide (xs.getD i a0 = ys.getD i a0)) hT hS (fun i hi w => ⟨hpart xs hx i hi w, hpart ys hy i hi w, hV _ _ w⟩) w]
    congr 1
    rw [Bool.eq_iff_iff]
    simp only [List.all_eq_true, decide_eq_true_eq, List.mem_range'_1]
    constructor
    · intro h
      apply List.ext_getElem (by omega)
      intro i h1 h2
      have := h i (by omega)
      simpa [h1, h2] using this
    · rintro rfl i _; rfl

theorem eqIn_u8 {E : TypeId} {d : Nat} (hE : P.underlying E = some (.int .u8)) (a b : UInt8) (w : World) : (Op.equalIn (d + 1) E (vU8 a) (vU8 b)).run P w = .ok (decide (a = b)) w := by
  unfold vU8
  rw [run_equalIn_int w d E .u8 .u8 _ _ hE]
  congr 1
  rw [Bool.eq_iff_iff]; simp only [beq_iff_eq, decide_eq_true_eq, ← UInt8.toNat_inj]; omega
theorem eqIn_u32 {E : TypeId} {d : Nat} (hE : P.underlying E = some (.int .u32)) (a b : UInt32) (w : World) : (Op.equalIn (d + 1) E (vU32 a) (vU32 b)).run P w = .ok (decide (a = b)) w := by
  unfold vU32
  rw [run_equalIn_int w d E .u32 .u32 _ _ hE]
  congr 1
  rw [Bool.eq_iff_iff]; simp only [beq_iff_eq, decide_eq_true_eq, ← UInt32.toNat_inj]; omega

variable {n : Nat} {F : Fr} {S : World → Prop} {ty : TypeId}

theorem val_eql_agg {T V : TypeId} {x y : Operand} {xs ys : Array Value} {b : Bool} (hx : ev F x = some (.agg xs)) (hy : ev F y = some (.agg ys)) (hg : P.eqGuardType P.depth T = false)
    (he : ∀ w, (Op.equalIn (9999 + 1) T (.agg xs) (.agg ys)).run P w = .ok b w) : Val P n F S (.binOp .eql T x y V) ty (.bool b) :=
  bin_ok hx hy (fun w => run_eqGuard_agg w .eql T x y xs ys hg) fun w => by rw [run_eql_struct]; rw [show (10000 : Nat) = 9999 + 1 from rfl, he w]; rfl
theorem val_neq_agg {T V : TypeId} {x y : Operand} {xs ys : Array Value} {b : Bool} (hx : ev F x = some (.agg xs)) (hy : ev F y = some (.agg ys)) (hg : P.eqGuardType P.depth T = false)
    (he : ∀ w, (Op.equalIn (9999 + 1) T (.agg xs) (.agg ys)).run P w = .ok b w) : Val P n F S (.binOp .neq T x y V) ty (.bool (!b)) :=
  bin_ok hx hy (fun w => run_eqGuard_agg w .neq T x y xs ys hg) fun w => by rw [run_neq_struct]; rw [show (10000 : Nat) = 9999 + 1 from rfl, he w]; rfl

/-- Arrays of bytes; of 32-bit numbers. -/
theorem val_eql_u8s {T V E : TypeId} {x y : Operand} {len : Nat} {xs ys : List UInt8} (hx : ev F x = some (.agg (xs.map vU8).toArray)) (hy : ev F y = some (.agg (ys.map vU8).toArray)) (hg : P.eqGuardType P.depth T = false)
    (hT : P.underlying T = some (.array len E)) (hE : P.underlying E = some (.int .u8)) (hS : ∀ w, (sizeOf E).run P w = .ok 1 w) (hA : ∀ w, (isAgg E).run P w = .ok false w) (hlx : xs.length = len) (hly : ys.length = len) :
    Val P n F S (.binOp .eql T x y V) ty (.bool (decide (xs = ys))) :=
  val_eql_agg hx hy hg fun w => eqIn_list (d := 9999) vU8 hT hS hA (fun a b w => eqIn_u8 hE a b w) xs ys hlx hly w
theorem val_neq_u8s {T V E : TypeId} {x y : Operand} {len : Nat} {xs ys : List UInt8} (hx : ev F x = some (.agg (xs.map vU8).toArray)) (hy : ev F y = some (.agg (ys.map vU8).toArray)) (hg : P.eqGuardType P.depth T = false)
    (hT : P.underlying T = some (.array len E)) (hE : P.underlying E = some (.int .u8)) (hS : ∀ w, (sizeOf E).run P w = .ok 1 w) (hA : ∀ w, (isAgg E).run P w = .ok false w) (hlx : xs.length = len) (hly : ys.length = len) :
    Val P n F S (.binOp .neq T x y V) ty (.bool (!decide (xs = ys))) :=
  val_neq_agg hx hy hg fun w => eqIn_list (d := 9999) vU8 hT hS hA (fun a b w => eqIn_u8 hE a b w) xs ys hlx hly w
theorem val_eql_u32s {T V E : TypeId} {x y : Operand} {len : Nat} {xs ys : List UInt32} (hx : ev F x = some (.agg (xs.map vU32).toArray)) (hy : ev F y = some (.agg (ys.map vU32).toArray)) (hg : P.eqGuardType P.depth T = false)
    (hT : P.underlying T = some (.array len E)) (hE : P.underlying E = some (.int .u32)) (hS : ∀ w, (sizeOf E).run P w = .ok 1 w) (hA : ∀ w, (isAgg E).run P w = .ok false w) (hlx : xs.length = len) (hly : ys.length = len) :
    Val P n F S (.binOp .eql T x y V) ty (.bool (decide (xs = ys))) :=
  val_eql_agg hx hy hg fun w => eqIn_list (d := 9999) vU32 hT hS hA (fun a b w => eqIn_u32 hE a b w) xs ys hlx hly w
theorem val_neq_u32s {T V E : TypeId} {x y : Operand} {len : Nat} {xs ys : List UInt32} (hx : ev F x = some (.agg (xs.map vU32).toArray)) (hy : ev F y = some (.agg (ys.map vU32).toArray)) (hg : P.eqGuardType P.depth T = false)
    (hT : P.underlying T = some (.array len E)) (hE : P.underlying E = some (.int .u32)) (hS : ∀ w, (sizeOf E).run P w = .ok 1 w) (hA : ∀ w, (isAgg E).run P w = .ok false w) (hlx : xs.length = len) (hly : ys.length = len) :
    Val P n F S (.binOp .neq T x y V) ty (.bool (!decide (xs = ys))) :=
  val_neq_agg hx hy hg fun w => eqIn_list (d := 9999) vU32 hT hS hA (fun a b w => eqIn_u32 hE a b w) xs ys hlx hly w

/-! copy. -/
theorem acts_copy {T T' E : TypeId} {x y : Operand} {b o dl dc sl sc size : Nat} {a : Option Addr} {xs ys : List Value} {U : TypeId} {w0 : World} {olds : List Nat} {l : List Ent} (idx : Nat)
    (hx : ev F x = some (.slice (some ⟨b, o, none⟩) dl dc)) (hy : ev F y = some (.slice a sl sc)) (hp : pick l idx = some (b, blk xs U))
    (hT : P.underlying T = some (.slice E)) (hS : ∀ w, (sizeOf E).run P w = .ok size w)
    (hrd : ∀ w, Mem w0 olds l w → Rd w a ys) (hyl : ys.length = sl * size) (h1 : ∀ u ∈ ys, u.oneCell' = true) (hfit : o + dl * size ≤ xs.length) :
    Acts P n F (Mem w0 olds l) (.call { callee := .builtin .copy, args := #[x, y], argTypes := #[T, T'] }) ty
      (fun _ u w' => u = vInt ((min sl dl : Nat) : Int) ∧ Mem w0 olds (upd l idx (some (b, blk (xs.take o ++ ys.take (min sl dl * size) ++ xs.drop (o + min sl dl * size)) U))) w') := by
  intro s w hf hm d ps af g
  have hb := hm.at hp
  have hlen : (ys.take (min sl dl * size)).length = min sl dl * size := by
    rw [List.length_take, hyl]
    have : min sl dl * size ≤ sl * size := Nat.mul_le_mul_right _ (Nat.min_le_left _ _)
    omega
  have hle : min sl dl * size ≤ dl * size := Nat.mul_le_mul_right _ (Nat.min_le_right _ _)
  have hrd' : Rd w a (ys.take (min sl dl * size)) := fun j v hj => hrd w hm j v (by
    rw [List.getElem?_take] at hj; split at hj
    · exact hj
    · cases hj)
  have hfirst : (Builtin.firstCells size (min sl dl) (.slice a sl sc)).run P w = .ok (ys.take (min sl dl * size)).toArray w := by
    have := run_firstCells_Rd (P := P) (c := sc) hrd' (size := size) (m := min sl dl) hlen
    cases a <;> simpa [Builtin.firstCells] using this
  obtain ⟨w', e, h2, h3, h4, h5, h6, h7⟩ := storeCells_blk (P := P) (ys.take (min sl dl * size)) 0 w (o := o) hb (fun v hv => h1 v (List.mem_of_mem_take hv)) (by omega)
  refine ⟨vInt ((min sl dl : Nat) : Int), w', ?_, rfl, hm.put hp h2 h3 h4 (by rw [h5]; exact Nat.le_refl _) (by rw [h6, Nat.add_zero, hlen]) (fun k _ hk => h7 k hk)⟩
  have hmin : Nat.min sl dl = min sl dl := rfl
  simp [execOp, resolve, ev_eval hf hx, ev_eval hf hy, invoke, builtin, Builtin.copy_, run_underlying hT, Builtin.lenOf, hS, hmin, hfirst, e, goInt, vInt]

/-- copy of nothing to wherever. -/
theorem val_copy_none {T T' E : TypeId} {x y : Operand} {dl dc sc size : Nat} {a a' : Option Addr} 
    (hx : ev F x = some (.slice a' dl dc)) (hy : ev F y = some (.slice a 0 sc)) (hT : P.underlying T = some (.slice E)) (hS : ∀ w, (sizeOf E).run P w = .ok size w) :
    Val P n F S (.call { callee := .builtin .copy, args := #[x, y], argTypes := #[T, T'] }) ty (vInt 0) :=
  fun s w hf _ d ps af g => by
    have hmin : Nat.min 0 dl = 0 := Nat.zero_min dl
    cases a' <;> cases a <;> simp [execOp, resolve, ev_eval hf hx, ev_eval hf hy, invoke, builtin, Builtin.copy_, run_underlying hT, Builtin.lenOf, hS, hmin, Builtin.firstCells, loadCells, loadCellsFrom, storeCells, goInt, vInt]

/-! Literals. -/
theorem val_build {T : TypeId} {parts : Array (Nat × Operand)} {vs : List (Nat × Value)} {cells : Array Value} (hv : ∀ a, Fits n F a → (parts.map fun (i, x) => (i, a.eval x)) = vs.toArray)
    (hb : P.built T vs = some cells) : Val P n F S (.build T parts) ty (.agg cells) :=
  fun s w hf _ d ps af g => by
    have h1 := run_build (P := P) w T vs.toArray cells hb
    simp only [execOp, hv s hf, Sem.run_bind, h1, Result.andThen_ok, Sem.run_pure]

def evp (F : Fr) : List (Nat × Operand) → Option (List (Nat × Value))
  | [] => some []
  | (i, x) :: r => match ev F x, evp F r with
    | some v, some vs => some ((i, v) :: vs)
    | _, _ => none
theorem evp_eval {F : Fr} {a : Act} (hf : Fits n F a) : ∀ {xs : List (Nat × Operand)} {vs : List (Nat × Value)}, evp F xs = some vs → xs.map (fun p => (p.1, a.eval p.2)) = vs
  | [], vs, h => by simp [evp] at h; subst h; rfl
  | (i, x) :: r, vs, h => by
    simp only [evp] at h
    split at h
    · rename_i v us hv hu
      simp only [Option.some.injEq] at h; subst h
      simp [ev_eval hf hv, evp_eval hf hu]
    · cases h

theorem acts_buildSlice {T E : TypeId} {len size : Nat} {parts : List (Nat × Operand)} {vs : List (Nat × Value)} {z : Value} {cs : List Value} {w0 : World} {olds : List Nat} {l : List Ent} (hT : P.underlying T = some (.slice E)) (hS : ∀ w, (sizeOf E).run P w = .ok size w)
    (hz : ∀ w, (zeroValue E).run P w = .ok z w) (hv : evp F parts = some vs) (hsm : Nat.ble (len * size) 16777216 = true)
    (hfill : Instr.fill (fun i => some (i * size, size)) ((Array.range (len * size)).map ((if len * size = 0 then #[] else z.cells)[· % (if len * size = 0 then #[] else z.cells).size]!)) vs = some cs.toArray) :
    Acts P n F (Mem w0 olds l) (.buildSlice T len parts.toArray) ty (fun w u w' => u = .slice (some ⟨w.heap.size, 0, none⟩) len len ∧ Mem w0 olds (some (w.heap.size, blk cs E) :: l) w') :=
  fun s w hf hm d ps af g => by
    have h1 : ¬ (len * size > 2 ^ 24) := by have := Nat.le_of_ble_eq_true hsm; omega
    have h2 : (parts.toArray.map fun (i, x) => (i, s.eval x)).toList = vs := by
      have := evp_eval hf hv
      simpa using this
    refine ⟨_, w.alloc (.cells cs.toArray E), ?_, rfl, by have := hm.alloc (blk cs E); simpa [blk] using this⟩
    by_cases h0 : len * size = 0
    · simp only [h0, if_true] at hfill
      simp only [execOp, Instr.buildSlice, Sem.run_bind, run_underlying hT, hS, Result.andThen_ok, h1, if_false]
      simp only [h0, if_true, pure_bind]
      rw [h2, hfill]
      simp [newRow]
    · simp only [h0, if_false] at hfill
      simp only [execOp, Instr.buildSlice, Sem.run_bind, run_underlying hT, hS, Result.andThen_ok, h1, if_false]
      simp only [h0, if_false, bind_assoc, pure_bind, Sem.run_bind, hz, Result.andThen_ok]
      rw [h2, hfill]
      simp [newRow]

/-! A result that lies in memory. -/
theorem ret_cell {fn : Func} {R : Value → World → Prop} {w : World} {t : Nat} {T U : TypeId} {b m : Nat} {w0 : World} {olds : List Nat} {l : List Ent} {xs : List Value} (i : Nat) (hr : fn.results = #[.cell t T]) (hv : look F t = some (.pointer (some ⟨b, 0, none⟩)))
    (hm : Mem w0 olds l w) (hp : pick l i = some (b, blk xs U)) (hA : ∀ w, (isAgg T).run P w = .ok true w) (hS : ∀ w, (sizeOf T).run P w = .ok m w) (hl : xs.length = m) (h : R (.agg xs.toArray) w) : Ret P fn R .ret F w := by
  refine ⟨_, fun a hf => ?_, h⟩
  have h1 := loadVar_agg (P := P) (b := b) (o := 0) (hA w) (hS w) hl (fun j v hj => by rw [Nat.zero_add, hm.cellAt hp]; exact hj)
  have h2 : a.tmps[t]?.getD undef = .pointer (some ⟨b, 0, none⟩) := by
    rw [hf.has t _ hv]; rfl
  simp only [results, hr]
  simp [h2, asAddr, h1]
end
end Go.Sx
