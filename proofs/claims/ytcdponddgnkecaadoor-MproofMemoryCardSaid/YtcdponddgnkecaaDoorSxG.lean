import Derived.Test.YtcdponddgnkecaaDoorSxD
set_option linter.unusedVariables false
set_option linter.unusedSimpArgs false
namespace Go.Sx
section
variable {P : Program}

theorem forIn_all {E : TypeId} {d m : Nat} {xs ys : Array Value} (X Y : Nat → Value) (f : Nat → Bool) : ∀ (L : List Nat) (w : World),
    (∀ i ∈ L, ∀ w, (part E xs (i * m)).run P w = .ok (X i) w ∧ (part E ys (i * m)).run P w = .ok (Y i) w ∧ (Op.equalIn d E (X i) (Y i)).run P w = .ok (f i) w) →
    ((forIn L (none, ()) fun i (_ : Option Bool × Unit) => do
        let a ← part E xs (i * m)
        let b ← part E ys (i * m)
        let r ← Op.equalIn d E a b
        if (!r) = true then pure (ForInStep.done (some false, ())) else pure (ForInStep.yield (none, ()))) : Sem (Option Bool × Unit)).run P w = .ok (bif L.all f then (none, ()) else (some false, ())) w
  | [], w, _ => by simp
  | i :: L, w, h => by
    obtain ⟨h1, h2, h3⟩ := h i (.head _) w
    have ih := forIn_all (E := E) (d := d) (m := m) (xs := xs) (ys := ys) X Y f L w (fun j hj => h j (.tail _ hj))
    simp only [List.forIn_cons, Sem.run_bind, h1, Result.andThen_ok, h2, h3, List.all_cons]
    cases hf : f i with
    | false => simp
    | true => simp only [Bool.not_true, Bool.false_eq_true, if_false, Sem.run_pure, Result.andThen_ok, Bool.true_and]; exact ih

theorem eqIn_array {T E : TypeId} {len m d : Nat} {xs ys : Array Value} (X Y : Nat → Value) (f : Nat → Bool) (hT : P.underlying T = some (.array len E)) (hS : ∀ w, (sizeOf E).run P w = .ok m w)
    (h : ∀ i, i < len → ∀ w, (part E xs (i * m)).run P w = .ok (X i) w ∧ (part E ys (i * m)).run P w = .ok (Y i) w ∧ (Op.equalIn d E (X i) (Y i)).run P w = .ok (f i) w) (w : World) :
    (Op.equalIn (d + 1) T (.agg xs) (.agg ys)).run P w = .ok ((List.range' 0 len).all f) w := by
  unfold Op.equalIn
  have e := forIn_all (P := P) (E := E) (d := d) (m := m) (xs := xs) (ys := ys) X Y f (List.range' 0 len) w (fun i hi => h i (by simp [List.mem_range'] at hi; omega))
  simp only [Sem.run_bind, run_underlying hT, Result.andThen_ok, hS, Std.Legacy.Range.forIn_eq_forIn_range']
  have hsz : ([:len] : Std.Legacy.Range).size = len := by simp [Std.Legacy.Range.size]
  simp only [hsz]
  rw [e]
  cases (List.range' 0 len).all f <;> simp

/-- Arrays of one kind of element of one cell. -/
theorem eqIn_list {α : Type} [DecidableEq α] {T E : TypeId} {len d : Nat} (V : α → Value) (hT : P.underlying T = some (.array len E)) (hS : ∀ w, (sizeOf E).run P w = .ok 1 w) (hA : ∀ w, (isAgg E).run P w = .ok false w)
    (hV : ∀ a b w, (Op.equalIn d E (V a) (V b)).run P w = .ok (decide (a = b)) w) (xs ys : List α) (hx : xs.length = len) (hy : ys.length = len) (w : World) :
    (Op.equalIn (d + 1) T (.agg (xs.map V).toArray) (.agg (ys.map V).toArray)).run P w = .ok (decide (xs = ys)) w := by
  by_cases hl : len = 0
  · subst hl
    rw [eqIn_array (fun _ => undef) (fun _ => undef) (fun _ => true) hT hS (fun i hi => by omega) w]
    simp [List.length_eq_zero_iff.1 hx, List.length_eq_zero_iff.1 hy]
  · obtain ⟨a0, _⟩ : ∃ a, a ∈ xs := by
      cases xs with
      | nil => simp at hx; omega
      | cons a r => exact ⟨a, .head _⟩
    have hpart : ∀ (zs : List α), zs.length = len → ∀ i, i < len → ∀ w, (part E (zs.map V).toArray (i * 1)).run P w = .ok (V (zs.getD i a0)) w := by
      intro zs hz i hi w
      simp [part, hA, show i < zs.length by omega]
    rw [eqIn_array (fun i => V (xs.getD i a0)) (fun i => V (ys.getD i a0)) (fun i => decide (xs.getD i a0 = ys.getD i a0)) hT hS (fun i hi w => ⟨hpart xs hx i hi w, hpart ys hy i hi w, hV _ _ w⟩) w]
    congr 1
    rw [Bool.eq_iff_iff]
    simp only [List.all_eq_true, decide_eq_true_eq, List.mem_range'_1]
    constructor
    · intro h
      apply List.ext_getElem (by omega)
      intro i h1 h2
      have := h i (by omega)
      simpa [h1, h2] using this
    · rintro rfl i _; rfl

theorem eqIn_u8 {E : TypeId} {d : Nat} (hE : P.underlying E = some (.int .u8)) (a b : UInt8) (w : World) : (Op.equalIn (d + 1) E (vU8 a) (vU8 b)).run P w = .ok (decide (a = b)) w := by
  unfold vU8
  rw [run_equalIn_int w d E .u8 .u8 _ _ hE]
  congr 1
  rw [Bool.eq_iff_iff]; simp only [beq_iff_eq, decide_eq_true_eq, ← UInt8.toNat_inj]; omega
theorem eqIn_u32 {E : TypeId} {d : Nat} (hE : P.underlying E = some (.int .u32)) (a b : UInt32) (w : World) : (Op.equalIn (d + 1) E (vU32 a) (vU32 b)).run P w = .ok (decide (a = b)) w := by
  unfold vU32
  rw [run_equalIn_int w d E .u32 .u32 _ _ hE]
  congr 1
  rw [Bool.eq_iff_iff]; simp only [beq_iff_eq, decide_eq_true_eq, ← UInt32.toNat_inj]; omega

variable {n : Nat} {F : Fr} {S : World → Prop} {ty : TypeId}

theorem val_eql_agg {T V : TypeId} {x y : Operand} {xs ys : Array Value} {b : Bool} (hx : ev F x = some (.agg xs)) (hy : ev F y = some (.agg ys)) (hg : P.eqGuardType P.depth T = false)
    (he : ∀ w, (Op.equalIn (9999 + 1) T (.agg xs) (.agg ys)).run P w = .ok b w) : Val P n F S (.binOp .eql T x y V) ty (.bool b) :=
  bin_ok hx hy (fun w => run_eqGuard_agg w .eql T x y xs ys hg) fun w => by rw [run_eql_struct]; rw [show (10000 : Nat) = 9999 + 1 from rfl, he w]; rfl
theorem val_neq_agg {T V : TypeId} {x y : Operand} {xs ys : Array Value} {b : Bool} (hx : ev F x = some (.agg xs)) (hy : ev F y = some (.agg ys)) (hg : P.eqGuardType P.depth T = false)
    (he : ∀ w, (Op.equalIn (9999 + 1) T (.agg xs) (.agg ys)).run P w = .ok b w) : Val P n F S (.binOp .neq T x y V) ty (.bool (!b)) :=
  bin_ok hx hy (fun w => run_eqGuard_agg w .neq T x y xs ys hg) fun w => by rw [run_neq_struct]; rw [show (10000 : Nat) = 9999 + 1 from rfl, he w]; rfl

/-- Arrays of bytes; of 32-bit numbers. -/
theorem val_eql_u8s {T V E : TypeId} {x y : Operand} {len : Nat} {xs ys : List UInt8} (hx : ev F x = some (.agg (xs.map vU8).toArray)) (hy : ev F y = some (.agg (ys.map vU8).toArray)) (hg : P.eqGuardType P.depth T = false)
    (hT : P.underlying T = some (.array len E)) (hE : P.underlying E = some (.int .u8)) (hS : ∀ w, (sizeOf E).run P w = .ok 1 w) (hA : ∀ w, (isAgg E).run P w = .ok false w) (hlx : xs.length = len) (hly : ys.length = len) :
    Val P n F S (.binOp .eql T x y V) ty (.bool (decide (xs = ys))) :=
  val_eql_agg hx hy hg fun w => eqIn_list (d := 9999) vU8 hT hS hA (fun a b w => eqIn_u8 hE a b w) xs ys hlx hly w
theorem val_neq_u8s {T V E : TypeId} {x y : Operand} {len : Nat} {xs ys : List UInt8} (hx : ev F x = some (.agg (xs.map vU8).toArray)) (hy : ev F y = some (.agg (ys.map vU8).toArray)) (hg : P.eqGuardType P.depth T = false)
    (hT : P.underlying T = some (.array len E)) (hE : P.underlying E = some (.int .u8)) (hS : ∀ w, (sizeOf E).run P w = .ok 1 w) (hA : ∀ w, (isAgg E).run P w = .ok false w) (hlx : xs.length = len) (hly : ys.length = len) :
    Val P n F S (.binOp .neq T x y V) ty (.bool (!decide (xs = ys))) :=
  val_neq_agg hx hy hg fun w => eqIn_list (d := 9999) vU8 hT hS hA (fun a b w => eqIn_u8 hE a b w) xs ys hlx hly w
theorem val_eql_u32s {T V E : TypeId} {x y : Operand} {len : Nat} {xs ys : List UInt32} (hx : ev F x = some (.agg (xs.map vU32).toArray)) (hy : ev F y = some (.agg (ys.map vU32).toArray)) (hg : P.eqGuardType P.depth T = false)
    (hT : P.underlying T = some (.array len E)) (hE : P.underlying E = some (.int .u32)) (hS : ∀ w, (sizeOf E).run P w = .ok 1 w) (hA : ∀ w, (isAgg E).run P w = .ok false w) (hlx : xs.length = len) (hly : ys.length = len) :
    Val P n F S (.binOp .eql T x y V) ty (.bool (decide (xs = ys))) :=
  val_eql_agg hx hy hg fun w => eqIn_list (d := 9999) vU32 hT hS hA (fun a b w => eqIn_u32 hE a b w) xs ys hlx hly w
theorem val_neq_u32s {T V E : TypeId} {x y : Operand} {len : Nat} {xs ys : List UInt32} (hx : ev F x = some (.agg (xs.map vU32).toArray)) (hy : ev F y = some (.agg (ys.map vU32).toArray)) (hg : P.eqGuardType P.depth T = false)
    (hT : P.underlying T = some (.array len E)) (hE : P.underlying E = some (.int .u32)) (hS : ∀ w, (sizeOf E).run P w = .ok 1 w) (hA : ∀ w, (isAgg E).run P w = .ok false w) (hlx : xs.length = len) (hly : ys.length = len) :
    Val P n F S (.binOp .neq T x y V) ty (.bool (!decide (xs = ys))) :=
  val_neq_agg hx hy hg fun w => eqIn_list (d := 9999) vU32 hT hS hA (fun a b w => eqIn_u32 hE a b w) xs ys hlx hly w

/-! copy. -/
theorem acts_copy {T T' E : TypeId} {x y : Operand} {b o dl dc sl sc size : Nat} {a : Option Addr} {xs ys : List Value} {U : TypeId} {w0 : World} {olds : List Nat} {l : List Ent} (idx : Nat)
    (hx : ev F x = some (.slice (some ⟨b, o, none⟩) dl dc)) (hy : ev F y = some (.slice a sl sc)) (hp : pick l idx = some (b, blk xs U))
    (hT : P.underlying T = some (.slice E)) (hS : ∀ w, (sizeOf E).run P w = .ok size w)
    (hrd : ∀ w, Mem w0 olds l w → Rd w a ys) (hyl : ys.length = sl * size) (h1 : ∀ u ∈ ys, u.oneCell' = true) (hfit : o + dl * size ≤ xs.length) :
    Acts P n F (Mem w0 olds l) (.call { callee := .builtin .copy, args := #[x, y], argTypes := #[T, T'] }) ty
      (fun _ u w' => u = vInt ((min sl dl : Nat) : Int) ∧ Mem w0 olds (upd l idx (some (b, blk (xs.take o ++ ys.take (min sl dl * size) ++ xs.drop (o + min sl dl * size)) U))) w') := by
  intro s w hf hm d ps af g
  have hb := hm.at hp
  have hlen : (ys.take (min sl dl * size)).length = min sl dl * size := by
    rw [List.length_take, hyl]
    have : min sl dl * size ≤ sl * size := Nat.mul_le_mul_right _ (Nat.min_le_left _ _)
    omega
  have hle : min sl dl * size ≤ dl * size := Nat.mul_le_mul_right _ (Nat.min_le_right _ _)
  have hrd' : Rd w a (ys.take (min sl dl * size)) := fun j v hj => hrd w hm j v (by
    rw [List.getElem?_take] at hj; split at hj
    · exact hj
    · cases hj)
  have hfirst : (Builtin.firstCells size (min sl dl) (.slice a sl sc)).run P w = .ok (ys.take (min sl dl * size)).toArray w := by
    have := run_firstCells_Rd (P := P) (c := sc) hrd' (size := size) (m := min sl dl) hlen
    cases a <;> simpa [Builtin.firstCells] using this
  obtain ⟨w', e, h2, h3, h4, h5, h6, h7⟩ := storeCells_blk (P := P) (ys.take (min sl dl * size)) 0 w (o := o) hb (fun v hv => h1 v (List.mem_of_mem_take hv)) (by omega)
  refine ⟨vInt ((min sl dl : Nat) : Int), w', ?_, rfl, hm.put hp h2 h3 h4 (by rw [h5]; exact Nat.le_refl _) (by rw [h6, Nat.add_zero, hlen]) (fun k _ hk => h7 k hk)⟩
  have hmin : Nat.min sl dl = min sl dl := rfl
  simp [execOp, resolve, ev_eval hf hx, ev_eval hf hy, invoke, builtin, Builtin.copy_, run_underlying hT, Builtin.lenOf, hS, hmin, hfirst, e, goInt, vInt]

/-- copy of nothing to wherever. -/
theorem val_copy_none {T T' E : TypeId} {x y : Operand} {dl dc sc size : Nat} {a a' : Option Addr} 
    (hx : ev F x = some (.slice a' dl dc)) (hy : ev F y = some (.slice a 0 sc)) (hT : P.underlying T = some (.slice E)) (hS : ∀ w, (sizeOf E).run P w = .ok size w) :
    Val P n F S (.call { callee := .builtin .copy, args := #[x, y], argTypes := #[T, T'] }) ty (vInt 0) :=
  fun s w hf _ d ps af g => by
    have hmin : Nat.min 0 dl = 0 := Nat.zero_min dl
    cases a' <;> cases a <;> simp [execOp, resolve, ev_eval hf hx, ev_eval hf hy, invoke, builtin, Builtin.copy_, run_underlying hT, Builtin.lenOf, hS, hmin, Builtin.firstCells, loadCells, loadCellsFrom, storeCells, goInt, vInt]

/-! Literals. -/
theorem val_build {T : TypeId} {parts : Array (Nat × Operand)} {vs : List (Nat × Value)} {cells : Array Value} (hv : ∀ a, Fits n F a → (parts.map fun (i, x) => (i, a.eval x)) = vs.toArray)
    (hb : P.built T vs = some cells) : Val P n F S (.build T parts) ty (.agg cells) :=
  fun s w hf _ d ps af g => by
    have h1 := run_build (P := P) w T vs.toArray cells hb
    simp only [execOp, hv s hf, Sem.run_bind, h1, Result.andThen_ok, Sem.run_pure]

def evp (F : Fr) : List (Nat × Operand) → Option (List (Nat × Value))
  | [] => some []
  | (i, x) :: r => match ev F x, evp F r with
    | some v, some vs => some ((i, v) :: vs)
    | _, _ => none
theorem evp_eval {F : Fr} {a : Act} (hf : Fits n F a) : ∀ {xs : List (Nat × Operand)} {vs : List (Nat × Value)}, evp F xs = some vs → xs.map (fun p => (p.1, a.eval p.2)) = vs
  | [], vs, h => by simp [evp] at h; subst h; rfl
  | (i, x) :: r, vs, h => by
    simp only [evp] at h
    split at h
    · rename_i v us hv hu
      simp only [Option.some.injEq] at h; subst h
      simp [ev_eval hf hv, evp_eval hf hu]
    · cases h

theorem acts_buildSlice {T E : TypeId} {len size : Nat} {parts : List (Nat × Operand)} {vs : List (Nat × Value)} {z : Value} {cs : List Value} {w0 : World} {olds : List Nat} {l : List Ent} (hT : P.underlying T = some (.slice E)) (hS : ∀ w, (sizeOf E).run P w = .ok size w)
    (hz : ∀ w, (zeroValue E).run P w = .ok z w) (hv : evp F parts = some vs) (hsm : Nat.ble (len * size) 16777216 = true)
    (hfill : Instr.fill (fun i => some (i * size, size)) ((Array.range (len * size)).map ((if len * size = 0 then #[] else z.cells)[· % (if len * size = 0 then #[] else z.cells).size]!)) vs = some cs.toArray) :
    Acts P n F (Mem w0 olds l) (.buildSlice T len parts.toArray) ty (fun w u w' => u = .slice (some ⟨w.heap.size, 0, none⟩) len len ∧ Mem w0 olds (some (w.heap.size, blk cs E) :: l) w') :=
  fun s w hf hm d ps af g => by
    have h1 : ¬ (len * size > 2 ^ 24) := by have := Nat.le_of_ble_eq_true hsm; omega
    have h2 : (parts.toArray.map fun (i, x) => (i, s.eval x)).toList = vs := by
      have := evp_eval hf hv
      simpa using this
    refine ⟨_, w.alloc (.cells cs.toArray E), ?_, rfl, by have := hm.alloc (blk cs E); simpa [blk] using this⟩
    by_cases h0 : len * size = 0
    · simp only [h0, if_true] at hfill
      simp only [execOp, Instr.buildSlice, Sem.run_bind, run_underlying hT, hS, Result.andThen_ok, h1, if_false]
      simp only [h0, if_true, pure_bind]
      rw [h2, hfill]
      simp [newRow]
    · simp only [h0, if_false] at hfill
      simp only [execOp, Instr.buildSlice, Sem.run_bind, run_underlying hT, hS, Result.andThen_ok, h1, if_false]
      simp only [h0, if_false, bind_assoc, pure_bind, Sem.run_bind, hz, Result.andThen_ok]
      rw [h2, hfill]
      simp [newRow]

/-! A result that lies in memory. -/
theorem ret_cell {fn : Func} {R : Value → World → Prop} {w : World} {t : Nat} {T U : TypeId} {b m : Nat} {w0 : World} {olds : List Nat} {l : List Ent} {xs : List Value} (i : Nat) (hr : fn.results = #[.cell t T]) (hv : look F t = some (.pointer (some ⟨b, 0, none⟩)))
    (hm : Mem w0 olds l w) (hp : pick l i = some (b, blk xs U)) (hA : ∀ w, (isAgg T).run P w = .ok true w) (hS : ∀ w, (sizeOf T).run P w = .ok m w) (hl : xs.length = m) (h : R (.agg xs.toArray) w) : Ret P fn R .ret F w := by
  refine ⟨_, fun a hf => ?_, h⟩
  have h1 := loadVar_agg (P := P) (b := b) (o := 0) (hA w) (hS w) hl (fun j v hj => by rw [Nat.zero_add, hm.cellAt hp]; exact hj)
  have h2 : a.tmps[t]?.getD undef = .pointer (some ⟨b, 0, none⟩) := by
    rw [hf.has t _ hv]; rfl
  simp only [results, hr]
  simp [h2, asAddr, h1]
end
end Go.Sx

namespace Go.Sx
section
variable {P : Program} {n : Nat} {F : Fr} {S : World → Prop} {ty : TypeId}

theorem into {y : Code} {M : World → Prop} {Q : Po} (h : SW P n y F M Q) : ∀ w, M w → thenP (fun F' w' => SW P n y F' (· = w') Q) Q .normal F w :=
  fun w hm a w' hf e => h a w' hf (by subst e; exact hm)
theorem SW.begin {c : Code} {Q : Po} {w : World} (h : SW P n c F (Mem w [] []) Q) : SW P n c F (· = w) Q :=
  fun a w' hf e => h a w' hf (by subst e; exact Mem.refl _)
theorem SW.beginRecv {c : Code} {Q : Po} {w : World} {b : Nat} {o : Obj} (hb : w.heap[b]? = some o) (h : SW P n c F (Mem w [b] [some (b, o)]) Q) : SW P n c F (· = w) Q :=
  fun a w' hf e => h a w' hf (by subst e; exact Mem.recv hb)

theorem get_map {α : Type} [Inhabited α] (V : α → Value) (W : List α) (k : Nat) (h : k < W.length) : (W.map V)[k]? = some (V (W.getD k default)) := by
  simp [h]
theorem get_map_append {α : Type} [Inhabited α] (V : α → Value) (W : List α) (r : List Value) (k : Nat) (h : k < W.length) : (W.map V ++ r)[k]? = some (V (W.getD k default)) := by
  rw [List.getElem?_append_left (by simpa using h)]; exact get_map V W k h
theorem get_skip {xs ys : List Value} {k m : Nat} {v : Value} (hm : xs.length = m) (h : ys[k]? = some v) : (xs ++ ys)[m + k]? = some v := by
  subst hm; rw [List.getElem?_append_right (by omega)]; simpa using h

theorem one_u8 (x : UInt8) : (vU8 x).oneCell' = true := rfl
theorem one_map {α : Type} (V : α → Value) (hV : ∀ a, (V a).oneCell' = true) (W : List α) : ∀ v ∈ W.map V, v.oneCell' = true := by
  intro v hv; obtain ⟨a, _, rfl⟩ := List.mem_map.1 hv; exact hV a
theorem one_u8s (W : List UInt8) : ∀ v ∈ W.map vU8, v.oneCell' = true := one_map _ (fun _ => rfl) W
theorem one_u32s (W : List UInt32) : ∀ v ∈ W.map vU32, v.oneCell' = true := one_map _ (fun _ => rfl) W

/-- A store into a list of one kind. -/
theorem does_store_map {α : Type} {V : α → Value} {T U : TypeId} {x y : Operand} {b k : Nat} {a : α} {w0 : World} {olds : List Nat} {l : List Ent} {W : List α} (i : Nat) (hx : ev F x = some (.pointer (some ⟨b, k, none⟩))) (hy : ev F y = some (V a))
    (hp : pick l i = some (b, blk (W.map V) U)) (h1 : (V a).oneCell' = true) (hS : ∀ w, (sizeOf T).run P w = .ok 1 w) (hk : k < W.length) :
    Does P n F (Mem w0 olds l) (.store T x y) ty (fun _ w' => Mem w0 olds (upd l i (some (b, blk ((W.set k a).map V) U))) w') := by
  rw [List.map_set]
  exact does_store i hx hy hp h1 hS (by simpa using hk)

theorem bool_if {p : Prop} [Decidable p] {b : Bool} (h : decide p = b) : (b = true → p) ∧ (b = false → ¬ p) := by
  subst h; exact ⟨of_decide_eq_true, of_decide_eq_false⟩

theorem lw_call_pure {l : List Oper} {late : List Nat} {listed : Array Bool} {Q : Po} {r : List (Nat × Nat)} {i t : Nat} {op : Op} {ps : String} {af : Array Edge} {w0 : World} {olds : List Nat} {m : List Ent} {f : FuncId} {args : Array Value} {v : Value}
    (ho : nth l i = some ⟨some t, op, ty, ps, af, none⟩) (hv : CallsTo P n F (Mem w0 olds m) op ty f args) (ht : Nat.blt t n = true)
    (hc : ∀ w, Mem w0 olds m w → Calls P f args w fun e w' => ∃ u, e = .returned u ∧ u = v ∧ Mem w [] [] w')
    (h : LW P n l (Mem w0 olds m) late r (listed.setIfInBounds i true) ((t, v) :: F) (Mem w0 olds m) Q) : LW P n l (Mem w0 olds m) late ((i, 2) :: r) listed F (Mem w0 olds m) Q :=
  lw_call (fun _ u w' => u = v ∧ Mem w0 olds m w') ho hv ht (fun _ hm => (hc _ hm).mono fun _ _ ⟨u, he, hu, hm'⟩ => ⟨u, he, hu, hm.call0 hm'⟩) (fun _ _ _ _ _ hr => hr.2)
    (fun _ u hm a w' hf ⟨hu, hm'⟩ => by subst hu; exact h a w' hf hm')

/-- A literal of a struct or an array. -/
theorem val_build' {T : TypeId} {parts : List (Nat × Operand)} {vs : List (Nat × Value)} {cs : List Value} (hv : evp F parts = some vs) (hb : P.built T vs = some cs.toArray) : Val P n F S (.build T parts.toArray) ty (.agg cs.toArray) :=
  val_build (fun a hf => by have := evp_eval hf hv; simp only [List.map_toArray]; rw [← this]) hb

theorem sub_nil (F : Fr) : Sub [] F := trivial
end
end Go.Sx

namespace Go.Sx
section
variable {P : Program} {n : Nat} {F : Fr} {S : World → Prop} {ty : TypeId} {w0 : World} {olds : List Nat} {l : List Ent}

theorem does_store_to {T U : TypeId} {x y : Operand} {b k : Nat} {v : Value} {xs : List Value} (xs' : List Value) (i : Nat) (hx : ev F x = some (.pointer (some ⟨b, k, none⟩))) (hy : ev F y = some v)
    (hp : pick l i = some (b, blk xs U)) (h1 : v.oneCell' = true) (hS : ∀ w, (sizeOf T).run P w = .ok 1 w) (hk : k < xs.length) (he : xs.set k v = xs') :
    Does P n F (Mem w0 olds l) (.store T x y) ty (fun _ w' => Mem w0 olds (upd l i (some (b, blk xs' U))) w') := by
  subst he; exact does_store i hx hy hp h1 hS hk
theorem does_store_agg_to {T U : TypeId} {x y : Operand} {b o m : Nat} {cs xs : List Value} (xs' : List Value) (i : Nat) (hx : ev F x = some (.pointer (some ⟨b, o, none⟩))) (hy : ev F y = some (.agg cs.toArray))
    (hp : pick l i = some (b, blk xs U)) (h1 : ∀ v ∈ cs, v.oneCell' = true) (hS : ∀ w, (sizeOf T).run P w = .ok m w) (hl : cs.length = m) (hk : o + m ≤ xs.length) (he : xs.take o ++ cs ++ xs.drop (o + m) = xs') :
    Does P n F (Mem w0 olds l) (.store T x y) ty (fun _ w' => Mem w0 olds (upd l i (some (b, blk xs' U))) w') := by
  subst he; exact does_store_agg i hx hy hp h1 hS hl hk

/-- A whole block written over. -/
theorem does_store_all {T U : TypeId} {x y : Operand} {b m : Nat} {cs xs : List Value} (i : Nat) (hx : ev F x = some (.pointer (some ⟨b, 0, none⟩))) (hy : ev F y = some (.agg cs.toArray))
    (hp : pick l i = some (b, blk xs U)) (h1 : ∀ v ∈ cs, v.oneCell' = true) (hS : ∀ w, (sizeOf T).run P w = .ok m w) (hl : cs.length = m) (hk : xs.length = m) :
    Does P n F (Mem w0 olds l) (.store T x y) ty (fun _ w' => Mem w0 olds (upd l i (some (b, blk cs U))) w') :=
  does_store_agg_to cs i hx hy hp h1 hS hl (by omega) (by simp [List.drop_eq_nil_of_le (Nat.le_of_eq hk)])

/-- An action whose value is told beforehand. -/
theorem ow_act_eq {ops : Array Oper} {t : Nat} {op : Op} {ps : String} {af : Array Edge} {rest : List Oper} {M M' : World → Prop} {Q : Po} {v : Value}
    (hv : Acts P n F M op ty (fun _ u w' => u = v ∧ M' w')) (ht : Nat.blt t n = true)
    (h : OW P n ops rest ((t, v) :: F) M' Q) : OW P n ops (⟨some t, op, ty, ps, af, none⟩ :: rest) F M Q := by
  intro a w hf hm
  refine wpList_plain rfl fun K hK => ?_
  unfold Oper.wp
  obtain ⟨u, w', e, rfl, hm'⟩ := hv a w hf hm (some t) ps af none
  rw [e]
  exact hK _ _ (h _ w' (hf.put ht _) hm')
theorem ow_do_eq {ops : Array Oper} {op : Op} {ps : String} {af : Array Edge} {rest : List Oper} {M M' : World → Prop} {Q : Po}
    (hv : Does P n F M op ty (fun _ w' => M' w'))
    (h : OW P n ops rest F M' Q) : OW P n ops (⟨none, op, ty, ps, af, none⟩ :: rest) F M Q := ow_do hv (fun _ _ => h)

/-- An append to a row of its own. -/
theorem ow_append {ops : Array Oper} {t : Nat} {op : Op} {ps : String} {af : Array Edge} {rest : List Oper} {M : World → Prop} {Q : Po} {E : TypeId} {size k idx : Nat} {xs : List Value}
    (hv : Acts P n F M op ty (fun _ u w' => ∃ e', RowE u E size k xs e' ∧ Mem w0 olds (upd l idx e') w')) (ht : Nat.blt t n = true)
    (h : ∀ u e', RowE u E size k xs e' → OW P n ops rest ((t, u) :: F) (Mem w0 olds (upd l idx e')) Q) : OW P n ops (⟨some t, op, ty, ps, af, none⟩ :: rest) F M Q := by
  intro a w hf hm
  refine wpList_plain rfl fun K hK => ?_
  unfold Oper.wp
  obtain ⟨u, w', e, e', hr, hm'⟩ := hv a w hf hm (some t) ps af none
  rw [e]
  exact hK _ _ (h u e' hr _ w' (hf.put ht _) hm')

/-- A call that turns the block at i, value and block told beforehand. -/
theorem ow_call_turn {ops : Array Oper} {t : Nat} {op : Op} {ps : String} {af : Array Edge} {rest : List Oper} {Q : Po} {f : FuncId} {args : Array Value} {b : Nat} {o o' : Obj} {v : Value} (i : Nat)
    (hp : pick l i = some (b, o)) (hv : CallsTo P n F (Mem w0 olds l) op ty f args) (ht : Nat.blt t n = true)
    (hc : ∀ w, Mem w0 olds l w → Calls P f args w fun e w' => ∃ u, e = .returned u ∧ u = v ∧ Mem w [b] [some (b, o')] w')
    (h : OW P n ops rest ((t, v) :: F) (Mem w0 olds (upd l i (some (b, o')))) Q) : OW P n ops (⟨some t, op, ty, ps, af, none⟩ :: rest) F (Mem w0 olds l) Q :=
  ow_call (fun _ u w' => u = v ∧ Mem w0 olds (upd l i (some (b, o'))) w') hv ht (fun _ hm => (hc _ hm).mono fun _ _ ⟨u, he, hu, hm'⟩ => ⟨u, he, hu, hm.callUpd hp hm'⟩)
    (fun _ u _ a w' hf ⟨hu, hm'⟩ => by subst hu; exact h a w' hf hm')

/-- A call that hands back a pointer to a new block. -/
theorem ow_call_ptr {ops : Array Oper} {t : Nat} {op : Op} {ps : String} {af : Array Edge} {rest : List Oper} {Q : Po} {f : FuncId} {args : Array Value} {o : Obj}
    (hv : CallsTo P n F (Mem w0 olds l) op ty f args) (ht : Nat.blt t n = true)
    (hc : ∀ w, Mem w0 olds l w → Calls P f args w fun e w' => ∃ u, e = .returned u ∧ ∃ b, u = .pointer (some ⟨b, 0, none⟩) ∧ Mem w [] [some (b, o)] w')
    (h : ∀ b, w0.heap.size ≤ b → OW P n ops rest ((t, .pointer (some ⟨b, 0, none⟩)) :: F) (Mem w0 olds (some (b, o) :: l)) Q) : OW P n ops (⟨some t, op, ty, ps, af, none⟩ :: rest) F (Mem w0 olds l) Q :=
  ow_call (fun _ u w' => ∃ b, w0.heap.size ≤ b ∧ u = .pointer (some ⟨b, 0, none⟩) ∧ Mem w0 olds (some (b, o) :: l) w') hv ht
    (fun _ hm => (hc _ hm).mono fun _ _ ⟨u, he, b, hu, hm'⟩ => ⟨u, he, b, by
      rcases hm'.fresh b (by simp [keys]) with h1 | h1
      · exact Nat.le_trans hm.size h1
      · simp at h1, hu, hm.call hm'⟩)
    (fun _ u _ a w' hf ⟨b, hb, hu, hm'⟩ => by subst hu; exact h b hb a w' hf hm')

/-- A call that hands back a slice of its own. -/
theorem ow_call_slice {ops : Array Oper} {t : Nat} {op : Op} {ps : String} {af : Array Edge} {rest : List Oper} {Q : Po} {f : FuncId} {args : Array Value} {E : TypeId} {size k : Nat} {xs : List Value}
    (hv : CallsTo P n F (Mem w0 olds l) op ty f args) (ht : Nat.blt t n = true)
    (hc : ∀ w, Mem w0 olds l w → Calls P f args w fun e w' => ∃ u, e = .returned u ∧ ∃ e', RowE u E size k xs e' ∧ Mem w [] [e'] w')
    (h : ∀ u e', RowE u E size k xs e' → OW P n ops rest ((t, u) :: F) (Mem w0 olds (e' :: l)) Q) : OW P n ops (⟨some t, op, ty, ps, af, none⟩ :: rest) F (Mem w0 olds l) Q :=
  ow_call (fun _ u w' => ∃ e', RowE u E size k xs e' ∧ Mem w0 olds (e' :: l) w') hv ht (fun _ hm => (hc _ hm).mono fun _ _ ⟨u, he, e', hu, hm'⟩ => ⟨u, he, e', hu, hm.call hm'⟩)
    (fun _ u _ a w' hf ⟨e', hu, hm'⟩ => h u e' hu a w' hf hm')

/-- A copy told by what it leaves. -/
theorem acts_copy_to {T T' E : TypeId} {x y : Operand} {b o dl dc sl sc size : Nat} {a : Option Addr} {xs ys : List Value} {U : TypeId} (k : Nat) (xs' : List Value) (idx : Nat)
    (hx : ev F x = some (.slice (some ⟨b, o, none⟩) dl dc)) (hy : ev F y = some (.slice a sl sc)) (hp : pick l idx = some (b, blk xs U))
    (hT : P.underlying T = some (.slice E)) (hS : ∀ w, (sizeOf E).run P w = .ok size w)
    (hrd : ∀ w, Mem w0 olds l w → Rd w a ys) (hyl : ys.length = sl * size) (h1 : ∀ u ∈ ys, u.oneCell' = true) (hfit : o + dl * size ≤ xs.length) (hk : k = min sl dl)
    (he : xs.take o ++ ys.take (k * size) ++ xs.drop (o + k * size) = xs') :
    Acts P n F (Mem w0 olds l) (.call { callee := .builtin .copy, args := #[x, y], argTypes := #[T, T'] }) ty
      (fun _ u w' => u = vInt (k : Int) ∧ Mem w0 olds (upd l idx (some (b, blk xs' U))) w') := by
  subst hk; subst he
  exact acts_copy idx hx hy hp hT hS hrd hyl h1 hfit

/-! Conversions of an int that is a count. -/
theorem val_conv_n_u64 {T U : TypeId} {x : Operand} {i : Int} (k : Nat) (hT : P.underlying T = some (.int .i64)) (hU : P.underlying U = some (.int .u64)) (hx : ev F x = some (vInt i)) (hi : i = (k : Int)) : Val P n F S (.convert T U x) ty (vU64 (UInt64.ofNat k)) := by
  have h := val_conv_i64_u64 (P := P) (n := n) (S := S) (ty := ty) hT hU hx
  have e : UInt64.ofInt i = UInt64.ofNat k := by
    subst hi; unfold UInt64.ofInt; rw [← UInt64.toNat_inj, UInt64.toNat_ofNat', UInt64.toNat_ofNat']; omega
  rwa [e] at h
theorem val_conv_n_u32 {T U : TypeId} {x : Operand} {i : Int} (k : Nat) (hT : P.underlying T = some (.int .i64)) (hU : P.underlying U = some (.int .u32)) (hx : ev F x = some (vInt i)) (hi : i = (k : Int)) : Val P n F S (.convert T U x) ty (vU32 (UInt32.ofNat k)) := by
  have h := val_conv_i64_u32 (P := P) (n := n) (S := S) (ty := ty) hT hU hx
  have e : UInt32.ofInt i = UInt32.ofNat k := by
    subst hi; unfold UInt32.ofInt; rw [← UInt32.toNat_inj, UInt32.toNat_ofNat', UInt32.toNat_ofNat']; omega
  rwa [e] at h
theorem val_conv_n_u16 {T U : TypeId} {x : Operand} {i : Int} (k : Nat) (hT : P.underlying T = some (.int .i64)) (hU : P.underlying U = some (.int .u16)) (hx : ev F x = some (vInt i)) (hi : i = (k : Int)) : Val P n F S (.convert T U x) ty (vU16 (UInt16.ofNat k)) := by
  have h := val_conv_i64_u16 (P := P) (n := n) (S := S) (ty := ty) hT hU hx
  have e : UInt16.ofInt i = UInt16.ofNat k := by
    subst hi; unfold UInt16.ofInt; rw [← UInt16.toNat_inj, UInt16.toNat_ofNat', UInt16.toNat_ofNat']; omega
  rwa [e] at h
theorem val_conv_n_u8 {T U : TypeId} {x : Operand} {i : Int} (k : Nat) (hT : P.underlying T = some (.int .i64)) (hU : P.underlying U = some (.int .u8)) (hx : ev F x = some (vInt i)) (hi : i = (k : Int)) : Val P n F S (.convert T U x) ty (vU8 (UInt8.ofNat k)) := by
  have h := val_conv_i64_u8 (P := P) (n := n) (S := S) (ty := ty) hT hU hx
  have e : UInt8.ofInt i = UInt8.ofNat k := by
    subst hi; unfold UInt8.ofInt; rw [← UInt8.toNat_inj, UInt8.toNat_ofNat', UInt8.toNat_ofNat']; omega
  rwa [e] at h
/-- A cut behind the k-th element. -/
theorem val_slice_lo {T E : TypeId} {x y : Operand} {b o len cap m : Nat} {kl : IntKind} {i : Int} (k : Nat) (hx : ev F x = some (.slice (some ⟨b, o, none⟩) len cap)) (hy : ev F y = some (.int kl i)) (hT : P.underlying T = some (.slice E)) (hS : ∀ w, (sizeOf E).run P w = .ok m w)
    (hi : i = (k : Int)) (hk : k ≤ len) (hc : len ≤ cap) : Val P n F S (.slice T x (some y) none none) ty (.slice (some ⟨b, if cap = k then o else o + k * m, none⟩) (len - k) (cap - k)) := by
  subst hi
  refine val_slice (lk := kl) (hk := .i64) (some k) none _ hx hT hS (fun s hs => by simp [ev_eval hs hy]) (fun s hs => rfl) ⟨hk, hc⟩ ?_
  simp only [Option.getD_some, Option.getD_none]
  split <;> simp [add_none]
theorem val_slice_hi {T E : TypeId} {x y : Operand} {a : Option Addr} {len cap m : Nat} {kl : IntKind} {i : Int} (k : Nat) (hx : ev F x = some (.slice a len cap)) (hy : ev F y = some (.int kl i)) (hT : P.underlying T = some (.slice E)) (hS : ∀ w, (sizeOf E).run P w = .ok m w)
    (hi : i = (k : Int)) (hk : k ≤ cap) : Val P n F S (.slice T x none (some y) none) ty (.slice a k cap) := by
  subst hi
  refine val_slice (lk := .i64) (hk := kl) none (some k) _ hx hT hS (fun s hs => rfl) (fun s hs => by simp [ev_eval hs hy]) ⟨Nat.zero_le _, hk⟩ ?_
  simp only [Option.getD_some, Option.getD_none, Nat.sub_zero, Nat.zero_mul]
  split
  · rfl
  · cases a with
    | none => rfl
    | some ad => simp [Addr.add]
theorem val_slice_array_lo {T E : TypeId} {x y : Operand} {b o len m : Nat} {kl : IntKind} {i : Int} (k e : Nat) (hx : ev F x = some (.pointer (some ⟨b, o, none⟩))) (hy : ev F y = some (.int kl i)) (hT : P.underlying T = some (.array len E)) (hS : ∀ w, (sizeOf E).run P w = .ok m w)
    (hi : i = (k : Int)) (hk : k < len) (he : o + k * m = e) : Val P n F S (.slice T x (some y) none none) ty (.slice (some ⟨b, e, none⟩) (len - k) (len - k)) := by
  subst hi; subst he
  refine val_slice_array (lk := kl) (hk := .i64) (some k) none _ hx hT hS (fun s hs => by simp [ev_eval hs hy]) (fun s hs => rfl) ⟨by simp; omega, Nat.le_refl _⟩ ?_
  simp only [Option.getD_some, Option.getD_none]
  rw [if_neg (by omega)]
theorem val_slice_array_hi {T E : TypeId} {x y : Operand} {b o len m : Nat} {kl : IntKind} {i : Int} (k : Nat) (hx : ev F x = some (.pointer (some ⟨b, o, none⟩))) (hy : ev F y = some (.int kl i)) (hT : P.underlying T = some (.array len E)) (hS : ∀ w, (sizeOf E).run P w = .ok m w)
    (hi : i = (k : Int)) (hk : k ≤ len) : Val P n F S (.slice T x none (some y) none) ty (.slice (some ⟨b, o, none⟩) k len) := by
  subst hi
  refine val_slice_array (lk := .i64) (hk := kl) none (some k) _ hx hT hS (fun s hs => rfl) (fun s hs => by simp [ev_eval hs hy]) ⟨Nat.zero_le _, hk⟩ ?_
  simp
theorem val_slice_array_full {T E : TypeId} {x : Operand} {b o len m : Nat} (hx : ev F x = some (.pointer (some ⟨b, o, none⟩))) (hT : P.underlying T = some (.array len E)) (hS : ∀ w, (sizeOf E).run P w = .ok m w) :
    Val P n F S (.slice T x none none none) ty (.slice (some ⟨b, o, none⟩) len len) := by
  refine val_slice_array (lk := .i64) (hk := .i64) none none _ hx hT hS (fun s hs => rfl) (fun s hs => rfl) ⟨Nat.zero_le _, Nat.le_refl _⟩ ?_
  simp
/-- What is left behind a cut. -/
theorem Rd.drop {w : World} {b o : Nat} {xs : List Value} (h : Rd w (some ⟨b, o, none⟩) xs) {k m c len : Nat} (hl : xs.length = len * m) (hk : k ≤ len) (hc : len ≤ c) : Rd w (some ⟨b, if c = k then o else o + k * m, none⟩) (xs.drop (k * m)) := by
  split
  · rename_i e
    have : k = len := by omega
    subst this
    rw [List.drop_eq_nil_of_le (by omega)]; exact Rd.nil _ _
  · exact h.sub (k * m) (by rw [List.take_of_length_le (Nat.le_refl _)])
theorem Rd.drop1 {α : Type} {V : α → Value} {w : World} {b o : Nat} {p : List α} (h : Rd w (some ⟨b, o, none⟩) (p.map V)) {k c : Nat} (hk : k ≤ p.length) (hc : p.length ≤ c) : Rd w (some ⟨b, if c = k then o else o + k * 1, none⟩) ((p.drop k).map V) := by
  have := h.drop (k := k) (m := 1) (c := c) (len := p.length) (by simp) hk hc
  simpa [List.map_drop] using this
theorem Rd.take1 {α : Type} {V : α → Value} {w : World} {a : Option Addr} {p : List α} (h : Rd w a (p.map V)) (k : Nat) : Rd w a ((p.take k).map V) := fun j x hj => h j x (by
  rw [List.map_take, List.getElem?_take] at hj
  split at hj
  · exact hj
  · cases hj)

/-! Blocks of the beginning. -/
theorem Mem.oldBlk {w : World} (hm : Mem w0 [] l w) {b : Nat} {o : Obj} (hb : w0.heap[b]? = some o) : w.heap[b]? = some o :=
  (hm.keep b (Array.getElem?_eq_some_iff.1 hb).1 (by simp)).trans hb
theorem Mem.oldBlk' {w : World} (hm : Mem w0 olds l w) {b : Nat} {o : Obj} (hb : w0.heap[b]? = some o) (hn : b ∉ olds) : w.heap[b]? = some o :=
  (hm.keep b (Array.getElem?_eq_some_iff.1 hb).1 hn).trans hb
theorem val_load_old {T U : TypeId} {x : Operand} {b k : Nat} {v : Value} {xs : List Value} (hb : w0.heap[b]? = some (blk xs U)) (hn : b ∉ olds) (hx : ev F x = some (.pointer (some ⟨b, k, none⟩)))
    (hA : ∀ w, (isAgg T).run P w = .ok false w) (hv : xs[k]? = some v) : Val P n F (Mem w0 olds l) (.load T x) ty v := val_load hx hA fun _ h => (cell_of_blk (h.oldBlk' hb hn)).trans hv
theorem val_load_old_part {T U : TypeId} {x : Operand} {b o m : Nat} {xs cs : List Value} (hb : w0.heap[b]? = some (blk xs U)) (hn : b ∉ olds) (hx : ev F x = some (.pointer (some ⟨b, o, none⟩)))
    (hA : ∀ w, (isAgg T).run P w = .ok true w) (hS : ∀ w, (sizeOf T).run P w = .ok m w) (hl : cs.length = m) (hc : (xs.drop o).take m = cs) : Val P n F (Mem w0 olds l) (.load T x) ty (.agg cs.toArray) :=
  val_load_agg hx hA hS hl fun w h j v hj => by
    rw [cell_of_blk (h.oldBlk' hb hn)]
    rw [← hc, List.getElem?_take] at hj
    split at hj
    · rw [List.getElem?_drop] at hj; exact hj
    · cases hj
theorem val_load_old_all {T U : TypeId} {x : Operand} {b m : Nat} {xs : List Value} (hb : w0.heap[b]? = some (blk xs U)) (hn : b ∉ olds) (hx : ev F x = some (.pointer (some ⟨b, 0, none⟩)))
    (hA : ∀ w, (isAgg T).run P w = .ok true w) (hS : ∀ w, (sizeOf T).run P w = .ok m w) (hl : xs.length = m) : Val P n F (Mem w0 olds l) (.load T x) ty (.agg xs.toArray) :=
  val_load_old_part hb hn hx hA hS hl (by simp [← hl])

/-- Two known blocks are two. -/
theorem pick_ne : ∀ {l : List Ent} {i j : Nat} {b b' : Nat} {o o' : Obj}, (keys l).Nodup → pick l i = some (b, o) → pick l j = some (b', o') → i ≠ j → b ≠ b'
  | [], i, j, _, _, _, _, _, h, _, _ => by simp [pick] at h
  | z :: r, 0, 0, _, _, _, _, _, _, _, h => absurd rfl h
  | z :: r, 0, j + 1, b, b', o, o', hn, h, h', _ => by
    simp only [pick] at h h'; subst h
    rw [keys_cons_some, List.nodup_cons] at hn
    exact fun e => hn.1 (by simp only at e ⊢; rw [e]; exact mem_keys (pick_mem h'))
  | z :: r, i + 1, 0, b, b', o, o', hn, h, h', _ => by
    simp only [pick] at h h'; subst h'
    rw [keys_cons_some, List.nodup_cons] at hn
    exact fun e => hn.1 (by simp only at e ⊢; rw [← e]; exact mem_keys (pick_mem h))
  | z :: r, i + 1, j + 1, b, b', o, o', hn, h, h', hij => by
    refine pick_ne (l := r) ?_ h h' (by omega)
    cases z with
    | none => rwa [keys_cons_none] at hn
    | some x => rw [keys_cons_some, List.nodup_cons] at hn; exact hn.2
theorem Mem.ne {w : World} (hm : Mem w0 olds l w) {i j b b' : Nat} {o o' : Obj} (h : pick l i = some (b, o)) (h' : pick l j = some (b', o')) (hij : i ≠ j) : b ≠ b' := pick_ne hm.nodup h h' hij

/-- A call that hands back a value round a new block. -/
theorem ow_call_blk {ops : Array Oper} {t : Nat} {op : Op} {ps : String} {af : Array Edge} {rest : List Oper} {Q : Po} {f : FuncId} {args : Array Value} {o : Obj} (V : Nat → Value)
    (hv : CallsTo P n F (Mem w0 olds l) op ty f args) (ht : Nat.blt t n = true)
    (hc : ∀ w, Mem w0 olds l w → Calls P f args w fun e w' => ∃ u, e = .returned u ∧ ∃ b, u = V b ∧ Mem w [] [some (b, o)] w')
    (h : ∀ b, w0.heap.size ≤ b → OW P n ops rest ((t, V b) :: F) (Mem w0 olds (some (b, o) :: l)) Q) : OW P n ops (⟨some t, op, ty, ps, af, none⟩ :: rest) F (Mem w0 olds l) Q :=
  ow_call (fun _ u w' => ∃ b, w0.heap.size ≤ b ∧ u = V b ∧ Mem w0 olds (some (b, o) :: l) w') hv ht
    (fun _ hm => (hc _ hm).mono fun _ _ ⟨u, he, b, hu, hm'⟩ => ⟨u, he, b, by
      rcases hm'.fresh b (by simp [keys]) with h1 | h1
      · exact Nat.le_trans hm.size h1
      · simp at h1, hu, hm.call hm'⟩)
    (fun _ u _ a w' hf ⟨b, hb, hu, hm'⟩ => by subst hu; exact h b hb a w' hf hm')
/-- The bytes of a block are read. -/
theorem Rd.blk {w : World} {b : Nat} {xs : List Value} {T : TypeId} (h : w.heap[b]? = some (blk xs T)) : Rd w (some ⟨b, 0, none⟩) xs := fun j x hj => ⟨b, 0, rfl, by rw [Nat.zero_add, cell_of_blk h]; exact hj⟩

/-- make, told by what it makes. -/
theorem acts_make_to {T E : TypeId} {x y : Operand} {i : TypeInfo} {z : Value} {kl kc : IntKind} {il ic : Int} {vs : List Value} (len cap : Nat) (hx : ev F x = some (.int kl il)) (hy : ev F y = some (.int kc ic)) (hil : il = (len : Int)) (hic : ic = (cap : Int))
    (hT : P.underlying T = some (.slice E)) (hi : P.info? E = some i) (hz : i.zero = some z) (hle : len ≤ cap) (hb : i.bytes * cap ≤ 281474976710656) (h63 : cap ≤ 9223372036854775807) (hm : (madeCells z.cells (cap * i.size)).toList = vs) :
    Acts P n F (Mem w0 olds l) (.makeSlice T x y) ty (fun w u w' => u = .slice (some ⟨w.heap.size, 0, none⟩) len cap ∧ Mem w0 olds (some (w.heap.size, blk vs E) :: l) w') := by
  subst hil; subst hic; subst hm
  exact acts_make len cap hx hy hT hi hz hle hb h63
end
end Go.Sx

namespace Go.Sx
section
variable {P : Program} {n : Nat} {F : Fr} {S : World → Prop} {ty : TypeId} {w0 : World} {olds : List Nat} {m : List Ent}

theorem Val.to {op : Op} {v v' : Value} (h : Val P n F S op ty v) (e : v = v') : Val P n F S op ty v' := e ▸ h

/-- The guard is met. -/
def WG (l : List Oper) (F : Fr) : Option (Nat × Bool) → Prop
  | none => True
  | some (j, b) => ∃ t, ((nth l j).bind (·.dst)) = some t ∧ look F t = some (.bool b)
/-- The guard is not met, or its operation was passed over. -/
def NG (l : List Oper) (F : Fr) : Option (Nat × Bool) → Prop
  | none => False
  | some (j, b) => ∃ t, ((nth l j).bind (·.dst)) = some t ∧ (look F t = some (.bool (!b)) ∨ look F t = some undef)
theorem WG.wanted {l : List Oper} {o : Oper} {a : Act} (h : WG l F o.guard) (hf : Fits n F a) : Region.wanted o (yielded l.toArray a.tmps) = true := by
  unfold Region.wanted
  cases hg : o.guard with
  | none => rfl
  | some x =>
    obtain ⟨j, b⟩ := x
    rw [hg] at h
    obtain ⟨t, hd, hy⟩ := h
    simp only [yielded, ← nth_eq, hd, Option.bind_some, hf.has t _ hy]
    cases b <;> rfl
theorem NG.wanted {l : List Oper} {o : Oper} {a : Act} (h : NG l F o.guard) (hf : Fits n F a) : Region.wanted o (yielded l.toArray a.tmps) = false := by
  unfold Region.wanted
  cases hg : o.guard with
  | none => rw [hg] at h; cases h
  | some x =>
    obtain ⟨j, b⟩ := x
    rw [hg] at h
    obtain ⟨t, hd, hy | hy⟩ := h
    · simp only [yielded, ← nth_eq, hd, Option.bind_some, hf.has t _ hy]
      cases b <;> rfl
    · simp only [yielded, ← nth_eq, hd, Option.bind_some, hf.has t _ hy, undef]
      cases b <;> rfl
theorem ng1 {l : List Oper} {j t : Nat} {b : Bool} (hd : ((nth l j).bind (·.dst)) = some t) (hy : look F t = some (.bool (!b))) : NG l F (some (j, b)) := ⟨t, hd, .inl hy⟩
theorem ng2 {l : List Oper} {j t : Nat} {b : Bool} (hd : ((nth l j).bind (·.dst)) = some t) (hy : look F t = some undef) : NG l F (some (j, b)) := ⟨t, hd, .inr hy⟩
theorem wg {l : List Oper} {j t : Nat} {b : Bool} (hd : ((nth l j).bind (·.dst)) = some t) (hy : look F t = some (.bool b)) : WG l F (some (j, b)) := ⟨t, hd, hy⟩

section
variable {l : List Oper} {late : List Nat} {listed : Array Bool} {M : World → Prop} {Q : Po} {r : List (Nat × Nat)} {i : Nat} {op : Op} {ps : String} {af : Array Edge} {g : Option (Nat × Bool)}

theorem lwg_pure {t : Nat} {v : Value} (ho : nth l i = some ⟨some t, op, ty, ps, af, g⟩) (hg : WG l F g) (hv : Val P n F (fun _ => True) op ty v) (ht : Nat.blt t n = true)
    (h : LW P n l S late r (listed.setIfInBounds i true) ((t, v) :: F) M Q) : LW P n l S late ((i, 0) :: r) listed F M Q :=
  fun a w hf hm => ⟨_, v, (nth_eq l i).symm.trans ho, .inl ⟨WG.wanted (o := ⟨some t, op, ty, ps, af, g⟩) hg hf, fun w => hv a w hf trivial _ _ _ _⟩, h _ w (hf.put ht v) hm⟩
theorem lwg_held {t : Nat} {v : Value} (ho : nth l i = some ⟨some t, op, ty, ps, af, g⟩) (hg : WG l F g) (hv : Val P n F S op ty v) (ht : Nat.blt t n = true)
    (h : LW P n l S late r (listed.setIfInBounds i true) ((t, v) :: F) M Q) : LW P n l S late ((i, 1) :: r) listed F M Q :=
  fun a w hf hm => ⟨_, v, (nth_eq l i).symm.trans ho, .inl ⟨WG.wanted (o := ⟨some t, op, ty, ps, af, g⟩) hg hf, fun w hw => hv a w hf hw _ _ _ _⟩, h _ w (hf.put ht v) hm⟩
theorem lwg_no {t : Nat} (ho : nth l i = some ⟨some t, op, ty, ps, af, g⟩) (hg : NG l F g) (ht : Nat.blt t n = true)
    (h : LW P n l S late r (listed.setIfInBounds i true) ((t, undef) :: F) M Q) : LW P n l S late ((i, 0) :: r) listed F M Q :=
  fun a w hf hm => ⟨_, undef, (nth_eq l i).symm.trans ho, .inr ⟨NG.wanted (o := ⟨some t, op, ty, ps, af, g⟩) hg hf, rfl⟩, h _ w (hf.put ht undef) hm⟩
theorem lwg_no' (ho : nth l i = some ⟨none, op, ty, ps, af, g⟩) (hg : NG l F g)
    (h : LW P n l S late r (listed.setIfInBounds i true) F M Q) : LW P n l S late ((i, 0) :: r) listed F M Q :=
  fun a w hf hm => ⟨_, undef, (nth_eq l i).symm.trans ho, .inr ⟨NG.wanted (o := ⟨none, op, ty, ps, af, g⟩) hg hf, rfl⟩, h _ w hf hm⟩
theorem wpOp_wanted {o : Oper} {ops : Array Oper} {Q : Exit → Act → World → Prop} {K : Act → World → Prop} {a : Act} {w : World} (ho : ops[i]? = some o) (hg : Region.wanted o (yielded ops a.tmps) = true) (h : o.wp P a w K Q) :
    wpOp P ops Q i K a w := by
  unfold wpOp
  simp only [ho, hg, if_true]
  exact .inl h
theorem lwg_val {t : Nat} {v : Value} (ho : nth l i = some ⟨some t, op, ty, ps, af, g⟩) (hg : WG l F g) (hv : Val P n F M op ty v) (ht : Nat.blt t n = true) (hS : ∀ w, M w → S w)
    (h : LW P n l S late r (listed.setIfInBounds i true) ((t, v) :: F) M Q) : LW P n l S late ((i, 2) :: r) listed F M Q := by
  intro a w hf hm
  refine wpOp_wanted ((nth_eq l i).symm.trans ho) (WG.wanted hg hf) ?_
  unfold Oper.wp
  have := hv a w hf hm (some t) ps af g
  rw [this]
  exact ⟨fun _ => hS w hm, h _ w (hf.put ht v) hm⟩
theorem lwg_act {t : Nat} {R : World → Value → World → Prop} (ho : nth l i = some ⟨some t, op, ty, ps, af, g⟩) (hg : WG l F g) (hv : Acts P n F M op ty R) (ht : Nat.blt t n = true)
    (hS : clean late (listed.setIfInBounds i true) = true → ∀ w v w', M w → R w v w' → S w')
    (h : ∀ w v, M w → LW P n l S late r (listed.setIfInBounds i true) ((t, v) :: F) (R w v) Q) : LW P n l S late ((i, 2) :: r) listed F M Q := by
  intro a w hf hm
  refine wpOp_wanted ((nth_eq l i).symm.trans ho) (WG.wanted hg hf) ?_
  unfold Oper.wp
  obtain ⟨v, w', e, hr⟩ := hv a w hf hm (some t) ps af g
  rw [e]
  exact ⟨fun hc => hS hc w v w' hm hr, h w v hm _ w' (hf.put ht v) hr⟩
theorem lwg_call {t : Nat} {f : FuncId} {args : Array Value} (R : World → Value → World → Prop) (ho : nth l i = some ⟨some t, op, ty, ps, af, g⟩) (hg : WG l F g) (hv : CallsTo P n F M op ty f args) (ht : Nat.blt t n = true)
    (hc : ∀ w, M w → Calls P f args w fun e w' => ∃ v, e = .returned v ∧ R w v w')
    (hS : clean late (listed.setIfInBounds i true) = true → ∀ w v w', M w → R w v w' → S w')
    (h : ∀ w v, M w → LW P n l S late r (listed.setIfInBounds i true) ((t, v) :: F) (R w v) Q) : LW P n l S late ((i, 2) :: r) listed F M Q := by
  intro a w hf hm
  refine wpOp_wanted ((nth_eq l i).symm.trans ho) (WG.wanted hg hf) ?_
  unfold Oper.wp
  have := hv a w hf hm (some t) ps af g
  rw [this]
  refine (hc w hm).mono ?_
  rintro e w' ⟨v, rfl, hr⟩
  exact ⟨fun hc => hS hc w v w' hm hr, h w v hm _ w' (hf.put ht v) hr⟩
theorem lwg_call_pure {t : Nat} {f : FuncId} {args : Array Value} {v : Value}
    (ho : nth l i = some ⟨some t, op, ty, ps, af, g⟩) (hg : WG l F g) (hv : CallsTo P n F (Mem w0 olds m) op ty f args) (ht : Nat.blt t n = true)
    (hc : ∀ w, Mem w0 olds m w → Calls P f args w fun e w' => ∃ u, e = .returned u ∧ u = v ∧ Mem w [] [] w')
    (h : LW P n l (Mem w0 olds m) late r (listed.setIfInBounds i true) ((t, v) :: F) (Mem w0 olds m) Q) : LW P n l (Mem w0 olds m) late ((i, 2) :: r) listed F (Mem w0 olds m) Q :=
  lwg_call (fun _ u w' => u = v ∧ Mem w0 olds m w') ho hg hv ht (fun _ hm => (hc _ hm).mono fun _ _ ⟨u, he, hu, hm'⟩ => ⟨u, he, hu, hm.call0 hm'⟩) (fun _ _ _ _ _ hr => hr.2)
    (fun _ u hm a w' hf ⟨hu, hm'⟩ => by subst hu; exact h a w' hf hm')
end

/-- x; y: x's ways brought together; what is known in the middle is told by some s. -/
theorem sw_join {σ : Type} {x y : Code} {M : World → Prop} {Q : Po} (I : σ → Prop) (G : σ → Fr) (W : σ → World → Prop)
    (hx : SW P n x F M (thenP (fun F' w' => ∃ s, I s ∧ Sub (G s) F' ∧ W s w') Q)) (hy : ∀ s, I s → SW P n y (G s) (W s) Q) : SW P n (.seq x y) F M Q :=
  sw_seq_mid _ hx fun _ w ⟨s, hi, hs, hw⟩ => SW.weaken hs (fun _ e => e ▸ hw) (hy s hi)

/-- A row's slice. -/
theorem RowE.slice {v : Value} {T : TypeId} {size k : Nat} {xs : List Value} {e : Ent} (h : RowE v T size k xs e) : ∃ a c, v = .slice a k c ∧ k ≤ c := by
  obtain ⟨_, ⟨rfl, rfl, rfl⟩ | ⟨b, cap, rest, rfl, hc, _⟩⟩ := h
  · exact ⟨none, 0, rfl, Nat.le_refl _⟩
  · exact ⟨_, cap, rfl, hc⟩
theorem RowE.len {v : Value} {T : TypeId} {k : Nat} {xs : List Value} {e : Ent} (h : RowE v T 1 k xs e) : xs.length = k := by have := h.1; omega
theorem RowE.rdAt {a : Option Addr} {c k size : Nat} {T : TypeId} {xs : List Value} {e : Ent} (h : RowE (.slice a k c) T size k xs e) {l : List Ent} {w : World} {i : Nat} (hm : Mem w0 olds l w) (hp : pick l i = e) : Rd w a xs := by
  obtain ⟨a', cap, e', _, hr⟩ := h.rd hm hp
  simp only [Value.slice.injEq] at e'
  rw [e'.1]; exact hr
theorem RowE.le {a : Option Addr} {c k size : Nat} {T : TypeId} {xs : List Value} {e : Ent} (h : RowE (.slice a k c) T size k xs e) : k ≤ c := by
  obtain ⟨a', c', e', hc⟩ := h.slice
  simp only [Value.slice.injEq] at e'
  omega
theorem RowE.cong {v v' : Value} {T : TypeId} {size k k' : Nat} {xs xs' : List Value} {e : Ent} (h : RowE v T size k xs e) (hv : v = v') (hk : k = k') (hx : xs = xs') : RowE v' T size k' xs' e := by
  subst hv; subst hk; subst hx; exact h
/-- Where a row stands: in a new block, or in an older own one. -/
theorem Mem.rowFresh {w : World} {e : Ent} {l : List Ent} {b : Nat} {o : Obj} (hm : Mem w0 [] (e :: l) w) (he : e = some (b, o)) : w0.heap.size ≤ b := by
  subst he
  rcases hm.fresh b (by simp [keys]) with h | h
  · exact h
  · simp at h

theorem ow_append' {ops : Array Oper} {t : Nat} {op : Op} {ps : String} {af : Array Edge} {rest : List Oper} {M : World → Prop} {Q : Po} {E : TypeId} {size k idx : Nat} {xs : List Value}
    (hv : Acts P n F M op ty (fun _ u w' => ∃ e', RowE u E size k xs e' ∧ Mem w0 olds (upd m idx e') w')) (ht : Nat.blt t n = true)
    (h : ∀ a c e', RowE (.slice a k c) E size k xs e' → OW P n ops rest ((t, .slice a k c) :: F) (Mem w0 olds (upd m idx e')) Q) : OW P n ops (⟨some t, op, ty, ps, af, none⟩ :: rest) F M Q :=
  ow_append hv ht fun u e' hr => by
    obtain ⟨a, c, rfl, _⟩ := hr.slice
    exact h a c e' hr
/-- A call that hands back a slice of its own, nil or not. -/
theorem ow_call_row {ops : Array Oper} {t : Nat} {op : Op} {ps : String} {af : Array Edge} {rest : List Oper} {Q : Po} {f : FuncId} {args : Array Value} {E : TypeId} {size k : Nat} {xs : List Value}
    (hv : CallsTo P n F (Mem w0 olds m) op ty f args) (ht : Nat.blt t n = true)
    (hc : ∀ w, Mem w0 olds m w → Calls P f args w fun e w' => ∃ u, e = .returned u ∧ ∃ e', RowE u E size k xs e' ∧ Mem w [] [e'] w')
    (h : ∀ a c e', RowE (.slice a k c) E size k xs e' → OW P n ops rest ((t, .slice a k c) :: F) (Mem w0 olds (e' :: m)) Q) : OW P n ops (⟨some t, op, ty, ps, af, none⟩ :: rest) F (Mem w0 olds m) Q :=
  ow_call_slice hv ht hc fun u e' hr => by
    obtain ⟨a, c, rfl, _⟩ := hr.slice
    exact h a c e' hr

theorem Rd.get {α : Type} [Inhabited α] {V : α → Value} {w : World} {b o : Nat} {p : List α} (h : Rd w (some ⟨b, o, none⟩) (p.map V)) {k e : Nat} (hk : k < p.length) (he : o + k = e) : w.cell? ⟨b, e, none⟩ = some (V (p.getD k default)) := by
  subst he; exact h.cell (get_map V p k hk)
/-- A constant string's bytes: the row with its mark. -/
def mrk (xs : List Value) (T : TypeId) : Obj := .cells xs.toArray T (xs.length, xs.length + 1)
theorem acts_convert_bytes {T E : TypeId} {x : Operand} {b n' c : Nat} {xs : List Value} {U : TypeId} {l : List Ent} (i : Nat) (hx : ev F x = some (.slice (some ⟨b, 0, none⟩) n' c)) (hp : pick l i = some (b, blk xs U))
    (hT : P.underlying T = some (.slice E)) (hE : P.underlying E = some (.int .u8)) :
    Acts P n F (Mem w0 olds l) (.convert T T x) ty (fun _ u w' => u = .slice (some ⟨b, 0, none⟩) n' c ∧ Mem w0 olds (upd l i (some (b, mrk xs U))) w') := by
  intro s w hf hm d ps af g
  have hb := hm.at hp
  have hsh : w.shape? b = some (U, xs.length) := by
    unfold World.shape?; rw [hb]; simp [blk]
  have hlt : b < w.heap.size := (Array.getElem?_eq_some_iff.1 hb).1
  refine ⟨_, w.freeze ⟨b, xs.length, none⟩ 1, ?_, rfl, ?_⟩
  · simp only [execOp, ev_eval hf hx]
    simp [convert, run_underlying hT, run_underlying hE, markStringish, hsh]
  · have hne : ¬ (1 = 0) := by decide
    refine hm.put hp (by simp [World.freeze]) (by simp [World.freeze]) (by simp [World.freeze]) (by simp [World.freeze]) ?_ (fun k hk hkb => ?_)
    · simp only [World.freeze, if_neg hne]
      rw [Array.getElem?_modify, if_pos rfl, hb]
      rfl
    · simp only [World.freeze, if_neg hne]
      rw [Array.getElem?_modify, if_neg (Ne.symm hkb)]
theorem Rd.mrk {w : World} {b : Nat} {xs : List Value} {T : TypeId} (h : w.heap[b]? = some (mrk xs T)) : Rd w (some ⟨b, 0, none⟩) xs := fun j x hj => ⟨b, 0, rfl, by
  rw [Nat.zero_add, cell_of_row w b j _ T _ h]; simpa using hj⟩

theorem Rd.lt {w : World} {b o : Nat} {a : Option Addr} {xs : List Value} (h : Rd w a xs) (ha : a = some ⟨b, o, none⟩) (hp : 0 < xs.length) : b < w.heap.size := by
  subst ha
  exact World.block_lt_of_cell? _ _ (h.cell (j := 0) (x := xs[0]) (by simp [hp]))
theorem RowE.ne {a : Option Addr} {c k size b b' o' : Nat} {o : Obj} {T : TypeId} {xs : List Value} {e : Ent} (h : RowE (.slice a k c) T size k xs e) {l : List Ent} {w : World} {i j : Nat} (hm : Mem w0 olds l w) (hp : pick l i = e) (hq : pick l j = some (b, o)) (hij : i ≠ j)
    (ha : a = some ⟨b', o', none⟩) : b' ≠ b := by
  subst ha
  obtain ⟨_, ⟨h1, _⟩ | ⟨b2, cap, rest, h1, _, _, _, rfl⟩⟩ := h
  · simp at h1
  · simp only [Value.slice.injEq, Option.some.injEq, Addr.mk.injEq] at h1
    rw [h1.1.1]; exact hm.ne hp hq hij

/-- A cut of a slice, nil or not. -/
def cut (a : Option Addr) (c k m : Nat) : Option Addr := if c = k then a else a.map (·.add (k * m))
theorem val_slice_cut {T E : TypeId} {x y z : Operand} {a : Option Addr} {len cap size : Nat} {kl kh : IntKind} {i j : Int} (k h : Nat) (hx : ev F x = some (.slice a len cap)) (hy : ev F y = some (.int kl i)) (hz : ev F z = some (.int kh j)) (hT : P.underlying T = some (.slice E)) (hS : ∀ w, (sizeOf E).run P w = .ok size w)
    (hi : i = (k : Int)) (hj : j = (h : Int)) (hk : k ≤ h) (hc : h ≤ cap) : Val P n F S (.slice T x (some y) (some z) none) ty (.slice (cut a cap k size) (h - k) (cap - k)) := by
  subst hi; subst hj
  exact val_slice (lk := kl) (hk := kh) (some k) (some h) _ hx hT hS (fun s hs => by simp [ev_eval hs hy]) (fun s hs => by simp [ev_eval hs hz]) ⟨hk, hc⟩ rfl
theorem val_slice_from {T E : TypeId} {x y : Operand} {a : Option Addr} {len cap size : Nat} {kl : IntKind} {i : Int} (k : Nat) (hx : ev F x = some (.slice a len cap)) (hy : ev F y = some (.int kl i)) (hT : P.underlying T = some (.slice E)) (hS : ∀ w, (sizeOf E).run P w = .ok size w)
    (hi : i = (k : Int)) (hk : k ≤ len) (hc : len ≤ cap) : Val P n F S (.slice T x (some y) none none) ty (.slice (cut a cap k size) (len - k) (cap - k)) := by
  subst hi
  exact val_slice (lk := kl) (hk := .i64) (some k) none _ hx hT hS (fun s hs => by simp [ev_eval hs hy]) (fun s hs => rfl) ⟨hk, hc⟩ rfl
theorem Rd.cut {α : Type} {V : α → Value} {w : World} {a : Option Addr} {p : List α} (h : Rd w a (p.map V)) {k c : Nat} (hc : p.length ≤ c) : Rd w (cut a c k 1) ((p.drop k).map V) := by
  unfold Sx.cut
  rcases Nat.lt_or_ge k p.length with hk | hk
  · obtain ⟨b, o, rfl⟩ := h.addr (by simp; omega)
    rw [if_neg (by omega)]
    have h2 := h.drop1 (k := k) (c := c) (by omega) hc
    rw [if_neg (by omega)] at h2
    simpa [add_none] using h2
  · rw [List.drop_eq_nil_of_le hk]; exact Rd.nil _ _
/-- Lists that are alike so far. -/
theorem getD_ne {p q : List UInt8} {k : Nat} (h : p.getD k default ≠ q.getD k default) : p ≠ q := fun e => h (by rw [e])
theorem ext_getD {α : Type} [Inhabited α] {p q : List α} (hl : p.length = q.length) (h : ∀ k, k < p.length → p.getD k default = q.getD k default) : p = q := by
  apply List.ext_getElem hl
  intro k h1 h2
  have := h k h1
  simpa [List.getD_eq_getElem?_getD, h1, h2] using this
end
end Go.Sx

namespace Go.Sx
section
variable {P : Program} {n : Nat} {F : Fr} {S : World → Prop} {ty : TypeId} {w0 : World} {olds : List Nat} {m : List Ent}

theorem lw_act_eq {l : List Oper} {late : List Nat} {listed : Array Bool} {M M' : World → Prop} {Q : Po} {r : List (Nat × Nat)} {i t : Nat} {op : Op} {ps : String} {af : Array Edge} {v : Value}
    (ho : nth l i = some ⟨some t, op, ty, ps, af, none⟩) (hv : Acts P n F M op ty (fun _ u w' => u = v ∧ M' w')) (ht : Nat.blt t n = true)
    (hS : clean late (listed.setIfInBounds i true) = true → ∀ w, M' w → S w)
    (h : LW P n l S late r (listed.setIfInBounds i true) ((t, v) :: F) M' Q) : LW P n l S late ((i, 2) :: r) listed F M Q :=
  lw_act ho hv ht (fun hc w u w' _ hr => hS hc w' hr.2) (fun w u _ a w' hf hr => by obtain ⟨rfl, hm⟩ := hr; exact h a w' hf hm)

/-- append; the slice that was appended to is read on. x: the new block, if one was made; y: the old row's entry. -/
theorem acts_append2 {l : List Ent} {T E : TypeId} {x y : Operand} {i : TypeInfo} {z : Value} {size bytes k m c cv : Nat} {a av : Option Addr} {xs ys : List Value} {e : Ent} (idx : Nat)
    (hx : ev F x = some (.slice av k cv)) (hy : ev F y = some (.slice a m c)) (hp : pick l idx = e) (hrow : RowE (.slice av k cv) E size k xs e)
    (hT : P.underlying T = some (.slice E)) (hi : P.info? E = some i) (hz : i.zero = some z) (hs : i.size = size) (hby : i.bytes = bytes) (hzs : z.cells.size = size) (hsz : 0 < size)
    (hrd : ∀ w, Mem w0 olds l w → Rd w a ys) (hyl : ys.length = m * size) (h1 : ∀ u ∈ ys, u.oneCell' = true) (hb : (k + m) * bytes ≤ 140737488355328) (hkm : k + m ≤ 9223372036854775807) :
    Acts P n F (Mem w0 olds l) (.call { callee := .builtin .append, args := #[x, y], argTypes := #[T, T] }) ty
      (fun _ u w' => ∃ a' c' x' y', u = .slice a' (k + m) c' ∧ k + m ≤ c' ∧ (∀ w, Mem w0 olds [x', y'] w → Rd w a' (xs ++ ys) ∧ Rd w av xs) ∧ Mem w0 olds (x' :: upd l idx y') w') := by
  intro s w hf hm d ps af g
  have hrdw := hrd w hm
  subst hs; subst hby
  have hexec : ∀ (u : Value) (w' : World), (Builtin.append_ #[T, T] ty #[.slice av k cv, .slice a m c]).run P w = .ok u w' →
      (execOp s.eval ⟨d, .call { callee := .builtin .append, args := #[x, y], argTypes := #[T, T] }, ty, ps, af, g⟩).run P w = .ok (.value u) w' := by
    intro u w' h
    simp [execOp, resolve, ev_eval hf hx, ev_eval hf hy, invoke, builtin, h]
  have hupd : upd l idx e = l := by rw [← hp, upd_self]
  cases a with
  | none =>
    have hys : ys = [] := by
      cases ys with
      | nil => rfl
      | cons q r => obtain ⟨b, o, e, _⟩ := hrdw 0 q rfl; cases e
    subst hys
    have hm0 : m = 0 := by
      rcases Nat.eq_zero_or_pos m with h | h
      · exact h
      · have := Nat.mul_pos h hsz; simp at hyl; omega
    subst hm0
    refine ⟨.slice av k cv, w, hexec _ w ?_, av, cv, none, e, rfl, by simpa using hrow.le, fun w'' hw => ?_, by rw [hupd]; exact hm.place⟩
    · rcases hrow.2 with ⟨h0, rfl, _⟩ | ⟨b, cap, rest, h0, hc, _⟩
      · simp only [Value.slice.injEq] at h0; obtain ⟨rfl, _, rfl⟩ := h0
        simp [Builtin.append_, run_underlying hT, sizeOf, typeInfo, hi, Builtin.lenOf, Builtin.firstCells]
      · simp only [Value.slice.injEq] at h0; obtain ⟨rfl, _, rfl⟩ := h0
        simp [Builtin.append_, run_underlying hT, sizeOf, typeInfo, hi, Builtin.lenOf, Builtin.firstCells, hc, storeCells]
    · have := hrow.rdAt hw (i := 1) rfl
      exact ⟨by simpa using this, this⟩
  | some ad =>
    have hnews : ∀ j u, ys[j]? = some u → w.cell? (ad.add j) = some u := fun j u hj => by
      obtain ⟨b, o, e, hc⟩ := hrdw j u hj
      simp only [Option.some.injEq] at e; subst e
      rw [add_none]; exact hc
    have hcap := grownCap_ge w (k + m)
    have grown : ∀ (old : Nat), Mem w0 olds (some (w.heap.size, blk (xs ++ ys ++ (Builtin.zeroCells z.cells (grownCap w (k + m) old E - (k + m))).toList) E) :: l)
        (w.drew.alloc (.cells (xs.toArray ++ ys.toArray ++ Builtin.zeroCells z.cells (grownCap w (k + m) old E - (k + m))) E)) := fun old => by
      have h1 : Mem w0 olds l w.drew := hm.drawn _
      have h2 := h1.alloc (.cells (xs.toArray ++ ys.toArray ++ Builtin.zeroCells z.cells (grownCap w (k + m) old E - (k + m))) E)
      have h3 : (Obj.cells (xs.toArray ++ ys.toArray ++ Builtin.zeroCells z.cells (grownCap w (k + m) old E - (k + m))) E) = blk (xs ++ ys ++ (Builtin.zeroCells z.cells (grownCap w (k + m) old E - (k + m))).toList) E := by
        simp only [blk]; congr 1; apply Array.ext'; simp
      rw [h3] at h2 ⊢
      exact h2
    have growE : ∀ (old : Nat), RowE (.slice (some ⟨w.heap.size, 0, none⟩) (k + m) (grownCap w (k + m) old E)) E i.size (k + m) (xs ++ ys)
        (some (w.heap.size, blk (xs ++ ys ++ (Builtin.zeroCells z.cells (grownCap w (k + m) old E - (k + m))).toList) E)) := fun old => by
      have hge := grownCap_ge w (k + m) old E
      have hml := grownCap_le_maxLen w (k + m) old E (by simpa [maxLen] using hkm)
      refine ⟨by rw [List.length_append, hrow.1, hyl, Nat.add_mul], .inr ⟨_, _, _, rfl, hge, by simpa [maxLen] using hml, ?_, rfl⟩⟩
      simp only [List.length_append, Array.length_toList, size_zeroCells, hzs, hrow.1, hyl, ← Nat.add_mul]
      congr 1; omega
    rcases hrow.2 with ⟨h0, rfl, he⟩ | ⟨b, cap, rest, h0, hc, hcm, hcl, he⟩
    · simp only [Value.slice.injEq] at h0; obtain ⟨rfl, _, rfl⟩ := h0
      have hxs : xs = [] := List.length_eq_zero_iff.1 (by simpa using hrow.1)
      subst hxs
      rcases Nat.eq_zero_or_pos m with rfl | hpos
      · have hys : ys = [] := List.length_eq_zero_iff.1 (by simpa using hyl)
        subst hys
        refine ⟨.slice none 0 0, w, hexec _ w ?_, none, 0, none, e, rfl, Nat.le_refl _, fun w'' _ => ⟨Rd.nil _ _, Rd.nil _ _⟩, by rw [hupd]; exact hm.place⟩
        simp [Builtin.append_, run_underlying hT, sizeOf, typeInfo, hi, Builtin.lenOf, Builtin.firstCells, loadCells, loadCellsFrom]
      · have hr := run_append_nil (P := P) w T ty E i z hT hi hz ad m c ys hyl hnews hpos (by omega) (by simp only [Nat.zero_add] at hb; omega)
        have g1 := grown 0; have g2 := growE 0
        simp only [Nat.zero_add, List.nil_append, Array.empty_append] at g1 g2 ⊢
        exact ⟨_, _, hexec _ _ hr, _, _, _, e, rfl, g2.le, fun w'' hw => ⟨g2.rdAt hw (i := 0) rfl, Rd.nil _ _⟩, by rw [hupd]; exact g1⟩
    · simp only [Value.slice.injEq] at h0; obtain ⟨rfl, _, rfl⟩ := h0
      have hp' := hp.trans he
      have hbk := hm.at hp'
      by_cases hroom : k + m ≤ cv
      · have hfit : k * i.size + ys.length ≤ (xs ++ rest).toArray.size := by
          simp only [List.size_toArray, hcl, hyl, ← Nat.add_mul]; exact Nat.mul_le_mul_right _ hroom
        have hr := run_append_room (P := P) w T ty E i hT hi b k cv _ hbk ad m c ys hyl hnews h1 hroom hfit
        have hx1 : (xs ++ rest).take (k * i.size) = xs := by rw [← hrow.1]; exact List.take_left
        have hx2 : (xs ++ rest).drop (k * i.size + ys.length) = rest.drop ys.length := by rw [← hrow.1, ← List.drop_drop, List.drop_left]
        simp only [hx1, hx2] at hr
        have hne : RowE (.slice (some ⟨b, 0, none⟩) (k + m) cv) E i.size (k + m) (xs ++ ys) (some (b, blk (xs ++ ys ++ rest.drop ys.length) E)) :=
          ⟨by rw [List.length_append, hrow.1, hyl, Nat.add_mul], .inr ⟨b, cv, rest.drop ys.length, rfl, hroom, hcm, by
            simp only [List.size_toArray] at hfit
            simp only [List.length_append, List.length_drop] at hcl hfit ⊢
            have := hrow.1
            omega, rfl⟩⟩
        refine ⟨_, _, hexec _ _ hr, _, _, none, some (b, blk (xs ++ ys ++ rest.drop ys.length) E), rfl, hroom, fun w'' hw => ⟨hne.rdAt hw (i := 1) rfl, ?_⟩, Mem.place ?_⟩
        · exact Rd.own hw (i := 1) rfl (by simp)
        · refine hm.put hp' rfl rfl rfl (by simp) ?_ (fun j _ hj => setRow_other w b j _ hj)
          exact setRow_heap w b _ _ E _ hbk
      · have holds : ∀ j u, xs[j]? = some u → w.cell? ((⟨b, 0, none⟩ : Addr).add j) = some u := fun j u hj => by
          rw [add_none, Nat.zero_add, hm.cellAt hp', List.getElem?_append_left (List.getElem?_eq_some_iff.1 hj).1]; exact hj
        have hr := run_append_grow (P := P) w T ty E i z hT hi hz ⟨b, 0, none⟩ k cv xs hrow.1 holds ad m c ys hyl hnews (by omega) (by omega) (growslice_fits (by omega) hb)
        have g2 := growE cv
        exact ⟨_, _, hexec _ _ hr, _, _, _, e, rfl, g2.le, fun w'' hw => ⟨g2.rdAt hw (i := 0) rfl, hrow.rdAt hw (i := 1) rfl⟩, by rw [hupd]; exact grown cv⟩

theorem ow_append2 {l : List Ent} {ops : Array Oper} {t : Nat} {op : Op} {ps : String} {af : Array Edge} {rest : List Oper} {M : World → Prop} {Q : Po} {k idx : Nat} {av : Option Addr} {xs zs : List Value}
    (hv : Acts P n F M op ty (fun _ u w' => ∃ a' c' x' y', u = .slice a' k c' ∧ k ≤ c' ∧ (∀ w, Mem w0 olds [x', y'] w → Rd w a' zs ∧ Rd w av xs) ∧ Mem w0 olds (x' :: upd l idx y') w')) (ht : Nat.blt t n = true)
    (h : ∀ a c x y, k ≤ c → (∀ w, Mem w0 olds [x, y] w → Rd w a zs) → (∀ w, Mem w0 olds [x, y] w → Rd w av xs) → OW P n ops rest ((t, .slice a k c) :: F) (Mem w0 olds (x :: upd l idx y)) Q) :
    OW P n ops (⟨some t, op, ty, ps, af, none⟩ :: rest) F M Q := by
  intro a w hf hm
  refine wpList_plain rfl fun K hK => ?_
  unfold Oper.wp
  obtain ⟨v, w', e, a', c', x', y', rfl, hc, hr, hm'⟩ := hv a w hf hm (some t) ps af none
  rw [e]
  exact hK _ _ (h a' c' x' y' hc (fun w hw => (hr w hw).1) (fun w hw => (hr w hw).2) _ w' (hf.put ht _) hm')
theorem upd_upd : ∀ (l : List Ent) (i : Nat) (x y : Ent), upd (upd l i x) i y = upd l i y
  | [], _, _, _ => rfl
  | _ :: _, 0, _, _ => rfl
  | a :: l, i + 1, x, y => congrArg (a :: ·) (upd_upd l i x y)
/-- A loop that turns one entry only. -/
theorem sw_loop_ent {l : List Ent} {σ : Type} {c : Code} {Q : Po} (i : Nat) (O : σ → Ent) (I : σ → Prop) (H : σ → Fr) (μ : σ → Nat)
    (s0 : σ) (h0 : I s0) (hF : Sub (H s0) F) (hp : pick l i = O s0)
    (round : ∀ s, I s → SW P n c (H s) (Mem w0 olds (upd l i (O s))) (thenP (fun F' w' => ∃ s', I s' ∧ μ s' < μ s ∧ Sub (H s') F' ∧ Mem w0 olds (upd l i (O s')) w') Q)) :
    SW P n (.loop c) F (Mem w0 olds l) Q :=
  sw_loop I H (fun s => Mem w0 olds (upd l i (O s))) μ s0 h0 hF (fun w hm => by rw [← hp, upd_self]; exact hm) round
end
end Go.Sx
