import Derived.Test.YtpmnhmfahgchgaaDoorSxQ
set_option linter.unusedVariables false
set_option linter.unusedSimpArgs false
namespace Go.Sx
section
variable {P : Program} {n : Nat} {F : Fr} {S : World → Prop} {ty : TypeId} {w0 : World} {olds : List Nat} {l : List Ent}
theorem ret_tct {fn : Func} {R : Value → World → Prop} {w : World} {t u s : Nat} {T U : TypeId} {b m : Nat} {xs : List Value} {x y : Value} (i : Nat) (hr : fn.results = #[.tmp s, .cell t T, .tmp u]) (hy : look F s = some y) (hv : look F t = some (.pointer (some ⟨b, 0, none⟩))) (hx : look F u = some x)
    (hm : Mem w0 olds l w) (hp : pick l i = some (b, blk xs U)) (hA : ∀ w, (isAgg T).run P w = .ok true w) (hS : ∀ w, (sizeOf T).run P w = .ok m w) (hl : xs.length = m) (h : R (.tuple #[y, .agg xs.toArray, x]) w) : Ret P fn R .ret F w := by
  refine ⟨_, fun a hf => ?_, h⟩
  have h1 := loadVar_agg (P := P) (b := b) (o := 0) (hA w) (hS w) hl (fun j v hj => by rw [Nat.zero_add, hm.cellAt hp]; exact hj)
  have h2 : a.tmps[t]?.getD undef = .pointer (some ⟨b, 0, none⟩) := by
    rw [hf.has t _ hv]; rfl
  have h3 : a.tmps[u]?.getD undef = x := by
    rw [hf.has u _ hx]; rfl
  have h4 : a.tmps[s]?.getD undef = y := by
    rw [hf.has s _ hy]; rfl
  simp only [results, hr]
  simp [h2, h3, h4, asAddr, h1]
theorem ret_cct {fn : Func} {R : Value → World → Prop} {w : World} {t u s : Nat} {T U T' U' : TypeId} {b m b' m' : Nat} {xs ys : List Value} {x : Value} (i j : Nat) (hr : fn.results = #[.cell s T', .cell t T, .tmp u]) (hy : look F s = some (.pointer (some ⟨b', 0, none⟩))) (hv : look F t = some (.pointer (some ⟨b, 0, none⟩))) (hx : look F u = some x)
    (hm : Mem w0 olds l w) (hp' : pick l j = some (b', blk ys U')) (hp : pick l i = some (b, blk xs U)) (hA' : ∀ w, (isAgg T').run P w = .ok true w) (hS' : ∀ w, (sizeOf T').run P w = .ok m' w) (hA : ∀ w, (isAgg T).run P w = .ok true w) (hS : ∀ w, (sizeOf T).run P w = .ok m w) (hl' : ys.length = m') (hl : xs.length = m) (h : R (.tuple #[.agg ys.toArray, .agg xs.toArray, x]) w) : Ret P fn R .ret F w := by
  refine ⟨_, fun a hf => ?_, h⟩
  have h1 := loadVar_agg (P := P) (b := b) (o := 0) (hA w) (hS w) hl (fun j v hj => by rw [Nat.zero_add, hm.cellAt hp]; exact hj)
  have h5 := loadVar_agg (P := P) (b := b') (o := 0) (hA' w) (hS' w) hl' (fun j v hj => by rw [Nat.zero_add, hm.cellAt hp']; exact hj)
  have h2 : a.tmps[t]?.getD undef = .pointer (some ⟨b, 0, none⟩) := by
    rw [hf.has t _ hv]; rfl
  have h3 : a.tmps[u]?.getD undef = x := by
    rw [hf.has u _ hx]; rfl
  have h4 : a.tmps[s]?.getD undef = .pointer (some ⟨b', 0, none⟩) := by
    rw [hf.has s _ hy]; rfl
  simp only [results, hr]
  simp [h2, h3, h4, asAddr, h1, h5]
theorem ret_tc {fn : Func} {R : Value → World → Prop} {w : World} {t s : Nat} {T U : TypeId} {b m : Nat} {xs : List Value} {y : Value} (i : Nat) (hr : fn.results = #[.tmp s, .cell t T]) (hy : look F s = some y) (hv : look F t = some (.pointer (some ⟨b, 0, none⟩)))
    (hm : Mem w0 olds l w) (hp : pick l i = some (b, blk xs U)) (hA : ∀ w, (isAgg T).run P w = .ok true w) (hS : ∀ w, (sizeOf T).run P w = .ok m w) (hl : xs.length = m) (h : R (.tuple #[y, .agg xs.toArray]) w) : Ret P fn R .ret F w := by
  refine ⟨_, fun a hf => ?_, h⟩
  have h1 := loadVar_agg (P := P) (b := b) (o := 0) (hA w) (hS w) hl (fun j v hj => by rw [Nat.zero_add, hm.cellAt hp]; exact hj)
  have h2 : a.tmps[t]?.getD undef = .pointer (some ⟨b, 0, none⟩) := by
    rw [hf.has t _ hv]; rfl
  have h4 : a.tmps[s]?.getD undef = y := by
    rw [hf.has s _ hy]; rfl
  simp only [results, hr]
  simp [h2, h4, asAddr, h1]
theorem ret_ttt {fn : Func} {R : Value → World → Prop} {w : World} {t u s : Nat} {x y z : Value} (hr : fn.results = #[.tmp s, .tmp t, .tmp u]) (hz : look F s = some z) (hy : look F t = some y) (hx : look F u = some x) (h : R (.tuple #[z, y, x]) w) : Ret P fn R .ret F w := by
  refine ⟨_, fun a hf => ?_, h⟩
  have h2 : a.tmps[t]?.getD undef = y := by rw [hf.has t _ hy]; rfl
  have h3 : a.tmps[u]?.getD undef = x := by rw [hf.has u _ hx]; rfl
  have h4 : a.tmps[s]?.getD undef = z := by rw [hf.has s _ hz]; rfl
  simp only [results, hr]
  simp [h2, h3, h4]
end

/-! Structs, laid out of their fields. -/
def layOf : Nat → List Value → List (Nat × Nat)
  | _, [] => []
  | o, v :: r => (o, v.cells.size) :: layOf (o + v.cells.size) r
theorem fill_vals : ∀ (vs : List Value) (i : Nat) (pre rest : List Value) (pl : Nat → Option (Nat × Nat)), (∀ j x, (layOf pre.length vs)[j]? = some x → pl (i + j) = some x) → rest.length = (vs.map fun v => v.cells.size).sum →
    Instr.fill pl (pre ++ rest).toArray ((vs.zipIdx i).map fun x => (x.2, x.1)) = some (pre ++ vs.flatMap fun v => v.cells.toList).toArray
  | [], i, pre, rest, pl, _, hr => by
    have : rest = [] := List.length_eq_zero_iff.1 (by simpa using hr)
    subst this
    simp [Instr.fill]
  | v :: vs, i, pre, rest, pl, hp, hr => by
    rw [List.map_cons, List.sum_cons] at hr
    rw [List.zipIdx_cons, List.map_cons, Instr.fill]
    have h0 := hp 0 (pre.length, v.cells.size) rfl
    rw [Nat.add_zero] at h0
    simp only [h0, List.size_toArray]
    have hle : ¬ (pre.length + v.cells.size > (pre ++ rest).length) := by rw [List.length_append]; omega
    simp only [ne_eq, not_true, decide_false, hle, Bool.or_self, Bool.false_eq_true, if_false]
    obtain ⟨c, hc⟩ : ∃ c, v.cells = c.toArray := ⟨v.cells.toList, by simp⟩
    have hcl : v.cells.size = c.length := by rw [hc]; simp
    have h2 : Array.foldl (fun (cs : Array Value) (x : Value × Nat) => cs.setIfInBounds (pre.length + x.2) x.1) (pre ++ rest).toArray v.cells.zipIdx = ((pre ++ c) ++ rest.drop c.length).toArray := by
      have hz : v.cells.zipIdx = (c.zipIdx 0).toArray := by rw [hc]; simp
      rw [hz, List.foldl_toArray, foldl_splice c pre.length 0 (pre ++ rest) (by rw [List.length_append]; omega)]
      congr 1
      rw [Nat.add_zero, List.take_left' rfl, ← List.drop_drop, List.drop_left' rfl]
    have h3 := fill_vals vs (i + 1) (pre ++ c) (rest.drop c.length) pl (fun j x hx => by
      have := hp (j + 1) x (by simpa [layOf, hcl] using hx)
      rw [show i + 1 + j = i + (j + 1) by omega]; exact this) (by rw [List.length_drop]; omega)
    rw [List.flatMap_cons, ← List.append_assoc, hc]
    simp only []
    rw [← h3]
    rw [hc] at h2
    exact congrArg (fun a => Instr.fill _ a _) h2
def layT (P : Program) (T : TypeId) : Option (Nat × List (Nat × Nat)) :=
  match P.info? T, P.underlying T with
  | some it, some (.struct fields) =>
    match it.zero, fields.toList.mapM (fun f => (P.info? f.type).map fun i => (f.offset, i.size)) with
    | some z, some places => some (z.cells.size, places)
    | _, _ => none
  | _, _ => none
theorem built_struct {P : Program} {T : TypeId} {m : Nat} {places : List (Nat × Nat)} (h : layT P T = some (m, places)) (vs : List Value) (hl : layOf 0 vs = places) (hm : (vs.map fun v => v.cells.size).sum = m) {cs : List Value} (hc : (vs.flatMap fun v => v.cells.toList) = cs) :
    P.built T ((vs.zipIdx 0).map fun x => (x.2, x.1)) = some cs.toArray := by
  subst hc
  unfold layT at h
  unfold Program.built
  cases hi : P.info? T with
  | none => rw [hi] at h; simp at h
  | some it =>
    cases hu : P.underlying T with
    | none => rw [hi, hu] at h; simp at h
    | some d =>
      rw [hi, hu] at h
      cases d <;> simp only [reduceCtorEq] at h
      rename_i fields
      simp only []
      cases hz : it.zero with
      | none => rw [hz] at h; simp at h
      | some z =>
        rw [hz] at h
        cases hp : fields.toList.mapM (fun f => (P.info? f.type).map fun i => (f.offset, i.size)) with
        | none => rw [hp] at h; simp at h
        | some pl =>
          rw [hp] at h
          simp only [Option.some.injEq, Prod.mk.injEq] at h
          obtain ⟨h1, h2⟩ := h
          simp only []
          subst h2
          have h3 := fill_vals vs 0 [] z.cells.toList (pl.toArray[·]?) (fun j x hx => by
            have : layOf 0 vs = pl := hl
            rw [List.length_nil, this] at hx
            simpa using hx) (by rw [hm, ← h1]; simp)
          rw [List.nil_append, List.nil_append, Array.toArray_toList] at h3
          exact h3
theorem Rd.pre {w : World} {a : Option Addr} {xs ys : List Value} (h : Rd w a (xs ++ ys)) : Rd w a xs := fun j x hj => h j x (by rw [List.getElem?_append_left (List.getElem?_eq_some_iff.1 hj).1]; exact hj)
theorem pair_len {a b : List UInt8} (ha : a.length = 32) (hb : b.length = 32) : (a.map vU8 ++ b.map vU8).length = 64 := by simp [ha, hb]
theorem pair_0 {a b : List UInt8} (ha : a.length = 32) : ((a.map vU8 ++ b.map vU8).drop 0).take 32 = a.map vU8 := by rw [List.drop_zero, List.take_left' (by simp [ha])]
theorem pair_32 {a b : List UInt8} (ha : a.length = 32) (hb : b.length = 32) : ((a.map vU8 ++ b.map vU8).drop 32).take 32 = b.map vU8 := by rw [List.drop_left' (by simp [ha]), List.take_of_length_le (by simp [hb])]
theorem pair_0' {a b : List UInt8} (ha : a.length = 32) : ((a.map vU8 ++ b.map vU8).drop 0).take a.length = a.map vU8 := by rw [ha]; exact pair_0 ha
theorem pair_32' {a b : List UInt8} (ha : a.length = 32) (hb : b.length = 32) : ((a.map vU8 ++ b.map vU8).drop 32).take b.length = b.map vU8 := by rw [hb]; exact pair_32 ha hb
theorem one_pair (a b : List UInt8) : ∀ v ∈ a.map vU8 ++ b.map vU8, v.oneCell' = true := by
  intro v hv
  rcases List.mem_append.1 hv with h | h <;> exact one_u8s _ v h
theorem built_pair {P : Program} {T : TypeId} (h : layT P T = some (64, [(0, 32), (32, 32)])) (a b : List UInt8) (ha : a.length = 32) (hb : b.length = 32) :
    P.built T [(0, .agg (a.map vU8).toArray), (1, .agg (b.map vU8).toArray)] = some (a.map vU8 ++ b.map vU8).toArray :=
  built_struct h [.agg (a.map vU8).toArray, .agg (b.map vU8).toArray] (by simp [layOf, Value.cells, ha, hb]) (by simp [Value.cells, ha, hb]) (by simp [Value.cells])
end Go.Sx
