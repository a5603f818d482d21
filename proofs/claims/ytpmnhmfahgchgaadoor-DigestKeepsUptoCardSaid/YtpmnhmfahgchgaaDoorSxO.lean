import Derived.Test.YtpmnhmfahgchgaaDoorSxN
import Derived.Test.YtpmnhmfahgchgaaDoorSxM
set_option linter.unusedVariables false
set_option linter.unusedSimpArgs false
namespace Go.Sx
section
variable {w0 w : World} {olds : List Nat} {l : List Ent}

theorem SW.beginM {P : Program} {n : Nat} {c : Code} {F : Fr} {Q : Po} {w : World} {olds : List Nat} {l : List Ent} (hm : Mem w olds l w) (h : SW P n c F (Mem w olds l) Q) : SW P n c F (· = w) Q :=
  fun a w' hf hw => by subst hw; exact h a w' hf hm

theorem Mem.argNe (hm : Mem w0 olds l w) {a : Option Addr} {xs : List Value} (hr : Rd w0 a xs) (hne : 0 < xs.length → ∀ b' o', a = some ⟨b', o', none⟩ → b' ∉ olds) {i j b : Nat} {o : Obj} {e : Ent} (hp : pick l i = some (b, o)) (hq : pick l j = e) :
    0 < xs.length → ∀ b' o', a = some ⟨b', o', none⟩ → b' ∉ b :: keys [e] := by
  intro hx b' o' ha hb
  have hlt := hr.lt ha hx
  have hno := hne hx b' o' ha
  have hk : b' ∈ keys l := by
    rcases List.mem_cons.1 hb with h | h
    · subst h; exact mem_keys (pick_mem hp)
    · obtain ⟨y, hy⟩ := keys_one h
      exact mem_keys (pick_mem (hq.trans hy))
  rcases hm.fresh b' hk with h | h
  · omega
  · exact hno h
theorem Mem.argNe0 (hm : Mem w0 [] l w) {a : Option Addr} {xs : List Value} (hr : Rd w0 a xs) {i j b : Nat} {o : Obj} {e : Ent} (hp : pick l i = some (b, o)) (hq : pick l j = e) :
    0 < xs.length → ∀ b' o', a = some ⟨b', o', none⟩ → b' ∉ b :: keys [e] := hm.argNe hr (fun _ _ _ _ h => by cases h) hp hq
theorem Mem.ownNe (hm : Mem w0 olds l w) {i j k b c : Nat} {o x : Obj} {e : Ent} (hk : pick l k = some (c, x)) (hp : pick l i = some (b, o)) (hq : pick l j = e) (hki : k ≠ i) (hkj : k ≠ j) {q : Nat} :
    ∀ b' o', (some ⟨c, q, none⟩ : Option Addr) = some ⟨b', o', none⟩ → b' ∉ b :: keys [e] := by
  intro b' o' ha hb
  simp only [Option.some.injEq, Addr.mk.injEq, and_true] at ha
  obtain ⟨rfl, _⟩ := ha
  rcases List.mem_cons.1 hb with h | h
  · exact hm.ne hk hp hki h
  · obtain ⟨y, hy⟩ := keys_one h
    exact hm.ne hk (hq.trans hy) hkj rfl
theorem Mem.rowNe (hm : Mem w0 olds l w) {i j k b n c size T : Nat} {a : Option Addr} {xs : List Value} {o : Obj} {e e' : Ent} (hr : RowE (.slice a n c) T size n xs e') (hk : pick l k = e') (hp : pick l i = some (b, o)) (hq : pick l j = e) (hki : k ≠ i) (hkj : k ≠ j) :
    ∀ b' o', a = some ⟨b', o', none⟩ → b' ∉ b :: keys [e] := by
  intro b' o' ha
  subst ha
  rcases hr.2 with ⟨h, _⟩ | ⟨c', cap, rest, h, _, _, _, h5⟩
  · simp at h
  · simp only [Value.slice.injEq, Option.some.injEq, Addr.mk.injEq, and_true] at h
    obtain ⟨⟨rfl, rfl⟩, _⟩ := h
    exact hm.ownNe (q := 0) (hk.trans h5) hp hq hki hkj _ 0 rfl
theorem Mem.cast (h : Mem w0 olds l w) {l' : List Ent} (e : l = l') : Mem w0 olds l' w := e ▸ h
/-- What was turned is as it was: nothing was turned. -/
theorem Mem.back {l' m : List Ent} (h : Mem w0 olds (m ++ l') w) (h0 : Mem w0 olds l' w0) (hk : ∀ b ∈ olds, b ∈ keys l') (hm : ∀ b ∈ keys m, b ∉ olds) : Mem w0 [] m w := by
  have hnd := h.nodup
  rw [keys_append] at hnd
  refine ⟨h.os, h.tape, h.output, h.size, fun k hk' _ => ?_, fun b o hy => h.own b o (by simp [hy]), (List.nodup_append.1 hnd).1, fun b hb => ?_⟩
  · by_cases hko : k ∈ olds
    · obtain ⟨o, ho⟩ := keys_mem (hk k hko)
      rw [h.own k o (by simp [ho]), h0.own k o ho]
    · exact h.keep k hk' hko
  · rcases h.fresh b (by rw [keys_append]; simp [hb]) with h1 | h1
    · exact .inl h1
    · exact absurd h1 (hm b hb)
theorem Mem.backKeys {l' : List Ent} {e : Ent} (h : Mem w0 (keys l') (e :: l') w) (h0 : Mem w0 (keys l') l' w0) : Mem w0 [] [e] w := by
  refine Mem.back (m := [e]) (l' := l') h h0 (fun _ h => h) fun b hb ho => ?_
  have hnd := h.nodup
  have h1 : keys (e :: l') = keys [e] ++ keys l' := keys_append [e] l'
  rw [h1] at hnd
  exact (List.nodup_append.1 hnd).2.2 b hb b ho rfl
end

section
variable {P : Program} {n : Nat} {F : Fr} {S : World → Prop} {ty : TypeId} {w0 : World} {olds : List Nat} {m : List Ent}
theorem ow_place {ops : Array Oper} {rest : List Oper} {Q : Po} (h : OW P n ops rest F (Mem w0 olds (none :: m)) Q) : OW P n ops rest F (Mem w0 olds m) Q :=
  fun a w hf hm => h a w hf hm.place
theorem sw_place {c : Code} {Q : Po} (h : SW P n c F (Mem w0 olds (none :: m)) Q) : SW P n c F (Mem w0 olds m) Q :=
  fun a w hf hm => h a w hf hm.place

/-- Two results, the first a row of its own. -/
theorem ow_call_row2 {ops : Array Oper} {t : Nat} {op : Op} {ps : String} {af : Array Edge} {rest : List Oper} {Q : Po} {f : FuncId} {args : Array Value} {E : TypeId} {size k : Nat} {xs : List Value} {x : Value}
    (hv : CallsTo P n F (Mem w0 olds m) op ty f args) (ht : Nat.blt t n = true)
    (hc : ∀ w, Mem w0 olds m w → Calls P f args w fun e w' => ∃ u, e = .returned u ∧ ∃ s e', u = .tuple #[s, x] ∧ RowE s E size k xs e' ∧ Mem w [] [e'] w')
    (h : ∀ a c e', RowE (.slice a k c) E size k xs e' → OW P n ops rest ((t, .tuple #[.slice a k c, x]) :: F) (Mem w0 olds (e' :: m)) Q) :
    OW P n ops (⟨some t, op, ty, ps, af, none⟩ :: rest) F (Mem w0 olds m) Q :=
  ow_call_new (fun u l' => ∃ s e', l' = [e'] ∧ u = .tuple #[s, x] ∧ RowE s E size k xs e') hv ht
    (fun w hm => (hc w hm).mono fun _ _ ⟨u, he, s, e', hu, hr, hm'⟩ => ⟨u, he, [e'], ⟨s, e', rfl, hu, hr⟩, hm'⟩)
    (fun u l' ⟨s, e', hl, hu, hr⟩ => by
      subst hl; subst hu
      obtain ⟨a, c, rfl, _⟩ := hr.slice
      exact h a c e' hr)
/-- The whole of an array's bytes, named. -/
theorem val_slice_array_hi' {T E : TypeId} {x y : Operand} {b o len m : Nat} {kl : IntKind} {i : Int} (k e : Nat) (hx : ev F x = some (.pointer (some ⟨b, o, none⟩))) (hy : ev F y = some (.int kl i)) (hT : P.underlying T = some (.array len E))
    (hS : ∀ w, (sizeOf E).run P w = .ok m w) (hi : i = (k : Int)) (hk : k ≤ len) (he : o = e) : Val P n F S (.slice T x none (some y) none) ty (.slice (some ⟨b, e, none⟩) k len) := by
  subst he; exact val_slice_array_hi k hx hy hT hS hi hk
/-- A byte of a constant string. -/
theorem val_index_string {T : TypeId} {x y : Operand} {s : ByteArray} {k' : IntKind} {i : Int} {v : UInt8} (k : Nat) (hx : ev F x = some (.string s)) (hy : ev F y = some (.int k' i)) (hT : P.underlying T = some .string)
    (hi : i = (k : Int)) (hk : s.data[k]? = some v) : Val P n F S (.index T x y) ty (vU8 v) := by
  intro a w hf hw d ps af g
  obtain ⟨hks, hv⟩ := Array.getElem?_eq_some_iff.1 hk
  subst hi
  have hks' : k < s.size := hks
  simp [execOp, ev_eval hf hx, ev_eval hf hy, Instr.index, asIntOf, run_underlying hT, asString, hks']
  simp [vU8, ← hv]
  rfl

end

/-! Parts of lists of structures. -/
theorem flatMap_part {α : Type} {cells : α → List Value} {n : Nat} : ∀ (l : List α), (∀ x ∈ l, (cells x).length = n) → ∀ (i : Nat) (x : α), l[i]? = some x → ((l.flatMap cells).drop (i * n)).take n = cells x
  | [], _, i, x, h => by simp at h
  | y :: r, hl, 0, x, h => by
    have hy := hl y (by simp)
    simp at h; subst h
    rw [List.flatMap_cons, Nat.zero_mul, List.drop_zero, List.take_append_of_le_length (by omega), List.take_of_length_le (by omega)]
  | y :: r, hl, i + 1, x, h => by
    have hy := hl y (by simp)
    rw [List.flatMap_cons, Nat.succ_mul, Nat.add_comm, ← List.drop_drop, List.drop_left' hy]
    exact flatMap_part r (fun z hz => hl z (by simp [hz])) i x (by simpa using h)
theorem flatMap_one {α : Type} (V : α → Value) (l : List α) : (l.flatMap fun x => [V x]) = l.map V := by
  induction l with
  | nil => rfl
  | cons x r ih => rw [List.flatMap_cons, ih]; rfl
theorem flatMap_size {α : Type} {cells : α → List Value} {n : Nat} (l : List α) (hl : ∀ x ∈ l, (cells x).length = n) : (l.flatMap cells).length = l.length * n := by
  induction l with
  | nil => simp
  | cons x r ih =>
    rw [List.flatMap_cons, List.length_append, hl x (by simp), ih (fun z hz => hl z (by simp [hz])), List.length_cons, Nat.succ_mul, Nat.add_comm]
/-- The cells of the element i of a list of structures. -/
theorem Rd.part {α : Type} {cells : α → List Value} {n : Nat} {w : World} {b o : Nat} {l : List α} (h : Rd w (some ⟨b, o, none⟩) (l.flatMap cells)) (hl : ∀ x ∈ l, (cells x).length = n) {i : Nat} {x : α} (hi : l[i]? = some x) :
    Rd w (some ⟨b, o + i * n, none⟩) (cells x) :=
  h.sub (i * n) (by rw [hl x (List.mem_of_getElem? hi)]; exact flatMap_part l hl i x hi)
theorem Rd.memO {w0 w : World} {l : List Ent} {olds : List Nat} {a : Option Addr} {xs : List Value} (h : Rd w0 a xs) (hm : Mem w0 olds l w) (ho : 0 < xs.length → ∀ b o, a = some ⟨b, o, none⟩ → b ∉ olds) : Rd w a xs := by
  cases xs with
  | nil => exact Rd.nil _ _
  | cons x r => exact h.memOlds hm (ho (by simp))
theorem Rd.castR {w : World} {a : Option Addr} {xs ys : List Value} (h : Rd w a xs) (e : xs = ys) : Rd w a ys := e ▸ h
theorem Rd.ownP {α : Type} {V : α → Value} {p : List α} {w0 w : World} {l : List Ent} {olds : List Nat} {i b : Nat} {ys : List Value} {T : TypeId} (o : Nat) (hm : Mem w0 olds l w) (hp : pick l i = some (b, Sx.blk ys T)) (hx : (ys.drop o).take p.length = p.map V) : Rd w (some ⟨b, o, none⟩) (p.map V) :=
  Rd.own hm hp (by rw [List.length_map]; exact hx)
theorem Rd.all {w : World} {b o : Nat} {cs : List Value} (h : Rd w (some ⟨b, o, none⟩) cs) : ∀ j v, cs[j]? = some v → w.cell? ⟨b, o + j, none⟩ = some v := fun _ _ hj => h.cell hj
/-! Lists of aggregates, laid. -/
theorem foldl_splice : ∀ (vs : List Value) (off k : Nat) (A : List Value), off + k + vs.length ≤ A.length →
    (vs.zipIdx k).foldl (fun (cs : Array Value) (x : Value × Nat) => cs.setIfInBounds (off + x.2) x.1) A.toArray = (A.take (off + k) ++ vs ++ A.drop (off + k + vs.length)).toArray
  | [], off, k, A, h => by simp
  | v :: vs, off, k, A, h => by
    simp only [List.length_cons] at h
    have hset : A.toArray.setIfInBounds (off + k) v = (A.set (off + k) v).toArray := by simp
    rw [List.zipIdx_cons, List.foldl_cons, hset, foldl_splice vs off (k + 1) (A.set (off + k) v) (by simp; omega)]
    congr 1
    have h1 := splice_set A v vs (off + k) (by omega)
    rw [show off + (k + 1) = off + k + 1 by omega, show off + k + 1 + vs.length = off + k + (vs.length + 1) by omega]
    rw [← h1, List.length_cons]
theorem fill_parts {size : Nat} : ∀ (parts : List (List Value)) (i : Nat) (pre rest : List Value), (∀ c ∈ parts, c.length = size) → pre.length = i * size → rest.length = parts.length * size →
    Instr.fill (fun i => some (i * size, size)) (pre ++ rest).toArray ((parts.zipIdx i).map fun x => (x.2, Value.agg x.1.toArray)) = some (pre ++ parts.flatten).toArray
  | [], i, pre, rest, _, _, hr => by
    have : rest = [] := List.length_eq_zero_iff.1 (by simpa using hr)
    subst this
    simp [Instr.fill]
  | c :: cs, i, pre, rest, hc, hp, hr => by
    have hcl := hc c (by simp)
    rw [List.length_cons, Nat.succ_mul] at hr
    rw [List.zipIdx_cons, List.map_cons, Instr.fill]
    have h1 : (Value.agg c.toArray).cells = c.toArray := rfl
    simp only [h1, List.size_toArray, hcl]
    have hle : ¬ (i * size + size > (pre ++ rest).length) := by rw [List.length_append, hp]; omega
    simp only [ne_eq, not_true, decide_false, hle, Bool.or_self, Bool.false_eq_true, if_false]
    have h2 : Array.foldl (fun (cs : Array Value) (x : Value × Nat) => cs.setIfInBounds (i * size + x.2) x.1) (pre ++ rest).toArray c.toArray.zipIdx = ((pre ++ c) ++ rest.drop size).toArray := by
      have hz : c.toArray.zipIdx = (c.zipIdx 0).toArray := by simp
      rw [hz, List.foldl_toArray, foldl_splice c (i * size) 0 (pre ++ rest) (by rw [List.length_append, hp, hcl]; omega)]
      congr 1
      rw [Nat.add_zero, ← hp, List.take_left', hcl, ← List.drop_drop, List.drop_left']
      · rfl
      · rfl
    have h3 := fill_parts cs (i + 1) (pre ++ c) (rest.drop size) (fun x hx => hc x (by simp [hx])) (by rw [List.length_append, hp, hcl, Nat.succ_mul]) (by rw [List.length_drop]; omega)
    rw [List.flatten_cons, ← List.append_assoc, ← h3]
    exact congrArg (fun a => Instr.fill _ a _) h2
/-- A list of aggregates out of its parts. -/
theorem fill_aggs {size len : Nat} {z : Value} (parts : List (List Value)) (hz : 0 < z.cells.size) (hl : parts.length = len) (hc : ∀ c ∈ parts, c.length = size) :
    Instr.fill (fun i => some (i * size, size)) ((Array.range (len * size)).map ((if len * size = 0 then #[] else z.cells)[· % (if len * size = 0 then #[] else z.cells).size]!)) ((parts.zipIdx 0).map fun x => (x.2, Value.agg x.1.toArray)) = some parts.flatten.toArray := by
  subst hl
  have h := fill_parts parts 0 [] ((Array.range (parts.length * size)).map ((if parts.length * size = 0 then #[] else z.cells)[· % (if parts.length * size = 0 then #[] else z.cells).size]!)).toList hc (by simp) (by simp)
  rw [List.nil_append, List.nil_append, Array.toArray_toList] at h
  exact h

section
variable {P : Program} {n : Nat} {F : Fr} {S : World → Prop} {ty : TypeId}
/-- An element of a list of structures, loaded whole. -/
theorem val_load_elem {α : Type} [Inhabited α] {T : TypeId} {x : Operand} {b o e m i : Nat} {cells : α → List Value} {l : List α} (hx : ev F x = some (.pointer (some ⟨b, e, none⟩))) (hA : ∀ w, (isAgg T).run P w = .ok true w) (hS : ∀ w, (sizeOf T).run P w = .ok m w)
    (hl : ∀ x ∈ l, (cells x).length = m) (hi : i < l.length) (he : o + i * m = e) (hrd : ∀ w, S w → Rd w (some ⟨b, o, none⟩) (l.flatMap cells)) : Val P n F S (.load T x) ty (.agg (cells (l.getD i default)).toArray) := by
  subst he
  have h1 : l[i]? = some (l.getD i default) := by simp [List.getD_eq_getElem?_getD, hi]
  exact val_load_agg hx hA hS (hl _ (List.mem_of_getElem? h1)) (fun w hw j v hj => ((hrd w hw).part hl h1).cell hj)
end
end Go.Sx
