import Derived.Test.YtpmnhmfahgchgaaDoorSxD
set_option linter.unusedVariables false
set_option linter.unusedSimpArgs false
namespace Go.Sx

/-- An entry: a block and what it holds, or nothing. -/
abbrev Ent := Option (Nat × Obj)
def keys (l : List Ent) : List Nat := l.filterMap (·.map Prod.fst)

/-- What is known of the memory: blocks below w0's size are as in w0 but for those of olds; the blocks of l hold what l says. -/
structure Mem (w0 : World) (olds : List Nat) (l : List Ent) (w : World) : Prop where
  os : w.os = w0.os
  tape : w.tape = w0.tape
  output : w.output = w0.output
  size : w0.heap.size ≤ w.heap.size
  keep : ∀ k, k < w0.heap.size → k ∉ olds → w.heap[k]? = w0.heap[k]?
  own : ∀ b o, some (b, o) ∈ l → w.heap[b]? = some o
  nodup : (keys l).Nodup
  fresh : ∀ b ∈ keys l, w0.heap.size ≤ b ∨ b ∈ olds

def pick : List Ent → Nat → Ent
  | [], _ => none
  | x :: _, 0 => x
  | _ :: r, i + 1 => pick r i
def upd : List Ent → Nat → Ent → List Ent
  | [], _, _ => []
  | _ :: r, 0, o => o :: r
  | x :: r, i + 1, o => x :: upd r i o

theorem pick_mem : ∀ {l : List Ent} {i : Nat} {x : Nat × Obj}, pick l i = some x → some x ∈ l
  | [], i, x, h => by simp [pick] at h
  | y :: r, 0, x, h => by simp [pick] at h; subst h; exact .head _
  | y :: r, i + 1, x, h => .tail _ (pick_mem (by simpa [pick] using h))
theorem mem_keys {l : List Ent} {b : Nat} {o : Obj} (h : some (b, o) ∈ l) : b ∈ keys l := List.mem_filterMap.2 ⟨_, h, rfl⟩
theorem keys_mem {l : List Ent} {b : Nat} (h : b ∈ keys l) : ∃ o, some (b, o) ∈ l := by
  obtain ⟨e, he, h2⟩ := List.mem_filterMap.1 h
  cases e with
  | none => simp at h2
  | some x => simp at h2; subst h2; exact ⟨x.2, he⟩
theorem keys_cons_none (l : List Ent) : keys (none :: l) = keys l := by simp [keys]
theorem keys_cons_some (x : Nat × Obj) (l : List Ent) : keys (some x :: l) = x.1 :: keys l := by simp [keys]
theorem keys_append (l l' : List Ent) : keys (l ++ l') = keys l ++ keys l' := by simp [keys]

/-- Behind an update of the entry i, which held the block b or nothing: those that are left are of other blocks than b. -/
theorem upd_mem : ∀ {l : List Ent} {i : Nat} {e : Ent}, (keys l).Nodup → ∀ y ∈ upd l i e, y = e ∨ (y ∈ l ∧ ∀ b o b' o', y = some (b, o) → pick l i = some (b', o') → b ≠ b')
  | [], i, e, _, y, hy => by simp [upd] at hy
  | z :: r, 0, e, hn, y, hy => by
    simp only [upd, List.mem_cons] at hy
    rcases hy with rfl | hy
    · exact .inl rfl
    · refine .inr ⟨.tail _ hy, fun b o b' o' e1 e2 eb => ?_⟩
      subst e1; simp only [pick] at e2; subst e2; subst eb
      rw [keys_cons_some, List.nodup_cons] at hn
      exact hn.1 (mem_keys hy)
  | z :: r, i + 1, e, hn, y, hy => by
    simp only [upd, List.mem_cons] at hy
    have hn' : (keys r).Nodup := by
      cases z with
      | none => rwa [keys_cons_none] at hn
      | some x => rw [keys_cons_some, List.nodup_cons] at hn; exact hn.2
    rcases hy with rfl | hy
    · refine .inr ⟨.head _, fun b o b' o' e1 e2 eb => ?_⟩
      subst e1; subst eb
      rw [keys_cons_some, List.nodup_cons] at hn
      exact hn.1 (mem_keys (pick_mem (by simpa [pick] using e2)))
    · rcases upd_mem hn' y hy with h1 | ⟨h1, h2⟩
      · exact .inl h1
      · exact .inr ⟨.tail _ h1, fun b o b' o' e1 e2 => h2 b o b' o' e1 (by simpa [pick] using e2)⟩

/-- The keys behind an update. -/
theorem keys_upd : ∀ (l : List Ent) (i : Nat) (e : Ent), ∀ b ∈ keys (upd l i e), b ∈ keys l ∨ (∃ o, e = some (b, o))
  | [], i, e, b, hb => by simp [upd, keys] at hb
  | z :: r, 0, e, b, hb => by
    obtain ⟨o, ho⟩ := keys_mem hb
    simp only [upd, List.mem_cons] at ho
    rcases ho with h | h
    · exact .inr ⟨o, h.symm⟩
    · exact .inl (mem_keys (List.mem_cons_of_mem _ h))
  | z :: r, i + 1, e, b, hb => by
    obtain ⟨o, ho⟩ := keys_mem hb
    simp only [upd, List.mem_cons] at ho
    rcases ho with h | h
    · exact .inl (mem_keys (by rw [h]; exact .head _))
    · rcases keys_upd r i e b (mem_keys h) with h1 | h1
      · obtain ⟨o', h1⟩ := keys_mem h1; exact .inl (mem_keys (List.mem_cons_of_mem _ h1))
      · exact .inr h1

theorem nodup_upd : ∀ (l : List Ent) (i : Nat) (e : Ent), (keys l).Nodup → (∀ b o, e = some (b, o) → b ∉ keys l ∨ ∃ o', pick l i = some (b, o')) → (keys (upd l i e)).Nodup
  | [], i, e, _, _ => by simp [upd, keys]
  | z :: r, 0, e, hn, he => by
    have hn' : (keys r).Nodup := by
      cases z with
      | none => rwa [keys_cons_none] at hn
      | some x => rw [keys_cons_some, List.nodup_cons] at hn; exact hn.2
    cases e with
    | none => rw [upd, keys_cons_none]; exact hn'
    | some x =>
      rw [upd, keys_cons_some, List.nodup_cons]
      refine ⟨fun hx => ?_, hn'⟩
      rcases he x.1 x.2 rfl with h | ⟨o', h⟩
      · obtain ⟨o, ho⟩ := keys_mem hx
        exact h (mem_keys (List.mem_cons_of_mem _ ho))
      · simp only [pick] at h; subst h
        rw [keys_cons_some, List.nodup_cons] at hn
        exact hn.1 hx
  | z :: r, i + 1, e, hn, he => by
    cases z with
    | none =>
      rw [keys_cons_none] at hn
      rw [upd, keys_cons_none]
      exact nodup_upd r i e hn (fun b o h => by simpa [keys_cons_none, pick] using he b o h)
    | some x =>
      rw [keys_cons_some, List.nodup_cons] at hn
      rw [upd, keys_cons_some, List.nodup_cons]
      refine ⟨fun hx => ?_, nodup_upd r i e hn.2 (fun b o h => ?_)⟩
      · rcases keys_upd r i e _ hx with h1 | ⟨o, h1⟩
        · exact hn.1 h1
        · rcases he _ o h1 with h2 | ⟨o', h2⟩
          · exact h2 (by rw [keys_cons_some]; exact .head _)
          · simp only [pick] at h2; exact hn.1 (mem_keys (pick_mem h2))
      · rcases he b o h with h2 | ⟨o', h2⟩
        · exact .inl (fun hb => h2 (by rw [keys_cons_some]; exact .tail _ hb))
        · exact .inr ⟨o', by simpa [pick] using h2⟩

section
variable {w0 w : World} {olds : List Nat} {l : List Ent}

theorem Mem.refl (w : World) : Mem w [] [] w := ⟨rfl, rfl, rfl, Nat.le_refl _, fun _ _ _ => rfl, (fun _ _ h => nomatch h), by simp [keys], (fun _ h => nomatch h)⟩

theorem Mem.lt (h : Mem w0 olds l w) {b : Nat} (hx : b ∈ keys l) : b < w.heap.size := by
  obtain ⟨o, ho⟩ := keys_mem hx
  exact (Array.getElem?_eq_some_iff.1 (h.own b o ho)).1
theorem Mem.at (h : Mem w0 olds l w) {i b : Nat} {o : Obj} (hp : pick l i = some (b, o)) : w.heap[b]? = some o := h.own b o (pick_mem hp)

/-- Only the draws' count has turned. -/
theorem Mem.drawn (h : Mem w0 olds l w) (k : Nat) : Mem w0 olds l { w with drawn := k } := ⟨h.os, h.tape, h.output, h.size, h.keep, h.own, h.nodup, h.fresh⟩

/-- A world that differs from w in the block b alone, of those that are known; b stood at i. -/
theorem Mem.put (h : Mem w0 olds l w) {i b : Nat} {o o' : Obj} (hp : pick l i = some (b, o)) {w' : World} (hos : w'.os = w.os) (htape : w'.tape = w.tape) (hout : w'.output = w.output)
    (hsize : w.heap.size ≤ w'.heap.size) (hb : w'.heap[b]? = some o') (hoth : ∀ k, k < w.heap.size → k ≠ b → w'.heap[k]? = w.heap[k]?) : Mem w0 olds (upd l i (some (b, o'))) w' := by
  have hm := pick_mem hp
  refine ⟨hos.trans h.os, htape.trans h.tape, hout.trans h.output, Nat.le_trans h.size hsize, fun k hk hko => ?_, fun c x hy => ?_, nodup_upd l i _ h.nodup (fun c x e => ?_), fun c hc => ?_⟩
  · have hkb : k ≠ b := fun e => by
      subst e
      rcases h.fresh _ (mem_keys hm) with h1 | h1
      · omega
      · exact hko h1
    have := h.size
    rw [hoth k (by omega) hkb]; exact h.keep k hk hko
  · rcases upd_mem h.nodup _ hy with e | ⟨h1, h2⟩
    · simp only [Option.some.injEq, Prod.mk.injEq] at e; obtain ⟨rfl, rfl⟩ := e; exact hb
    · rw [hoth _ (h.lt (mem_keys h1)) (h2 c x b o rfl hp)]; exact h.own c x h1
  · simp only [Option.some.injEq, Prod.mk.injEq] at e; obtain ⟨rfl, rfl⟩ := e; exact .inr ⟨o, hp⟩
  · rcases keys_upd l i _ c hc with h1 | ⟨x, e⟩
    · exact h.fresh c h1
    · simp only [Option.some.injEq, Prod.mk.injEq] at e; obtain ⟨rfl, rfl⟩ := e; exact h.fresh _ (mem_keys hm)

/-- A new block in the place of the entry i. -/
theorem Mem.renew (h : Mem w0 olds l w) (i : Nat) {b : Nat} {o' : Obj} {w' : World} (hos : w'.os = w.os) (htape : w'.tape = w.tape) (hout : w'.output = w.output)
    (hsize : w.heap.size ≤ w'.heap.size) (hbn : w.heap.size ≤ b) (hb : w'.heap[b]? = some o') (hoth : ∀ k, k < w.heap.size → w'.heap[k]? = w.heap[k]?) : Mem w0 olds (upd l i (some (b, o'))) w' := by
  refine ⟨hos.trans h.os, htape.trans h.tape, hout.trans h.output, Nat.le_trans h.size hsize, fun k hk hko => ?_, fun c x hy => ?_, nodup_upd l i _ h.nodup (fun c x e => ?_), fun c hc => ?_⟩
  · have := h.size
    rw [hoth k (by omega)]; exact h.keep k hk hko
  · rcases upd_mem h.nodup _ hy with e | ⟨h1, h2⟩
    · simp only [Option.some.injEq, Prod.mk.injEq] at e; obtain ⟨rfl, rfl⟩ := e; exact hb
    · rw [hoth _ (h.lt (mem_keys h1))]; exact h.own c x h1
  · simp only [Option.some.injEq, Prod.mk.injEq] at e; obtain ⟨rfl, rfl⟩ := e
    exact .inl fun hk => by have := h.lt hk; omega
  · rcases keys_upd l i _ c hc with h1 | ⟨x, e⟩
    · exact h.fresh c h1
    · simp only [Option.some.injEq, Prod.mk.injEq] at e; obtain ⟨rfl, rfl⟩ := e; have := h.size; exact .inl (by omega)

/-- A new block. -/
theorem Mem.alloc (h : Mem w0 olds l w) (o : Obj) : Mem w0 olds (some (w.heap.size, o) :: l) (w.alloc o) := by
  refine ⟨h.os, h.tape, h.output, by simp; have := h.size; omega, fun k hk hko => ?_, fun b x hy => ?_, ?_, fun b hb => ?_⟩
  · have := h.size
    rw [RowKit.Below.heap_alloc w o k (by omega)]; exact h.keep k hk hko
  · rcases List.mem_cons.1 hy with e | hy
    · simp only [Option.some.injEq, Prod.mk.injEq] at e; obtain ⟨rfl, rfl⟩ := e; exact heap_alloc_new w _
    · rw [RowKit.Below.heap_alloc w o _ (h.lt (mem_keys hy))]; exact h.own b x hy
  · rw [keys_cons_some, List.nodup_cons]
    exact ⟨fun hm => by have := h.lt hm; simp at this, h.nodup⟩
  · rw [keys_cons_some] at hb
    rcases List.mem_cons.1 hb with rfl | hb
    · exact .inl h.size
    · exact h.fresh b hb

/-- Blocks made anew may be forgotten. -/
theorem Mem.forget {x : Ent} (h : Mem w0 olds (x :: l) w) : Mem w0 olds l w :=
  ⟨h.os, h.tape, h.output, h.size, h.keep, fun b o hy => h.own b o (.tail _ hy), by
    have := h.nodup
    cases x with
    | none => rwa [keys_cons_none] at this
    | some x => rw [keys_cons_some, List.nodup_cons] at this; exact this.2, fun b hb => h.fresh b (by
      obtain ⟨o, ho⟩ := keys_mem hb; exact mem_keys (List.mem_cons_of_mem _ ho))⟩
theorem Mem.forgetAll (h : Mem w0 olds l w) : Mem w0 olds [] w :=
  ⟨h.os, h.tape, h.output, h.size, h.keep, (fun _ _ h => nomatch h), by simp [keys], (fun _ h => nomatch h)⟩
/-- The entries at some places, in their order. -/
theorem Mem.only (h : Mem w0 olds l w) {l' : List Ent} (hs : l'.Sublist l) : Mem w0 olds l' w :=
  ⟨h.os, h.tape, h.output, h.size, h.keep, fun b o hy => h.own b o (hs.subset hy), h.nodup.sublist (List.Sublist.filterMap _ hs), fun b hb => h.fresh b ((List.Sublist.filterMap _ hs).subset hb)⟩
/-- A place for a block that is not there yet. -/
theorem Mem.place (h : Mem w0 olds l w) : Mem w0 olds (none :: l) w :=
  ⟨h.os, h.tape, h.output, h.size, h.keep, fun b o hy => by rcases List.mem_cons.1 hy with e | hy; cases e; exact h.own b o hy, by rw [keys_cons_none]; exact h.nodup, by rw [keys_cons_none]; exact h.fresh⟩
theorem Mem.perm (h : Mem w0 olds l w) {l' : List Ent} (hp : l'.Perm l) : Mem w0 olds l' w :=
  ⟨h.os, h.tape, h.output, h.size, h.keep, fun b o hy => h.own b o (hp.subset hy), (hp.filterMap _).nodup_iff.2 h.nodup, fun b hb => h.fresh b ((hp.filterMap _).subset hb)⟩

/-- A callee that only made memory of its own. -/
theorem Mem.call (h : Mem w0 olds l w) {l' : List Ent} {w' : World} (h' : Mem w [] l' w') : Mem w0 olds (l' ++ l) w' := by
  refine ⟨h'.os.trans h.os, h'.tape.trans h.tape, h'.output.trans h.output, Nat.le_trans h.size h'.size, fun k hk hko => ?_, fun b o hy => ?_, ?_, fun b hb => ?_⟩
  · have := h.size
    rw [h'.keep k (by omega) (by simp)]; exact h.keep k hk hko
  · rcases List.mem_append.1 hy with hy | hy
    · exact h'.own b o hy
    · rw [h'.keep _ (h.lt (mem_keys hy)) (by simp)]; exact h.own b o hy
  · rw [keys_append, List.nodup_append]
    refine ⟨h'.nodup, h.nodup, fun a ha b hb e => ?_⟩
    subst e
    have h1 := h.lt hb
    rcases h'.fresh a ha with h2 | h2
    · omega
    · simp at h2
  · rw [keys_append] at hb
    rcases List.mem_append.1 hb with hb | hb
    · rcases h'.fresh b hb with h2 | h2
      · have := h.size; exact .inl (by omega)
      · simp at h2
    · exact h.fresh b hb
theorem Mem.call0 (h : Mem w0 olds l w) {w' : World} (h' : Mem w [] [] w') : Mem w0 olds l w' := h.call h'

/-- A callee that turned the block at i, and made memory of its own besides. -/
theorem Mem.callUpd (h : Mem w0 olds l w) {i b : Nat} {o o' : Obj} (hp : pick l i = some (b, o)) {w' : World} (h' : Mem w [b] [some (b, o')] w') : Mem w0 olds (upd l i (some (b, o'))) w' :=
  h.put hp h'.os h'.tape h'.output h'.size (h'.own b o' (.head _)) (fun k hk hkb => h'.keep k hk (by simpa using hkb))

/-- A block of the beginning that nobody turned. -/
theorem Mem.old (h : Mem w0 olds l w) {k : Nat} (hk : k < w0.heap.size) (ho : k ∉ olds) : w.heap[k]? = w0.heap[k]? := h.keep k hk ho
theorem Mem.cell (h : Mem w0 olds l w) {a : Addr} (hk : a.block < w0.heap.size) (ho : a.block ∉ olds) : w.cell? a = w0.cell? a := World.cell?_of_block (h.keep _ hk ho)
theorem Mem.cell_some (h : Mem w0 [] l w) {a : Addr} {v : Value} (ha : w0.cell? a = some v) : w.cell? a = some v :=
  (h.cell (World.block_lt_of_cell? _ _ ha) (by simp)).trans ha
theorem Mem.below (h : Mem w0 [] l w) : RowKit.Below w0.heap.size w0 w := ⟨h.os, h.tape, h.output, h.size, fun k hk => h.keep k hk (by simp)⟩

/-- Begin anew from the world at hand: these blocks may be written. -/
theorem Mem.start (h : Mem w0 olds l w) : Mem w (keys l) l w := ⟨rfl, rfl, rfl, Nat.le_refl _, fun _ _ _ => rfl, h.own, h.nodup, fun _ hx => .inr hx⟩

/-- A method's beginning: the receiver's block is known, and may be written. -/
theorem Mem.recv {b : Nat} {o : Obj} (h : w.heap[b]? = some o) : Mem w [b] [some (b, o)] w :=
  ⟨rfl, rfl, rfl, Nat.le_refl _, fun _ _ _ => rfl, fun c x hx => by simp at hx; obtain ⟨rfl, rfl⟩ := hx; exact h, by simp [keys], fun c hc => by simp [keys] at hc; subst hc; simp⟩
end

/-- A block of cells. -/
def blk (xs : List Value) (T : TypeId) : Obj := .cells xs.toArray T (0, 0)

theorem cell_of_blk {w : World} {b k : Nat} {xs : List Value} {T : TypeId} (h : w.heap[b]? = some (blk xs T)) : w.cell? ⟨b, k, none⟩ = xs[k]? := by
  rw [cell_of_row w b k _ T (0, 0) h]; simp
theorem Mem.cellAt {w0 w : World} {olds : List Nat} {l : List Ent} (h : Mem w0 olds l w) {i b k : Nat} {xs : List Value} {T : TypeId} (hp : pick l i = some (b, blk xs T)) : w.cell? ⟨b, k, none⟩ = xs[k]? :=
  cell_of_blk (h.at hp)

theorem add_none (b o k : Nat) : (⟨b, o, none⟩ : Addr).add k = ⟨b, o + k, none⟩ := by
  unfold Addr.add; split
  · rename_i h; subst h; rfl
  · rfl

section
variable {P : Program} {n : Nat} {F : Fr} {S : World → Prop} {ty : TypeId}

/-! Loads. -/
theorem loadVar_one {T : TypeId} {a : Addr} {v : Value} {w : World} (hA : (isAgg T).run P w = .ok false w) (hc : w.cell? a = some v) : (loadVar T a).run P w = .ok v w := by
  simp only [loadVar, Sem.run_bind, hA, Result.andThen_ok, Bool.false_eq_true, if_false, run_load, hc]

theorem loadVar_agg {T : TypeId} {b o m : Nat} {cs : List Value} {w : World} (hA : (isAgg T).run P w = .ok true w) (hS : (sizeOf T).run P w = .ok m w)
    (hl : cs.length = m) (hc : ∀ j v, cs[j]? = some v → w.cell? ⟨b, o + j, none⟩ = some v) : (loadVar T ⟨b, o, none⟩).run P w = .ok (.agg cs.toArray) w := by
  have h1 : (loadCells ⟨b, o, none⟩ m).run P w = .ok cs.toArray w := by
    rw [← hl]
    exact run_loadCells_list w _ cs (fun j v hj => by rw [add_none]; exact hc j v hj)
  simp only [loadVar, Sem.run_bind, hA, Result.andThen_ok, if_true, hS, h1, Sem.run_pure]

/-- A load of one cell that is known. -/
theorem val_load {T : TypeId} {x : Operand} {a : Addr} {v : Value} (hx : ev F x = some (.pointer (some a))) (hA : ∀ w, (isAgg T).run P w = .ok false w) (hc : ∀ w, S w → w.cell? a = some v) :
    Val P n F S (.load T x) ty v := fun s w hf hs d ps af g => by
  simp only [execOp, ev_eval hf hx, Instr.loadAt, Instr.sureAddr, Sem.run_bind, Sem.run_pure, Result.andThen_ok, loadVar_one (hA w) (hc w hs)]

/-- Out of a known block. -/
theorem val_load_at {T U : TypeId} {x : Operand} {b k : Nat} {v : Value} {w0 : World} {olds : List Nat} {l : List Ent} {xs : List Value} (i : Nat) (hx : ev F x = some (.pointer (some ⟨b, k, none⟩)))
    (hp : pick l i = some (b, blk xs U)) (hA : ∀ w, (isAgg T).run P w = .ok false w) (hv : xs[k]? = some v) :
    Val P n F (Mem w0 olds l) (.load T x) ty v := val_load hx hA fun w h => (h.cellAt hp).trans hv

theorem val_load_agg {T : TypeId} {x : Operand} {b o m : Nat} {cs : List Value} (hx : ev F x = some (.pointer (some ⟨b, o, none⟩))) (hA : ∀ w, (isAgg T).run P w = .ok true w) (hS : ∀ w, (sizeOf T).run P w = .ok m w)
    (hl : cs.length = m) (hc : ∀ w, S w → ∀ j v, cs[j]? = some v → w.cell? ⟨b, o + j, none⟩ = some v) :
    Val P n F S (.load T x) ty (.agg cs.toArray) := fun s w hf hs d ps af g => by
  simp only [execOp, ev_eval hf hx, Instr.loadAt, Instr.sureAddr, Sem.run_bind, Sem.run_pure, Result.andThen_ok, loadVar_agg (hA w) (hS w) hl (hc w hs)]

/-- A part of a known block. -/
theorem val_load_part {T U : TypeId} {x : Operand} {b o m : Nat} {w0 : World} {olds : List Nat} {l : List Ent} {xs cs : List Value} (i : Nat) (hx : ev F x = some (.pointer (some ⟨b, o, none⟩)))
    (hp : pick l i = some (b, blk xs U)) (hA : ∀ w, (isAgg T).run P w = .ok true w) (hS : ∀ w, (sizeOf T).run P w = .ok m w)
    (hl : cs.length = m) (hc : (xs.drop o).take m = cs) : Val P n F (Mem w0 olds l) (.load T x) ty (.agg cs.toArray) :=
  val_load_agg hx hA hS hl fun w h j v hj => by
    rw [h.cellAt hp]
    rw [← hc, List.getElem?_take] at hj
    split at hj
    · rw [List.getElem?_drop] at hj; exact hj
    · cases hj
/-- A whole known block. -/
theorem val_load_all {T U : TypeId} {x : Operand} {b m : Nat} {w0 : World} {olds : List Nat} {l : List Ent} {xs : List Value} (i : Nat) (hx : ev F x = some (.pointer (some ⟨b, 0, none⟩)))
    (hp : pick l i = some (b, blk xs U)) (hA : ∀ w, (isAgg T).run P w = .ok true w) (hS : ∀ w, (sizeOf T).run P w = .ok m w)
    (hl : xs.length = m) : Val P n F (Mem w0 olds l) (.load T x) ty (.agg xs.toArray) :=
  val_load_part i hx hp hA hS hl (by simp [← hl])

/-! New blocks. -/
theorem acts_box {T : TypeId} {x : Operand} {v : Value} {w0 : World} {olds : List Nat} {l : List Ent} (hx : ev F x = some v) :
    Acts P n F (Mem w0 olds l) (.box T x) ty (fun w u w' => u = .pointer (some ⟨w.heap.size, 0, none⟩) ∧ Mem w0 olds (some (w.heap.size, blk v.cells.toList T) :: l) w') :=
  fun s w hf hm d ps af g => ⟨_, w.alloc (.cells v.cells T), by simp [execOp, ev_eval hf hx, Instr.box, newVar, newRow], rfl, by have := hm.alloc (blk v.cells.toList T); simpa [blk] using this⟩

theorem acts_alloc {T : TypeId} {z : Value} {w0 : World} {olds : List Nat} {l : List Ent} (hz : ∀ w, (zeroValue T).run P w = .ok z w) :
    Acts P n F (Mem w0 olds l) (.alloc T) ty (fun w u w' => u = .pointer (some ⟨w.heap.size, 0, none⟩) ∧ Mem w0 olds (some (w.heap.size, blk z.cells.toList T) :: l) w') :=
  fun s w hf hm d ps af g => ⟨_, w.alloc (.cells z.cells T), by simp [execOp, Instr.alloc, hz, newVar, newRow], rfl, by have := hm.alloc (blk z.cells.toList T); simpa [blk] using this⟩

/-- A new block by name: the rule of a region's walk. -/
theorem ow_new {ops : Array Oper} {t : Nat} {op : Op} {ps : String} {af : Array Edge} {rest : List Oper} {Q : Po} {w0 : World} {olds : List Nat} {l : List Ent} {o : Obj}
    (hv : Acts P n F (Mem w0 olds l) op ty (fun w u w' => u = .pointer (some ⟨w.heap.size, 0, none⟩) ∧ Mem w0 olds (some (w.heap.size, o) :: l) w')) (ht : Nat.blt t n = true)
    (h : ∀ b, w0.heap.size ≤ b → OW P n ops rest ((t, .pointer (some ⟨b, 0, none⟩)) :: F) (Mem w0 olds (some (b, o) :: l)) Q) : OW P n ops (⟨some t, op, ty, ps, af, none⟩ :: rest) F (Mem w0 olds l) Q := by
  intro a w hf hm
  refine wpList_plain rfl fun K hK => ?_
  unfold Oper.wp
  obtain ⟨v, w', e, rfl, hm'⟩ := hv a w hf hm (some t) ps af none
  rw [e]
  exact hK _ _ (h w.heap.size hm.size _ w' (hf.put ht _) hm')

/-! Stores. -/
theorem setCell_blk {w : World} {b k : Nat} {xs : List Value} {T : TypeId} {v : Value} (h : w.heap[b]? = some (blk xs T)) : (w.setCell ⟨b, k, none⟩ v).heap[b]? = some (blk (xs.set k v) T) := by
  rw [heap_setCell_same w b k _ T v h]; simp [blk]

theorem does_store {T U : TypeId} {x y : Operand} {b k : Nat} {v : Value} {w0 : World} {olds : List Nat} {l : List Ent} {xs : List Value} (i : Nat) (hx : ev F x = some (.pointer (some ⟨b, k, none⟩))) (hy : ev F y = some v)
    (hp : pick l i = some (b, blk xs U)) (h1 : v.oneCell' = true) (hS : ∀ w, (sizeOf T).run P w = .ok 1 w) (hk : k < xs.length) :
    Does P n F (Mem w0 olds l) (.store T x y) ty (fun _ w' => Mem w0 olds (upd l i (some (b, blk (xs.set k v) U))) w') :=
  fun s w hf hm d ps af g => by
    have hb := hm.at hp
    have hc : w.cell? ⟨b, k, none⟩ = some xs[k] := by rw [cell_of_blk hb]; simp [hk]
    have hfz : w.frozen? ⟨b, k, none⟩ = false := frozen_of_row w b k _ U hb
    have hcells : v.cells = #[v] := by cases v <;> first | rfl | simp [Value.oneCell'] at h1
    have hst := run_store P w ⟨b, k, none⟩ v .plain h1
    rw [hc, hfz] at hst
    refine ⟨w.setCell ⟨b, k, none⟩ v, ?_, hm.put hp rfl rfl rfl (by simp) (setCell_blk hb) (fun j _ hj => heap_setCell_other w _ j v hj)⟩
    simp only [execOp, ev_eval hf hx, ev_eval hf hy, Instr.storeAt, Instr.sureAddr, Sem.run_bind, Sem.run_pure, Result.andThen_ok, storeVar, hS, hcells, storeCells, add_none, Nat.add_zero]
    simp [hst]

theorem splice_set (xs : List Value) (v : Value) (vs : List Value) (k : Nat) (hk : k < xs.length) :
    xs.take k ++ (v :: vs) ++ xs.drop (k + (vs.length + 1)) = (xs.set k v).take (k + 1) ++ vs ++ (xs.set k v).drop (k + (vs.length + 1)) := by
  have h1 : (xs.set k v).take (k + 1) = xs.take k ++ [v] := by
    rw [List.take_succ_eq_append_getElem (by simpa using hk), List.take_set_of_le (Nat.le_refl k)]
    simp
  have h2 : (xs.set k v).drop (k + (vs.length + 1)) = xs.drop (k + (vs.length + 1)) := by
    apply List.ext_getElem?
    intro j
    simp only [List.getElem?_drop]
    rw [List.getElem?_set_ne (by omega)]
  rw [h1, h2]; simp

/-- A whole row of cells. -/
theorem storeCells_blk : ∀ (vs : List Value) (i : Nat) (w : World) {b o : Nat} {xs : List Value} {T : TypeId} (_ : w.heap[b]? = some (blk xs T)) (_ : ∀ v ∈ vs, v.oneCell' = true) (_ : o + i + vs.length ≤ xs.length),
    ∃ w', (storeCells ⟨b, o, none⟩ vs i).run P w = .ok () w' ∧ w'.os = w.os ∧ w'.tape = w.tape ∧ w'.output = w.output ∧ w'.heap.size = w.heap.size ∧
      w'.heap[b]? = some (blk (xs.take (o + i) ++ vs ++ xs.drop (o + i + vs.length)) T) ∧ ∀ k, k ≠ b → w'.heap[k]? = w.heap[k]?
  | [], i, w, b, o, xs, T, hb, _, hl => ⟨w, by simp [storeCells], rfl, rfl, rfl, rfl, by simpa using hb, fun _ _ => rfl⟩
  | v :: vs, i, w, b, o, xs, T, hb, h1, hl => by
    simp only [List.length_cons] at hl
    have hk : o + i < xs.length := by omega
    have hc : w.cell? ⟨b, o + i, none⟩ = some xs[o + i] := by rw [cell_of_blk hb]; simp [hk]
    have hfz : w.frozen? ⟨b, o + i, none⟩ = false := frozen_of_row w b _ _ T hb
    have hst := run_store P w ⟨b, o + i, none⟩ v .plain (h1 v (.head _))
    rw [hc, hfz] at hst
    obtain ⟨w', e, h2, h3, h4, h5, h6, h7⟩ := storeCells_blk vs (i + 1) (w.setCell ⟨b, o + i, none⟩ v) (o := o) (setCell_blk hb) (fun u hu => h1 u (.tail _ hu)) (by simp; omega)
    refine ⟨w', ?_, h2, h3, h4, by rw [h5]; simp, ?_, fun k hk => by rw [h7 k hk]; exact heap_setCell_other w _ k v hk⟩
    · simp only [storeCells, add_none, Sem.run_bind, hst]
      simpa using e
    · rw [h6]
      rw [List.length_cons, splice_set xs v vs (o + i) hk, show o + (i + 1) = o + i + 1 by omega, show o + i + 1 + vs.length = o + i + (vs.length + 1) by omega]

theorem does_store_agg {T U : TypeId} {x y : Operand} {b o m : Nat} {cs : List Value} {w0 : World} {olds : List Nat} {l : List Ent} {xs : List Value} (i : Nat) (hx : ev F x = some (.pointer (some ⟨b, o, none⟩))) (hy : ev F y = some (.agg cs.toArray))
    (hp : pick l i = some (b, blk xs U)) (h1 : ∀ v ∈ cs, v.oneCell' = true) (hS : ∀ w, (sizeOf T).run P w = .ok m w) (hl : cs.length = m) (hk : o + m ≤ xs.length) :
    Does P n F (Mem w0 olds l) (.store T x y) ty (fun _ w' => Mem w0 olds (upd l i (some (b, blk (xs.take o ++ cs ++ xs.drop (o + m)) U))) w') :=
  fun s w hf hm d ps af g => by
    have hb := hm.at hp
    obtain ⟨w', e, h2, h3, h4, h5, h6, h7⟩ := storeCells_blk (P := P) cs 0 w (o := o) hb h1 (by omega)
    refine ⟨w', ?_, hm.put hp h2 h3 h4 (by rw [h5]; exact Nat.le_refl _) (by rw [← hl]; simpa using h6) (fun k _ hk => h7 k hk)⟩
    simp only [execOp, ev_eval hf hx, ev_eval hf hy, Instr.storeAt, Instr.sureAddr, Sem.run_bind, Sem.run_pure, Result.andThen_ok, storeVar, hS, Value.cells, List.size_toArray, hl, ne_eq, not_true, if_false, e]

/-! Addresses. -/
theorem val_nilCheck {x : Operand} {a : Addr} (hx : ev F x = some (.pointer (some a))) : Val P n F S (.nilCheck x) ty (.pointer (some a)) :=
  fun s w hf _ d ps af g => by simp [execOp, ev_eval hf hx]

theorem val_fieldAddr {T FT : TypeId} {x : Operand} {b o m e : Nat} {fs : Array Field} {f : Nat} {fd : Field} (hx : ev F x = some (.pointer (some ⟨b, o, none⟩))) (hT : P.underlying T = some (.struct fs)) (hf : fs[f]? = some fd)
    (hft : fd.type = FT) (hS : ∀ w, (sizeOf FT).run P w = .ok (m + 1) w) (he : o + fd.offset = e) : Val P n F S (.fieldAddr T x f) ty (.pointer (some ⟨b, e, none⟩)) :=
  fun s w hfit _ d ps af g => by
    subst hft; subst he
    simp [execOp, ev_eval hfit hx, Instr.fieldAt, run_underlying hT, hf, Instr.sureAddr, fieldPlace, hS, add_none]

theorem val_indexAddr {T E : TypeId} {x y : Operand} {b o len m : Nat} {k' : IntKind} {i : Int} (k e : Nat) (hx : ev F x = some (.pointer (some ⟨b, o, none⟩))) (hy : ev F y = some (.int k' i)) (hT : P.underlying T = some (.array len E))
    (hS : ∀ w, (sizeOf E).run P w = .ok m w) (hi : i = (k : Int)) (hk : k < len) (he : o + k * m = e) : Val P n F S (.indexAddr T x y) ty (.pointer (some ⟨b, e, none⟩)) :=
  fun s w hf _ d ps af g => by
    subst hi; subst he
    simp [execOp, ev_eval hf hx, ev_eval hf hy, Instr.indexAt, asIntOf, run_underlying hT, Instr.sureAddr, hS, add_none]
    intro; omega

theorem val_indexAddr_slice {T E : TypeId} {x y : Operand} {b o len cap m : Nat} {k' : IntKind} {i : Int} (k e : Nat) (hx : ev F x = some (.slice (some ⟨b, o, none⟩) len cap)) (hy : ev F y = some (.int k' i)) (hT : P.underlying T = some (.slice E))
    (hS : ∀ w, (sizeOf E).run P w = .ok m w) (hi : i = (k : Int)) (hk : k < len) (he : o + k * m = e) : Val P n F S (.indexAddr T x y) ty (.pointer (some ⟨b, e, none⟩)) :=
  fun s w hf _ d ps af g => by
    subst hi; subst he
    simp [execOp, ev_eval hf hx, ev_eval hf hy, Instr.indexAt, asIntOf, run_underlying hT, hS, add_none]
    intro; omega

/-- An element of an array value. -/
theorem val_index {T E : TypeId} {x y : Operand} {cs : List Value} {len : Nat} {k' : IntKind} {i : Int} {v : Value} (k : Nat) (hx : ev F x = some (.agg cs.toArray)) (hy : ev F y = some (.int k' i)) (hT : P.underlying T = some (.array len E))
    (hA : ∀ w, (isAgg E).run P w = .ok false w) (hS : ∀ w, (sizeOf E).run P w = .ok 1 w) (hi : i = (k : Int)) (hk : k < len) (hv : cs[k]? = some v) : Val P n F S (.index T x y) ty v :=
  fun s w hf _ d ps af g => by
    subst hi
    simp [execOp, ev_eval hf hx, ev_eval hf hy, Instr.index, asIntOf, run_underlying hT, hS, part, hA, hv]
    intro; omega

/-- A field of a struct value: of one cell, or of several. -/
theorem val_field {T : TypeId} {x : Operand} {cs : List Value} {fs : Array Field} {f : Nat} {fd : Field} {v : Value} (hx : ev F x = some (.agg cs.toArray)) (hT : P.underlying T = some (.struct fs)) (hf : fs[f]? = some fd)
    (hA : ∀ w, (isAgg fd.type).run P w = .ok false w) (hv : cs[fd.offset]? = some v) : Val P n F S (.field T x f) ty v :=
  fun s w hfit _ d ps af g => by
    simp [execOp, ev_eval hfit hx, Instr.field, run_underlying hT, hf, asAgg, part, hA, hv]
theorem val_field_agg {T : TypeId} {x : Operand} {cs vs : List Value} {m : Nat} {fs : Array Field} {f : Nat} {fd : Field} (hx : ev F x = some (.agg cs.toArray)) (hT : P.underlying T = some (.struct fs)) (hf : fs[f]? = some fd)
    (hA : ∀ w, (isAgg fd.type).run P w = .ok true w) (hS : ∀ w, (sizeOf fd.type).run P w = .ok m w) (hv : (cs.drop fd.offset).take m = vs) : Val P n F S (.field T x f) ty (.agg vs.toArray) :=
  fun s w hfit _ d ps af g => by
    subst hv
    simp [execOp, ev_eval hfit hx, Instr.field, run_underlying hT, hf, asAgg, part, hA, hS]

/-! Slices. -/
theorem bounds_run {isS : Bool} {len cap : Nat} {lo hi : Option Value} {w : World} {lk hk : IntKind} {lv hv : Option Nat} (hlo : lo = lv.map fun k => .int lk (k : Int)) (hhi : hi = hv.map fun k => .int hk (k : Int))
    (h : lv.getD 0 ≤ hv.getD len ∧ hv.getD len ≤ cap) : (Instr.sliceBounds isS len cap lo hi none).run P w = .ok (lv.getD 0, hv.getD len, cap) w := by
  subst hlo; subst hhi
  cases lv <;> cases hv <;> simp at h <;> simp [Instr.sliceBounds, Instr.sliceBound, asIntOf, h]

theorem val_slice {T E : TypeId} {x : Operand} {lo hi : Option Operand} {a : Option Addr} {len cap m : Nat} {lk hk : IntKind} (lv hv : Option Nat) (r : Value) (hx : ev F x = some (.slice a len cap)) (hT : P.underlying T = some (.slice E)) (hS : ∀ w, (sizeOf E).run P w = .ok m w)
    (hlo : ∀ s, Fits n F s → lo.map s.eval = lv.map fun k => .int lk (k : Int)) (hhi : ∀ s, Fits n F s → hi.map s.eval = hv.map fun k => .int hk (k : Int))
    (h : lv.getD 0 ≤ hv.getD len ∧ hv.getD len ≤ cap) (hr : .slice (if cap = lv.getD 0 then a else a.map (·.add (lv.getD 0 * m))) (hv.getD len - lv.getD 0) (cap - lv.getD 0) = r) : Val P n F S (.slice T x lo hi none) ty r :=
  fun s w hf _ d ps af g => by
    have hb := bounds_run (P := P) (w := w) (isS := true) (hlo s hf) (hhi s hf) h
    subst hr
    simp only [execOp, ev_eval hf hx, Instr.sliceAt, Sem.run_bind, run_underlying hT, Result.andThen_ok, Instr.slice, Option.map_none, hb, hS, Sem.run_pure]

theorem val_slice_array {T E : TypeId} {x : Operand} {lo hi : Option Operand} {b o len m : Nat} {lk hk : IntKind} (lv hv : Option Nat) (r : Value) (hx : ev F x = some (.pointer (some ⟨b, o, none⟩))) (hT : P.underlying T = some (.array len E)) (hS : ∀ w, (sizeOf E).run P w = .ok m w)
    (hlo : ∀ s, Fits n F s → lo.map s.eval = lv.map fun k => .int lk (k : Int)) (hhi : ∀ s, Fits n F s → hi.map s.eval = hv.map fun k => .int hk (k : Int))
    (h : lv.getD 0 ≤ hv.getD len ∧ hv.getD len ≤ len) (hr : .slice (some (if len = lv.getD 0 then ⟨b, o, none⟩ else ⟨b, o + lv.getD 0 * m, none⟩)) (hv.getD len - lv.getD 0) (len - lv.getD 0) = r) : Val P n F S (.slice T x lo hi none) ty r :=
  fun s w hf _ d ps af g => by
    have hb := bounds_run (P := P) (w := w) (isS := false) (hlo s hf) (hhi s hf) h
    subst hr
    simp only [execOp, ev_eval hf hx, Instr.sliceAt, Sem.run_bind, run_underlying hT, Result.andThen_ok, Option.map_none, hb, hS, Sem.run_pure, Instr.sureAddr, add_none]

theorem val_len {x : Operand} {T E : TypeId} {a : Option Addr} {len cap : Nat} (hx : ev F x = some (.slice a len cap)) (hT : P.underlying T = some (.slice E)) :
    Val P n F S (.call { callee := .builtin .len, args := #[x], argTypes := #[T] }) ty (vInt (len : Int)) :=
  fun s w hf _ d ps af g => by
    simp [execOp, resolve, ev_eval hf hx, invoke, builtin, Builtin.len_, run_underlying hT, goInt, vInt]

theorem val_min {x y : Operand} {ts : Array TypeId} {a b : Int} (hx : ev F x = some (vInt a)) (hy : ev F y = some (vInt b)) :
    Val P n F S (.call { callee := .builtin .min, args := #[x, y], argTypes := ts }) ty (vInt (min a b)) :=
  fun s w hf _ d ps af g => by
    have : (if b < a then b else a) = min a b := by split <;> omega
    simp [execOp, resolve, ev_eval hf hx, ev_eval hf hy, invoke, builtin, Builtin.min_, Builtin.min2, vInt, this]
theorem val_max {x y : Operand} {ts : Array TypeId} {a b : Int} (hx : ev F x = some (vInt a)) (hy : ev F y = some (vInt b)) :
    Val P n F S (.call { callee := .builtin .max, args := #[x, y], argTypes := ts }) ty (vInt (max a b)) :=
  fun s w hf _ d ps af g => by
    have : (if b > a then b else a) = max a b := by split <;> omega
    simp [execOp, resolve, ev_eval hf hx, ev_eval hf hy, invoke, builtin, Builtin.max_, Builtin.max2, vInt, this]
end
end Go.Sx
