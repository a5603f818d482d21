import Derived.Test.YtpmnhmfahgchgaaDoorSxE
import Derived.Laws.MakeOwn
import Derived.Laws.Append
set_option linter.unusedVariables false
set_option linter.unusedSimpArgs false
namespace Go.Sx

/-- The elements of a slice, read. -/
def Rd (w : World) (a : Option Addr) (xs : List Value) : Prop := ∀ j x, xs[j]? = some x → ∃ b o, a = some ⟨b, o, none⟩ ∧ w.cell? ⟨b, o + j, none⟩ = some x

theorem Rd.addr {w : World} {a : Option Addr} {xs : List Value} (h : Rd w a xs) (hp : 0 < xs.length) : ∃ b o, a = some ⟨b, o, none⟩ := by
  obtain ⟨b, o, e, _⟩ := h 0 xs[0] (by simp [hp])
  exact ⟨b, o, e⟩
theorem Rd.cell {w : World} {b o : Nat} {xs : List Value} (h : Rd w (some ⟨b, o, none⟩) xs) {j : Nat} {x : Value} (hj : xs[j]? = some x) : w.cell? ⟨b, o + j, none⟩ = some x := by
  obtain ⟨b', o', e, hc⟩ := h j x hj
  simp only [Option.some.injEq, Addr.mk.injEq, and_true] at e
  obtain ⟨rfl, rfl⟩ := e
  exact hc
theorem Rd.nil (w : World) (a : Option Addr) : Rd w a [] := fun j x h => by simp at h
theorem Rd.mem {w0 w : World} {l : List Ent} {a : Option Addr} {xs : List Value} (h : Rd w0 a xs) (hm : Mem w0 [] l w) : Rd w a xs := fun j x hj => by
  obtain ⟨b, o, e, hc⟩ := h j x hj
  exact ⟨b, o, e, hm.cell_some hc⟩
/-- The blocks of olds are others. -/
theorem Rd.memOlds {w0 w : World} {l : List Ent} {olds : List Nat} {a : Option Addr} {xs : List Value} (h : Rd w0 a xs) (hm : Mem w0 olds l w) (ho : ∀ b o, a = some ⟨b, o, none⟩ → b ∉ olds) : Rd w a xs := fun j x hj => by
  obtain ⟨b, o, e, hc⟩ := h j x hj
  refine ⟨b, o, e, ?_⟩
  rw [hm.cell (World.block_lt_of_cell? _ _ hc) (ho b o e)]; exact hc
theorem Rd.own {w0 w : World} {l : List Ent} {olds : List Nat} {i b o : Nat} {ys xs : List Value} {T : TypeId} (hm : Mem w0 olds l w) (hp : pick l i = some (b, blk ys T)) (hx : (ys.drop o).take xs.length = xs) : Rd w (some ⟨b, o, none⟩) xs :=
  fun j x hj => ⟨b, o, rfl, by
    rw [hm.cellAt hp, ← hj]
    conv => rhs; rw [← hx]
    have : j < xs.length := (List.getElem?_eq_some_iff.1 hj).1
    rw [List.getElem?_take, if_pos this, List.getElem?_drop]⟩
theorem Rd.sub {w : World} {b o : Nat} {xs ys : List Value} (h : Rd w (some ⟨b, o, none⟩) xs) (k : Nat) (hy : (xs.drop k).take ys.length = ys) : Rd w (some ⟨b, o + k, none⟩) ys := fun j x hj => by
  refine ⟨b, o + k, rfl, ?_⟩
  have hl : j < ys.length := (List.getElem?_eq_some_iff.1 hj).1
  have : xs[k + j]? = some x := by rw [← hj]; conv => rhs; rw [← hy]
                                   rw [List.getElem?_take, if_pos hl, List.getElem?_drop]
  have h2 := h.cell this
  rwa [Nat.add_assoc]

/-- The first n elements of a slice of its own: nil, or the head of the block at the entry. -/
def RowE (v : Value) (T : TypeId) (size n : Nat) (xs : List Value) (e : Ent) : Prop :=
  xs.length = n * size ∧ ((v = .slice none 0 0 ∧ n = 0 ∧ e = none) ∨
    ∃ b cap rest, v = .slice (some ⟨b, 0, none⟩) n cap ∧ n ≤ cap ∧ cap ≤ 9223372036854775807 ∧ (xs ++ rest).length = cap * size ∧ e = some (b, blk (xs ++ rest) T))

theorem RowE.nil (T : TypeId) (size : Nat) : RowE (.slice none 0 0) T size 0 [] none := ⟨by simp, .inl ⟨rfl, rfl, rfl⟩⟩
theorem RowE.full {b n : Nat} {T : TypeId} {size : Nat} {xs : List Value} (h : xs.length = n * size) (hn : n ≤ 9223372036854775807) : RowE (.slice (some ⟨b, 0, none⟩) n n) T size n xs (some (b, blk xs T)) :=
  ⟨h, .inr ⟨b, n, [], rfl, Nat.le_refl _, hn, by simpa using h, by simp⟩⟩
theorem RowE.rd {v : Value} {T : TypeId} {size n : Nat} {xs : List Value} {e : Ent} (h : RowE v T size n xs e) {w0 w : World} {olds : List Nat} {l : List Ent} {i : Nat} (hm : Mem w0 olds l w) (hp : pick l i = e) :
    ∃ a cap, v = .slice a n cap ∧ n ≤ cap ∧ Rd w a xs := by
  obtain ⟨hl, ⟨rfl, rfl, rfl⟩ | ⟨b, cap, rest, rfl, hc, _, hr, rfl⟩⟩ := h
  · exact ⟨none, 0, rfl, Nat.le_refl _, by
      have : xs = [] := List.length_eq_zero_iff.1 (by simpa using hl)
      rw [this]; exact Rd.nil _ _⟩
  · exact ⟨_, cap, rfl, hc, Rd.own hm hp (by simp)⟩

section
variable {P : Program} {n : Nat} {F : Fr} {S : World → Prop} {ty : TypeId}

/-! Calls. -/
def evs (F : Fr) : List Operand → Option (List Value)
  | [] => some []
  | x :: r => match ev F x, evs F r with
    | some v, some vs => some (v :: vs)
    | _, _ => none
theorem evs_eval {F : Fr} {a : Act} (hf : Fits n F a) : ∀ {xs : List Operand} {vs : List Value}, evs F xs = some vs → xs.map a.eval = vs
  | [], vs, h => by simp [evs] at h; subst h; rfl
  | x :: r, vs, h => by
    simp only [evs] at h
    split at h
    · rename_i v us hv hu
      simp only [Option.some.injEq] at h; subst h
      simp [ev_eval hf hv, evs_eval hf hu]
    · cases h

/-- A call of a named function with a Go body. -/
theorem callsTo {f : FuncId} {fn : Func} {xs : List Operand} {vs : List Value} {ts : Array TypeId} (hf : P.funcs[f]? = some fn) {c : Code} (hb : fn.body = some c) (hn : (fn.name == "runtime.NumGoroutine") = false)
    (hv : evs F xs = some vs) : CallsTo P n F S (.call { callee := .value (.func f), args := xs.toArray, argTypes := ts }) ty f vs.toArray :=
  fun a w hfit _ d ps af g => by
    have h1 : (xs.toArray.map a.eval) = vs.toArray := by simp [evs_eval hfit hv]
    have h2 : a.eval (.func f) = .func (.func f) #[] #[] := rfl
    simp only [execOp, resolve, h1, h2, Deferred.ofValue, Sem.run_bind]
    have hn' : ¬ fn.name = "runtime.NumGoroutine" := by simpa using hn
    simp [invoke, callFunc, hf, hn', hb]

/-- A call of a function value with captured variables. -/
theorem callsToVal {f : FuncId} {fn : Func} {x : Operand} {cap : List Value} {xs : List Operand} {vs : List Value} {ts : Array TypeId} (hx : ev F x = some (.func (.func f) #[] cap.toArray)) (hf : P.funcs[f]? = some fn) {c : Code} (hb : fn.body = some c) (hn : (fn.name == "runtime.NumGoroutine") = false)
    (hv : evs F xs = some vs) : CallsTo P n F S (.call { callee := .value x, args := xs.toArray, argTypes := ts }) ty f (vs ++ cap).toArray :=
  fun a w hfit _ d ps af g => by
    have h1 : (xs.toArray.map a.eval) = vs.toArray := by simp [evs_eval hfit hv]
    simp only [execOp, resolve, h1, ev_eval hfit hx, Deferred.ofValue, Sem.run_bind]
    have hn' : ¬ fn.name = "runtime.NumGoroutine" := by simpa using hn
    simp [invoke, callFunc, hf, hn', hb]

/-- A call that hands back a value told beforehand, and only made memory of its own. -/
theorem ow_call_pure {ops : Array Oper} {t : Nat} {op : Op} {ps : String} {af : Array Edge} {rest : List Oper} {Q : Po} {w0 : World} {olds : List Nat} {l : List Ent} {f : FuncId} {args : Array Value} {v : Value}
    (hv : CallsTo P n F (Mem w0 olds l) op ty f args) (ht : Nat.blt t n = true)
    (hc : ∀ w, Mem w0 olds l w → Calls P f args w fun e w' => ∃ u, e = .returned u ∧ u = v ∧ Mem w [] [] w')
    (h : OW P n ops rest ((t, v) :: F) (Mem w0 olds l) Q) : OW P n ops (⟨some t, op, ty, ps, af, none⟩ :: rest) F (Mem w0 olds l) Q :=
  ow_call (fun w u w' => u = v ∧ Mem w0 olds l w') hv ht (fun w hm => (hc w hm).mono fun e w' ⟨u, he, hu, hm'⟩ => ⟨u, he, hu, hm.call0 hm'⟩)
    (fun w u hm a w' hf ⟨hu, hm'⟩ => by subst hu; exact h a w' hf hm')

/-- A call that hands back something, and new blocks with it. -/
theorem ow_call_new {ops : Array Oper} {t : Nat} {op : Op} {ps : String} {af : Array Edge} {rest : List Oper} {Q : Po} {w0 : World} {olds : List Nat} {l : List Ent} {f : FuncId} {args : Array Value}
    (R : Value → List Ent → Prop) (hv : CallsTo P n F (Mem w0 olds l) op ty f args) (ht : Nat.blt t n = true)
    (hc : ∀ w, Mem w0 olds l w → Calls P f args w fun e w' => ∃ u, e = .returned u ∧ ∃ l', R u l' ∧ Mem w [] l' w')
    (h : ∀ u l', R u l' → OW P n ops rest ((t, u) :: F) (Mem w0 olds (l' ++ l)) Q) : OW P n ops (⟨some t, op, ty, ps, af, none⟩ :: rest) F (Mem w0 olds l) Q :=
  ow_call (fun w u w' => ∃ l', R u l' ∧ Mem w0 olds (l' ++ l) w') hv ht (fun w hm => (hc w hm).mono fun e w' ⟨u, he, l', hu, hm'⟩ => ⟨u, he, l', hu, hm.call hm'⟩)
    (fun w u hm a w' hf ⟨l', hu, hm'⟩ => h u l' hu a w' hf hm')

/-- A call that turns the block at i. -/
theorem ow_call_upd {ops : Array Oper} {t : Nat} {op : Op} {ps : String} {af : Array Edge} {rest : List Oper} {Q : Po} {w0 : World} {olds : List Nat} {l : List Ent} {f : FuncId} {args : Array Value} {b : Nat} {o : Obj} (i : Nat)
    (R : Value → Obj → Prop) (hp : pick l i = some (b, o)) (hv : CallsTo P n F (Mem w0 olds l) op ty f args) (ht : Nat.blt t n = true)
    (hc : ∀ w, Mem w0 olds l w → Calls P f args w fun e w' => ∃ u, e = .returned u ∧ ∃ o', R u o' ∧ Mem w [b] [some (b, o')] w')
    (h : ∀ u o', R u o' → OW P n ops rest ((t, u) :: F) (Mem w0 olds (upd l i (some (b, o')))) Q) : OW P n ops (⟨some t, op, ty, ps, af, none⟩ :: rest) F (Mem w0 olds l) Q :=
  ow_call (fun w u w' => ∃ o', R u o' ∧ Mem w0 olds (upd l i (some (b, o'))) w') hv ht (fun w hm => (hc w hm).mono fun e w' ⟨u, he, o', hu, hm'⟩ => ⟨u, he, o', hu, hm.callUpd hp hm'⟩)
    (fun w u hm a w' hf ⟨o', hu, hm'⟩ => h u o' hu a w' hf hm')

/-! make. -/
theorem cells_one {v : Value} (h : v.oneCell' = true) : v.cells = #[v] := by cases v <;> first | rfl | simp [Value.oneCell'] at h

theorem acts_make {T E : TypeId} {x y : Operand} {i : TypeInfo} {z : Value} {kl kc : IntKind} {w0 : World} {olds : List Nat} {l : List Ent} (len cap : Nat) (hx : ev F x = some (.int kl (len : Int))) (hy : ev F y = some (.int kc (cap : Int)))
    (hT : P.underlying T = some (.slice E)) (hi : P.info? E = some i) (hz : i.zero = some z) (hle : len ≤ cap) (hb : i.bytes * cap ≤ 281474976710656) (h63 : cap ≤ 9223372036854775807) :
    Acts P n F (Mem w0 olds l) (.makeSlice T x y) ty (fun w u w' => u = .slice (some ⟨w.heap.size, 0, none⟩) len cap ∧ Mem w0 olds (some (w.heap.size, blk (madeCells z.cells (cap * i.size)).toList E) :: l) w') :=
  fun s w hf hm d ps af g => by
    have hb' : ((i.bytes * cap : Nat) : Int) ≤ 281474976710656 := by omega
    rw [Int.natCast_mul] at hb'
    have h1 := run_make (P := P) w T E i z hT hi hz kl kc (len : Int) (cap : Int) (by omega) (by omega) hb' (by omega)
    simp only [Int.toNat_natCast] at h1
    refine ⟨_, _, by simp only [execOp, ev_eval hf hx, ev_eval hf hy, Sem.run_bind, h1, Result.andThen_ok, Sem.run_pure]; rfl, rfl, ?_⟩
    have := hm.alloc (blk (madeCells z.cells (cap * i.size)).toList E)
    simpa [blk] using this

theorem ow_make {ops : Array Oper} {t : Nat} {op : Op} {ps : String} {af : Array Edge} {rest : List Oper} {Q : Po} {w0 : World} {olds : List Nat} {l : List Ent} {o : Obj} {len cap : Nat}
    (hv : Acts P n F (Mem w0 olds l) op ty (fun w u w' => u = .slice (some ⟨w.heap.size, 0, none⟩) len cap ∧ Mem w0 olds (some (w.heap.size, o) :: l) w')) (ht : Nat.blt t n = true)
    (h : ∀ b, w0.heap.size ≤ b → OW P n ops rest ((t, .slice (some ⟨b, 0, none⟩) len cap) :: F) (Mem w0 olds (some (b, o) :: l)) Q) : OW P n ops (⟨some t, op, ty, ps, af, none⟩ :: rest) F (Mem w0 olds l) Q := by
  intro a w hf hm
  refine wpList_plain rfl fun K hK => ?_
  unfold Oper.wp
  obtain ⟨v, w', e, rfl, hm'⟩ := hv a w hf hm (some t) ps af none
  rw [e]
  exact hK _ _ (h w.heap.size hm.size _ w' (hf.put ht _) hm')

theorem made_one (z : Value) (n : Nat) : (madeCells #[z] n).toList = List.replicate n z := toList_madeCells_one z n

theorem upd_self : ∀ (l : List Ent) (i : Nat), upd l i (pick l i) = l
  | [], _ => rfl
  | x :: r, 0 => rfl
  | x :: r, i + 1 => by simp [upd, pick, upd_self r i]

/-! append. -/
theorem run_firstCells_Rd {w : World} {a : Option Addr} {xs : List Value} (h : Rd w a xs) {size m c : Nat} (hl : xs.length = m * size) : (Builtin.firstCells size m (.slice a m c)).run P w = .ok xs.toArray w := by
  cases a with
  | none =>
    have : xs = [] := by
      cases xs with
      | nil => rfl
      | cons x r => obtain ⟨b, o, e, _⟩ := h 0 x rfl; cases e
    subst this
    simp [Builtin.firstCells]
  | some ad =>
    refine run_firstCells_some w size m ad m c xs hl fun j v hj => ?_
    obtain ⟨b, o, e, hc⟩ := h j v hj
    simp only [Option.some.injEq] at e; subst e
    rw [add_none]; exact hc

/-- append of whatever slice that is read to a row of its own. -/
theorem acts_append {T E : TypeId} {x y : Operand} {i : TypeInfo} {z v : Value} {size bytes k m c : Nat} {a : Option Addr} {xs ys : List Value} {e : Ent} {w0 : World} {olds : List Nat} {l : List Ent} (idx : Nat)
    (hx : ev F x = some v) (hy : ev F y = some (.slice a m c)) (hp : pick l idx = e) (hrow : RowE v E size k xs e) (hlen : Nat.blt idx l.length = true)
    (hT : P.underlying T = some (.slice E)) (hi : P.info? E = some i) (hz : i.zero = some z) (hs : i.size = size) (hby : i.bytes = bytes) (hzs : z.cells.size = size) (hsz : 0 < size)
    (hrd : ∀ w, Mem w0 olds l w → Rd w a ys) (hyl : ys.length = m * size) (h1 : ∀ u ∈ ys, u.oneCell' = true) (hb : (k + m) * bytes ≤ 140737488355328) (hkm : k + m ≤ 9223372036854775807) :
    Acts P n F (Mem w0 olds l) (.call { callee := .builtin .append, args := #[x, y], argTypes := #[T, T] }) ty
      (fun _ u w' => ∃ e', RowE u E size (k + m) (xs ++ ys) e' ∧ Mem w0 olds (upd l idx e') w') := by
  intro s w hf hm d ps af g
  have hrdw := hrd w hm
  subst hs; subst hby
  have hexec : ∀ (u : Value) (w' : World), (Builtin.append_ #[T, T] ty #[v, .slice a m c]).run P w = .ok u w' →
      (execOp s.eval ⟨d, .call { callee := .builtin .append, args := #[x, y], argTypes := #[T, T] }, ty, ps, af, g⟩).run P w = .ok (.value u) w' := by
    intro u w' h
    simp [execOp, resolve, ev_eval hf hx, ev_eval hf hy, invoke, builtin, h]
  have hidx : idx < l.length := by simpa [Nat.blt, Nat.succ_le_iff] using hlen
  cases a with
  | none =>
    -- nothing is appended
    have hys : ys = [] := by
      cases ys with
      | nil => rfl
      | cons q r => obtain ⟨b, o, e, _⟩ := hrdw 0 q rfl; cases e
    subst hys
    have hm0 : m = 0 := by
      rcases Nat.eq_zero_or_pos m with h | h
      · exact h
      · have := Nat.mul_pos h hsz; simp at hyl; omega
    subst hm0
    refine ⟨v, w, hexec v w ?_, e, by simpa using hrow, ?_⟩
    · rcases hrow.2 with ⟨rfl, rfl, _⟩ | ⟨b, cap, rest, rfl, hc, _⟩
      · simp [Builtin.append_, run_underlying hT, sizeOf, typeInfo, hi, Builtin.lenOf, Builtin.firstCells]
      · simp [Builtin.append_, run_underlying hT, sizeOf, typeInfo, hi, Builtin.lenOf, Builtin.firstCells, hc, storeCells]
    · rw [← hp, upd_self]; exact hm
  | some ad =>
    have hnews : ∀ j u, ys[j]? = some u → w.cell? (ad.add j) = some u := fun j u hj => by
      obtain ⟨b, o, e, hc⟩ := hrdw j u hj
      simp only [Option.some.injEq] at e; subst e
      rw [add_none]; exact hc
    have hcap := grownCap_ge w (k + m)
    -- behind a growth
    have grown : ∀ (old : Nat), Mem w0 olds (upd l idx (some (w.heap.size, blk (xs ++ ys ++ (Builtin.zeroCells z.cells (grownCap w (k + m) old E - (k + m))).toList) E)))
        (w.drew.alloc (.cells (xs.toArray ++ ys.toArray ++ Builtin.zeroCells z.cells (grownCap w (k + m) old E - (k + m))) E)) := fun old =>
      hm.renew idx rfl rfl rfl (by simp) (Nat.le_refl _) (by
        have := heap_alloc_new w.drew (.cells (xs.toArray ++ ys.toArray ++ Builtin.zeroCells z.cells (grownCap w (k + m) old E - (k + m))) E)
        simp only [blk]
        refine this.trans ?_
        congr 2
        apply Array.ext'
        simp) (fun j hj => RowKit.Below.heap_alloc w.drew _ j hj)
    have growE : ∀ (old : Nat), RowE (.slice (some ⟨w.heap.size, 0, none⟩) (k + m) (grownCap w (k + m) old E)) E i.size (k + m) (xs ++ ys)
        (some (w.heap.size, blk (xs ++ ys ++ (Builtin.zeroCells z.cells (grownCap w (k + m) old E - (k + m))).toList) E)) := fun old => by
      have hge := grownCap_ge w (k + m) old E
      have hml := grownCap_le_maxLen w (k + m) old E (by simpa [maxLen] using hkm)
      refine ⟨by rw [List.length_append, hrow.1, hyl, Nat.add_mul], .inr ⟨_, _, _, rfl, hge, by simpa [maxLen] using hml, ?_, rfl⟩⟩
      simp only [List.length_append, Array.length_toList, size_zeroCells, hzs, hrow.1, hyl, ← Nat.add_mul]
      congr 1; omega
    rcases hrow.2 with ⟨rfl, rfl, rfl⟩ | ⟨b, cap, rest, rfl, hc, hcm, hcl, rfl⟩
    · have hxs : xs = [] := List.length_eq_zero_iff.1 (by simpa using hrow.1)
      subst hxs
      rcases Nat.eq_zero_or_pos m with rfl | hpos
      · have hys : ys = [] := List.length_eq_zero_iff.1 (by simpa using hyl)
        subst hys
        refine ⟨.slice none 0 0, w, hexec _ w ?_, none, RowE.nil E i.size, by rw [← hp, upd_self]; exact hm⟩
        simp [Builtin.append_, run_underlying hT, sizeOf, typeInfo, hi, Builtin.lenOf, Builtin.firstCells, loadCells, loadCellsFrom]
      · have hr := run_append_nil (P := P) w T ty E i z hT hi hz ad m c ys hyl hnews hpos (by omega) (by simp only [Nat.zero_add] at hb; omega)
        have g1 := grown 0; have g2 := growE 0
        simp only [Nat.zero_add, List.nil_append, Array.empty_append] at g1 g2 ⊢
        exact ⟨_, _, hexec _ _ hr, _, g2, g1⟩
    · have hbk := hm.at hp
      by_cases hroom : k + m ≤ cap
      · have hfit : k * i.size + ys.length ≤ (xs ++ rest).toArray.size := by
          simp only [List.size_toArray, hcl, hyl, ← Nat.add_mul]; exact Nat.mul_le_mul_right _ hroom
        have hr := run_append_room (P := P) w T ty E i hT hi b k cap _ hbk ad m c ys hyl hnews h1 hroom hfit
        have hx1 : (xs ++ rest).take (k * i.size) = xs := by rw [← hrow.1]; exact List.take_left
        have hx2 : (xs ++ rest).drop (k * i.size + ys.length) = rest.drop ys.length := by rw [← hrow.1, ← List.drop_drop, List.drop_left]
        simp only [hx1, hx2] at hr
        refine ⟨_, _, hexec _ _ hr, some (b, blk (xs ++ ys ++ rest.drop ys.length) E), ⟨by rw [List.length_append, hrow.1, hyl, Nat.add_mul], .inr ⟨b, cap, rest.drop ys.length, rfl, hroom, hcm, ?_, rfl⟩⟩, ?_⟩
        · simp only [List.size_toArray] at hfit
          simp only [List.length_append, List.length_drop] at hcl hfit ⊢
          have := hrow.1
          omega
        · refine hm.put hp rfl rfl rfl (by simp) ?_ (fun j _ hj => setRow_other w b j _ hj)
          exact setRow_heap w b _ _ E _ hbk
      · have holds : ∀ j u, xs[j]? = some u → w.cell? ((⟨b, 0, none⟩ : Addr).add j) = some u := fun j u hj => by
          rw [add_none, Nat.zero_add, hm.cellAt hp, List.getElem?_append_left (List.getElem?_eq_some_iff.1 hj).1]; exact hj
        have hr := run_append_grow (P := P) w T ty E i z hT hi hz ⟨b, 0, none⟩ k cap xs hrow.1 holds ad m c ys hyl hnews (by omega) (by omega) (growslice_fits (by omega) hb)
        exact ⟨_, _, hexec _ _ hr, _, growE cap, grown cap⟩
end
end Go.Sx
