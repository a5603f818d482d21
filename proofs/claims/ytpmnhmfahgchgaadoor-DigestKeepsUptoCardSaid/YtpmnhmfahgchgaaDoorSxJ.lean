import Derived.Test.YtpmnhmfahgchgaaDoorSxI
set_option linter.unusedVariables false
set_option linter.unusedSimpArgs false
namespace Go.Sx
section
variable {P : Program} {n : Nat} {F : Fr} {S : World → Prop} {ty : TypeId} {w0 : World} {olds : List Nat} {m : List Ent}

theorem Val.to {op : Op} {v v' : Value} (h : Val P n F S op ty v) (e : v = v') : Val P n F S op ty v' := e ▸ h

/-- The guard is met. -/
def WG (l : List Oper) (F : Fr) : Option (Nat × Bool) → Prop
  | none => True
  | some (j, b) => ∃ t, ((nth l j).bind (·.dst)) = some t ∧ look F t = some (.bool b)
/-- The guard is not met, or its operation was passed over. -/
def NG (l : List Oper) (F : Fr) : Option (Nat × Bool) → Prop
  | none => False
  | some (j, b) => ∃ t, ((nth l j).bind (·.dst)) = some t ∧ (look F t = some (.bool (!b)) ∨ look F t = some undef)
theorem WG.wanted {l : List Oper} {o : Oper} {a : Act} (h : WG l F o.guard) (hf : Fits n F a) : Region.wanted o (yielded l.toArray a.tmps) = true := by
  unfold Region.wanted
  cases hg : o.guard with
  | none => rfl
  | some x =>
    obtain ⟨j, b⟩ := x
    rw [hg] at h
    obtain ⟨t, hd, hy⟩ := h
    simp only [yielded, ← nth_eq, hd, Option.bind_some, hf.has t _ hy]
    cases b <;> rfl
theorem NG.wanted {l : List Oper} {o : Oper} {a : Act} (h : NG l F o.guard) (hf : Fits n F a) : Region.wanted o (yielded l.toArray a.tmps) = false := by
  unfold Region.wanted
  cases hg : o.guard with
  | none => rw [hg] at h; cases h
  | some x =>
    obtain ⟨j, b⟩ := x
    rw [hg] at h
    obtain ⟨t, hd, hy | hy⟩ := h
    · simp only [yielded, ← nth_eq, hd, Option.bind_some, hf.has t _ hy]
      cases b <;> rfl
    · simp only [yielded, ← nth_eq, hd, Option.bind_some, hf.has t _ hy, undef]
      cases b <;> rfl
theorem ng1 {l : List Oper} {j t : Nat} {b : Bool} (hd : ((nth l j).bind (·.dst)) = some t) (hy : look F t = some (.bool (!b))) : NG l F (some (j, b)) := ⟨t, hd, .inl hy⟩
theorem ng2 {l : List Oper} {j t : Nat} {b : Bool} (hd : ((nth l j).bind (·.dst)) = some t) (hy : look F t = some undef) : NG l F (some (j, b)) := ⟨t, hd, .inr hy⟩
theorem wg {l : List Oper} {j t : Nat} {b : Bool} (hd : ((nth l j).bind (·.dst)) = some t) (hy : look F t = some (.bool b)) : WG l F (some (j, b)) := ⟨t, hd, hy⟩

section
variable {l : List Oper} {late : List Nat} {listed : Array Bool} {M : World → Prop} {Q : Po} {r : List (Nat × Nat)} {i : Nat} {op : Op} {ps : String} {af : Array Edge} {g : Option (Nat × Bool)}

theorem lwg_pure {t : Nat} {v : Value} (ho : nth l i = some ⟨some t, op, ty, ps, af, g⟩) (hg : WG l F g) (hv : Val P n F (fun _ => True) op ty v) (ht : Nat.blt t n = true)
    (h : LW P n l S late r (listed.setIfInBounds i true) ((t, v) :: F) M Q) : LW P n l S late ((i, 0) :: r) listed F M Q :=
  fun a w hf hm => ⟨_, v, (nth_eq l i).symm.trans ho, .inl ⟨WG.wanted (o := ⟨some t, op, ty, ps, af, g⟩) hg hf, fun w => hv a w hf trivial _ _ _ _⟩, h _ w (hf.put ht v) hm⟩
theorem lwg_held {t : Nat} {v : Value} (ho : nth l i = some ⟨some t, op, ty, ps, af, g⟩) (hg : WG l F g) (hv : Val P n F S op ty v) (ht : Nat.blt t n = true)
    (h : LW P n l S late r (listed.setIfInBounds i true) ((t, v) :: F) M Q) : LW P n l S late ((i, 1) :: r) listed F M Q :=
  fun a w hf hm => ⟨_, v, (nth_eq l i).symm.trans ho, .inl ⟨WG.wanted (o := ⟨some t, op, ty, ps, af, g⟩) hg hf, fun w hw => hv a w hf hw _ _ _ _⟩, h _ w (hf.put ht v) hm⟩
theorem lwg_no {t : Nat} (ho : nth l i = some ⟨some t, op, ty, ps, af, g⟩) (hg : NG l F g) (ht : Nat.blt t n = true)
    (h : LW P n l S late r (listed.setIfInBounds i true) ((t, undef) :: F) M Q) : LW P n l S late ((i, 0) :: r) listed F M Q :=
  fun a w hf hm => ⟨_, undef, (nth_eq l i).symm.trans ho, .inr ⟨NG.wanted (o := ⟨some t, op, ty, ps, af, g⟩) hg hf, rfl⟩, h _ w (hf.put ht undef) hm⟩
theorem lwg_no' (ho : nth l i = some ⟨none, op, ty, ps, af, g⟩) (hg : NG l F g)
    (h : LW P n l S late r (listed.setIfInBounds i true) F M Q) : LW P n l S late ((i, 0) :: r) listed F M Q :=
  fun a w hf hm => ⟨_, undef, (nth_eq l i).symm.trans ho, .inr ⟨NG.wanted (o := ⟨none, op, ty, ps, af, g⟩) hg hf, rfl⟩, h _ w hf hm⟩
theorem wpOp_wanted {o : Oper} {ops : Array Oper} {Q : Exit → Act → World → Prop} {K : Act → World → Prop} {a : Act} {w : World} (ho : ops[i]? = some o) (hg : Region.wanted o (yielded ops a.tmps) = true) (h : o.wp P a w K Q) :
    wpOp P ops Q i K a w := by
  unfold wpOp
  simp only [ho, hg, if_true]
  exact .inl h
theorem lwg_val {t : Nat} {v : Value} (ho : nth l i = some ⟨some t, op, ty, ps, af, g⟩) (hg : WG l F g) (hv : Val P n F M op ty v) (ht : Nat.blt t n = true) (hS : ∀ w, M w → S w)
    (h : LW P n l S late r (listed.setIfInBounds i true) ((t, v) :: F) M Q) : LW P n l S late ((i, 2) :: r) listed F M Q := by
  intro a w hf hm
  refine wpOp_wanted ((nth_eq l i).symm.trans ho) (WG.wanted hg hf) ?_
  unfold Oper.wp
  have := hv a w hf hm (some t) ps af g
  rw [this]
  exact ⟨fun _ => hS w hm, h _ w (hf.put ht v) hm⟩
theorem lwg_act {t : Nat} {R : World → Value → World → Prop} (ho : nth l i = some ⟨some t, op, ty, ps, af, g⟩) (hg : WG l F g) (hv : Acts P n F M op ty R) (ht : Nat.blt t n = true)
    (hS : clean late (listed.setIfInBounds i true) = true → ∀ w v w', M w → R w v w' → S w')
    (h : ∀ w v, M w → LW P n l S late r (listed.setIfInBounds i true) ((t, v) :: F) (R w v) Q) : LW P n l S late ((i, 2) :: r) listed F M Q := by
  intro a w hf hm
  refine wpOp_wanted ((nth_eq l i).symm.trans ho) (WG.wanted hg hf) ?_
  unfold Oper.wp
  obtain ⟨v, w', e, hr⟩ := hv a w hf hm (some t) ps af g
  rw [e]
  exact ⟨fun hc => hS hc w v w' hm hr, h w v hm _ w' (hf.put ht v) hr⟩
theorem lwg_call {t : Nat} {f : FuncId} {args : Array Value} (R : World → Value → World → Prop) (ho : nth l i = some ⟨some t, op, ty, ps, af, g⟩) (hg : WG l F g) (hv : CallsTo P n F M op ty f args) (ht : Nat.blt t n = true)
    (hc : ∀ w, M w → Calls P f args w fun e w' => ∃ v, e = .returned v ∧ R w v w')
    (hS : clean late (listed.setIfInBounds i true) = true → ∀ w v w', M w → R w v w' → S w')
    (h : ∀ w v, M w → LW P n l S late r (listed.setIfInBounds i true) ((t, v) :: F) (R w v) Q) : LW P n l S late ((i, 2) :: r) listed F M Q := by
  intro a w hf hm
  refine wpOp_wanted ((nth_eq l i).symm.trans ho) (WG.wanted hg hf) ?_
  unfold Oper.wp
  have := hv a w hf hm (some t) ps af g
  rw [this]
  refine (hc w hm).mono ?_
  rintro e w' ⟨v, rfl, hr⟩
  exact ⟨fun hc => hS hc w v w' hm hr, h w v hm _ w' (hf.put ht v) hr⟩
theorem lwg_call_pure {t : Nat} {f : FuncId} {args : Array Value} {v : Value}
    (ho : nth l i = some ⟨some t, op, ty, ps, af, g⟩) (hg : WG l F g) (hv : CallsTo P n F (Mem w0 olds m) op ty f args) (ht : Nat.blt t n = true)
    (hc : ∀ w, Mem w0 olds m w → Calls P f args w fun e w' => ∃ u, e = .returned u ∧ u = v ∧ Mem w [] [] w')
    (h : LW P n l (Mem w0 olds m) late r (listed.setIfInBounds i true) ((t, v) :: F) (Mem w0 olds m) Q) : LW P n l (Mem w0 olds m) late ((i, 2) :: r) listed F (Mem w0 olds m) Q :=
  lwg_call (fun _ u w' => u = v ∧ Mem w0 olds m w') ho hg hv ht (fun _ hm => (hc _ hm).mono fun _ _ ⟨u, he, hu, hm'⟩ => ⟨u, he, hu, hm.call0 hm'⟩) (fun _ _ _ _ _ hr => hr.2)
    (fun _ u hm a w' hf ⟨hu, hm'⟩ => by subst hu; exact h a w' hf hm')
end

/-- x; y: x's ways brought together; what is known in the middle is told by some s. -/
theorem sw_join {σ : Type} {x y : Code} {M : World → Prop} {Q : Po} (I : σ → Prop) (G : σ → Fr) (W : σ → World → Prop)
    (hx : SW P n x F M (thenP (fun F' w' => ∃ s, I s ∧ Sub (G s) F' ∧ W s w') Q)) (hy : ∀ s, I s → SW P n y (G s) (W s) Q) : SW P n (.seq x y) F M Q :=
  sw_seq_mid _ hx fun _ w ⟨s, hi, hs, hw⟩ => SW.weaken hs (fun _ e => e ▸ hw) (hy s hi)

/-- A row's slice. -/
theorem RowE.slice {v : Value} {T : TypeId} {size k : Nat} {xs : List Value} {e : Ent} (h : RowE v T size k xs e) : ∃ a c, v = .slice a k c ∧ k ≤ c := by
  obtain ⟨_, ⟨rfl, rfl, rfl⟩ | ⟨b, cap, rest, rfl, hc, _⟩⟩ := h
  · exact ⟨none, 0, rfl, Nat.le_refl _⟩
  · exact ⟨_, cap, rfl, hc⟩
theorem RowE.len {v : Value} {T : TypeId} {k : Nat} {xs : List Value} {e : Ent} (h : RowE v T 1 k xs e) : xs.length = k := by have := h.1; omega
theorem RowE.rdAt {a : Option Addr} {c k size : Nat} {T : TypeId} {xs : List Value} {e : Ent} (h : RowE (.slice a k c) T size k xs e) {l : List Ent} {w : World} {i : Nat} (hm : Mem w0 olds l w) (hp : pick l i = e) : Rd w a xs := by
  obtain ⟨a', cap, e', _, hr⟩ := h.rd hm hp
  simp only [Value.slice.injEq] at e'
  rw [e'.1]; exact hr
theorem RowE.le {a : Option Addr} {c k size : Nat} {T : TypeId} {xs : List Value} {e : Ent} (h : RowE (.slice a k c) T size k xs e) : k ≤ c := by
  obtain ⟨a', c', e', hc⟩ := h.slice
  simp only [Value.slice.injEq] at e'
  omega
theorem RowE.cong {v v' : Value} {T : TypeId} {size k k' : Nat} {xs xs' : List Value} {e : Ent} (h : RowE v T size k xs e) (hv : v = v') (hk : k = k') (hx : xs = xs') : RowE v' T size k' xs' e := by
  subst hv; subst hk; subst hx; exact h
/-- Where a row stands: in a new block, or in an older own one. -/
theorem Mem.rowFresh {w : World} {e : Ent} {l : List Ent} {b : Nat} {o : Obj} (hm : Mem w0 [] (e :: l) w) (he : e = some (b, o)) : w0.heap.size ≤ b := by
  subst he
  rcases hm.fresh b (by simp [keys]) with h | h
  · exact h
  · simp at h

theorem ow_append' {ops : Array Oper} {t : Nat} {op : Op} {ps : String} {af : Array Edge} {rest : List Oper} {M : World → Prop} {Q : Po} {E : TypeId} {size k idx : Nat} {xs : List Value}
    (hv : Acts P n F M op ty (fun _ u w' => ∃ e', RowE u E size k xs e' ∧ Mem w0 olds (upd m idx e') w')) (ht : Nat.blt t n = true)
    (h : ∀ a c e', RowE (.slice a k c) E size k xs e' → OW P n ops rest ((t, .slice a k c) :: F) (Mem w0 olds (upd m idx e')) Q) : OW P n ops (⟨some t, op, ty, ps, af, none⟩ :: rest) F M Q :=
  ow_append hv ht fun u e' hr => by
    obtain ⟨a, c, rfl, _⟩ := hr.slice
    exact h a c e' hr
/-- A call that hands back a slice of its own, nil or not. -/
theorem ow_call_row {ops : Array Oper} {t : Nat} {op : Op} {ps : String} {af : Array Edge} {rest : List Oper} {Q : Po} {f : FuncId} {args : Array Value} {E : TypeId} {size k : Nat} {xs : List Value}
    (hv : CallsTo P n F (Mem w0 olds m) op ty f args) (ht : Nat.blt t n = true)
    (hc : ∀ w, Mem w0 olds m w → Calls P f args w fun e w' => ∃ u, e = .returned u ∧ ∃ e', RowE u E size k xs e' ∧ Mem w [] [e'] w')
    (h : ∀ a c e', RowE (.slice a k c) E size k xs e' → OW P n ops rest ((t, .slice a k c) :: F) (Mem w0 olds (e' :: m)) Q) : OW P n ops (⟨some t, op, ty, ps, af, none⟩ :: rest) F (Mem w0 olds m) Q :=
  ow_call_slice hv ht hc fun u e' hr => by
    obtain ⟨a, c, rfl, _⟩ := hr.slice
    exact h a c e' hr

theorem Rd.get {α : Type} [Inhabited α] {V : α → Value} {w : World} {b o : Nat} {p : List α} (h : Rd w (some ⟨b, o, none⟩) (p.map V)) {k e : Nat} (hk : k < p.length) (he : o + k = e) : w.cell? ⟨b, e, none⟩ = some (V (p.getD k default)) := by
  subst he; exact h.cell (get_map V p k hk)
/-- A constant string's bytes: the row with its mark. -/
def mrk (xs : List Value) (T : TypeId) : Obj := .cells xs.toArray T (xs.length, xs.length + 1)
theorem acts_convert_bytes {T E : TypeId} {x : Operand} {b n' c : Nat} {xs : List Value} {U : TypeId} {l : List Ent} (i : Nat) (hx : ev F x = some (.slice (some ⟨b, 0, none⟩) n' c)) (hp : pick l i = some (b, blk xs U))
    (hT : P.underlying T = some (.slice E)) (hE : P.underlying E = some (.int .u8)) :
    Acts P n F (Mem w0 olds l) (.convert T T x) ty (fun _ u w' => u = .slice (some ⟨b, 0, none⟩) n' c ∧ Mem w0 olds (upd l i (some (b, mrk xs U))) w') := by
  intro s w hf hm d ps af g
  have hb := hm.at hp
  have hsh : w.shape? b = some (U, xs.length) := by
    unfold World.shape?; rw [hb]; simp [blk]
  have hlt : b < w.heap.size := (Array.getElem?_eq_some_iff.1 hb).1
  refine ⟨_, w.freeze ⟨b, xs.length, none⟩ 1, ?_, rfl, ?_⟩
  · simp only [execOp, ev_eval hf hx]
    simp [convert, run_underlying hT, run_underlying hE, markStringish, hsh]
  · have hne : ¬ (1 = 0) := by decide
    refine hm.put hp (by simp [World.freeze]) (by simp [World.freeze]) (by simp [World.freeze]) (by simp [World.freeze]) ?_ (fun k hk hkb => ?_)
    · simp only [World.freeze, if_neg hne]
      rw [Array.getElem?_modify, if_pos rfl, hb]
      rfl
    · simp only [World.freeze, if_neg hne]
      rw [Array.getElem?_modify, if_neg (Ne.symm hkb)]
theorem Rd.mrk {w : World} {b : Nat} {xs : List Value} {T : TypeId} (h : w.heap[b]? = some (mrk xs T)) : Rd w (some ⟨b, 0, none⟩) xs := fun j x hj => ⟨b, 0, rfl, by
  rw [Nat.zero_add, cell_of_row w b j _ T _ h]; simpa using hj⟩

theorem Rd.lt {w : World} {b o : Nat} {a : Option Addr} {xs : List Value} (h : Rd w a xs) (ha : a = some ⟨b, o, none⟩) (hp : 0 < xs.length) : b < w.heap.size := by
  subst ha
  exact World.block_lt_of_cell? _ _ (h.cell (j := 0) (x := xs[0]) (by simp [hp]))
theorem RowE.ne {a : Option Addr} {c k size b b' o' : Nat} {o : Obj} {T : TypeId} {xs : List Value} {e : Ent} (h : RowE (.slice a k c) T size k xs e) {l : List Ent} {w : World} {i j : Nat} (hm : Mem w0 olds l w) (hp : pick l i = e) (hq : pick l j = some (b, o)) (hij : i ≠ j)
    (ha : a = some ⟨b', o', none⟩) : b' ≠ b := by
  subst ha
  obtain ⟨_, ⟨h1, _⟩ | ⟨b2, cap, rest, h1, _, _, _, rfl⟩⟩ := h
  · simp at h1
  · simp only [Value.slice.injEq, Option.some.injEq, Addr.mk.injEq] at h1
    rw [h1.1.1]; exact hm.ne hp hq hij

/-- A cut of a slice, nil or not. -/
def cut (a : Option Addr) (c k m : Nat) : Option Addr := if c = k then a else a.map (·.add (k * m))
theorem val_slice_cut {T E : TypeId} {x y z : Operand} {a : Option Addr} {len cap size : Nat} {kl kh : IntKind} {i j : Int} (k h : Nat) (hx : ev F x = some (.slice a len cap)) (hy : ev F y = some (.int kl i)) (hz : ev F z = some (.int kh j)) (hT : P.underlying T = some (.slice E)) (hS : ∀ w, (sizeOf E).run P w = .ok size w)
    (hi : i = (k : Int)) (hj : j = (h : Int)) (hk : k ≤ h) (hc : h ≤ cap) : Val P n F S (.slice T x (some y) (some z) none) ty (.slice (cut a cap k size) (h - k) (cap - k)) := by
  subst hi; subst hj
  exact val_slice (lk := kl) (hk := kh) (some k) (some h) _ hx hT hS (fun s hs => by simp [ev_eval hs hy]) (fun s hs => by simp [ev_eval hs hz]) ⟨hk, hc⟩ rfl
theorem val_slice_from {T E : TypeId} {x y : Operand} {a : Option Addr} {len cap size : Nat} {kl : IntKind} {i : Int} (k : Nat) (hx : ev F x = some (.slice a len cap)) (hy : ev F y = some (.int kl i)) (hT : P.underlying T = some (.slice E)) (hS : ∀ w, (sizeOf E).run P w = .ok size w)
    (hi : i = (k : Int)) (hk : k ≤ len) (hc : len ≤ cap) : Val P n F S (.slice T x (some y) none none) ty (.slice (cut a cap k size) (len - k) (cap - k)) := by
  subst hi
  exact val_slice (lk := kl) (hk := .i64) (some k) none _ hx hT hS (fun s hs => by simp [ev_eval hs hy]) (fun s hs => rfl) ⟨hk, hc⟩ rfl
theorem Rd.cut {α : Type} {V : α → Value} {w : World} {a : Option Addr} {p : List α} (h : Rd w a (p.map V)) {k c : Nat} (hc : p.length ≤ c) : Rd w (cut a c k 1) ((p.drop k).map V) := by
  unfold Sx.cut
  rcases Nat.lt_or_ge k p.length with hk | hk
  · obtain ⟨b, o, rfl⟩ := h.addr (by simp; omega)
    rw [if_neg (by omega)]
    have h2 := h.drop1 (k := k) (c := c) (by omega) hc
    rw [if_neg (by omega)] at h2
    simpa [add_none] using h2
  · rw [List.drop_eq_nil_of_le hk]; exact Rd.nil _ _
/-- Lists that are alike so far. -/
theorem getD_ne {p q : List UInt8} {k : Nat} (h : p.getD k default ≠ q.getD k default) : p ≠ q := fun e => h (by rw [e])
theorem ext_getD {α : Type} [Inhabited α] {p q : List α} (hl : p.length = q.length) (h : ∀ k, k < p.length → p.getD k default = q.getD k default) : p = q := by
  apply List.ext_getElem hl
  intro k h1 h2
  have := h k h1
  simpa [List.getD_eq_getElem?_getD, h1, h2] using this
end
end Go.Sx
