import Derived.Test.YtpmnhmfahgchgaaDoorSxH
set_option linter.unusedVariables false
set_option linter.unusedSimpArgs false
namespace Go.Sx
section
variable {P : Program} {n : Nat} {F : Fr} {S : World → Prop} {ty : TypeId} {w0 : World} {olds : List Nat} {l : List Ent}

theorem does_store_to {T U : TypeId} {x y : Operand} {b k : Nat} {v : Value} {xs : List Value} (xs' : List Value) (i : Nat) (hx : ev F x = some (.pointer (some ⟨b, k, none⟩))) (hy : ev F y = some v)
    (hp : pick l i = some (b, blk xs U)) (h1 : v.oneCell' = true) (hS : ∀ w, (sizeOf T).run P w = .ok 1 w) (hk : k < xs.length) (he : xs.set k v = xs') :
    Does P n F (Mem w0 olds l) (.store T x y) ty (fun _ w' => Mem w0 olds (upd l i (some (b, blk xs' U))) w') := by
  subst he; exact does_store i hx hy hp h1 hS hk
theorem does_store_agg_to {T U : TypeId} {x y : Operand} {b o m : Nat} {cs xs : List Value} (xs' : List Value) (i : Nat) (hx : ev F x = some (.pointer (some ⟨b, o, none⟩))) (hy : ev F y = some (.agg cs.toArray))
    (hp : pick l i = some (b, blk xs U)) (h1 : ∀ v ∈ cs, v.oneCell' = true) (hS : ∀ w, (sizeOf T).run P w = .ok m w) (hl : cs.length = m) (hk : o + m ≤ xs.length) (he : xs.take o ++ cs ++ xs.drop (o + m) = xs') :
    Does P n F (Mem w0 olds l) (.store T x y) ty (fun _ w' => Mem w0 olds (upd l i (some (b, blk xs' U))) w') := by
  subst he; exact does_store_agg i hx hy hp h1 hS hl hk

/-- A whole block written over. -/
theorem does_store_all {T U : TypeId} {x y : Operand} {b m : Nat} {cs xs : List Value} (i : Nat) (hx : ev F x = some (.pointer (some ⟨b, 0, none⟩))) (hy : ev F y = some (.agg cs.toArray))
    (hp : pick l i = some (b, blk xs U)) (h1 : ∀ v ∈ cs, v.oneCell' = true) (hS : ∀ w, (sizeOf T).run P w = .ok m w) (hl : cs.length = m) (hk : xs.length = m) :
    Does P n F (Mem w0 olds l) (.store T x y) ty (fun _ w' => Mem w0 olds (upd l i (some (b, blk cs U))) w') :=
  does_store_agg_to cs i hx hy hp h1 hS hl (by omega) (by simp [List.drop_eq_nil_of_le (Nat.le_of_eq hk)])

/-- An action whose value is told beforehand. -/
theorem ow_act_eq {ops : Array Oper} {t : Nat} {op : Op} {ps : String} {af : Array Edge} {rest : List Oper} {M M' : World → Prop} {Q : Po} {v : Value}
    (hv : Acts P n F M op ty (fun _ u w' => u = v ∧ M' w')) (ht : Nat.blt t n = true)
    (h : OW P n ops rest ((t, v) :: F) M' Q) : OW P n ops (⟨some t, op, ty, ps, af, none⟩ :: rest) F M Q := by
  intro a w hf hm
  refine wpList_plain rfl fun K hK => ?_
  unfold Oper.wp
  obtain ⟨u, w', e, rfl, hm'⟩ := hv a w hf hm (some t) ps af none
  rw [e]
  exact hK _ _ (h _ w' (hf.put ht _) hm')
theorem ow_do_eq {ops : Array Oper} {op : Op} {ps : String} {af : Array Edge} {rest : List Oper} {M M' : World → Prop} {Q : Po}
    (hv : Does P n F M op ty (fun _ w' => M' w'))
    (h : OW P n ops rest F M' Q) : OW P n ops (⟨none, op, ty, ps, af, none⟩ :: rest) F M Q := ow_do hv (fun _ _ => h)

/-- An append to a row of its own. -/
theorem ow_append {ops : Array Oper} {t : Nat} {op : Op} {ps : String} {af : Array Edge} {rest : List Oper} {M : World → Prop} {Q : Po} {E : TypeId} {size k idx : Nat} {xs : List Value}
    (hv : Acts P n F M op ty (fun _ u w' => ∃ e', RowE u E size k xs e' ∧ Mem w0 olds (upd l idx e') w')) (ht : Nat.blt t n = true)
    (h : ∀ u e', RowE u E size k xs e' → OW P n ops rest ((t, u) :: F) (Mem w0 olds (upd l idx e')) Q) : OW P n ops (⟨some t, op, ty, ps, af, none⟩ :: rest) F M Q := by
  intro a w hf hm
  refine wpList_plain rfl fun K hK => ?_
  unfold Oper.wp
  obtain ⟨u, w', e, e', hr, hm'⟩ := hv a w hf hm (some t) ps af none
  rw [e]
  exact hK _ _ (h u e' hr _ w' (hf.put ht _) hm')

/-- A call that turns the block at i, value and block told beforehand. -/
theorem ow_call_turn {ops : Array Oper} {t : Nat} {op : Op} {ps : String} {af : Array Edge} {rest : List Oper} {Q : Po} {f : FuncId} {args : Array Value} {b : Nat} {o o' : Obj} {v : Value} (i : Nat)
    (hp : pick l i = some (b, o)) (hv : CallsTo P n F (Mem w0 olds l) op ty f args) (ht : Nat.blt t n = true)
    (hc : ∀ w, Mem w0 olds l w → Calls P f args w fun e w' => ∃ u, e = .returned u ∧ u = v ∧ Mem w [b] [some (b, o')] w')
    (h : OW P n ops rest ((t, v) :: F) (Mem w0 olds (upd l i (some (b, o')))) Q) : OW P n ops (⟨some t, op, ty, ps, af, none⟩ :: rest) F (Mem w0 olds l) Q :=
  ow_call (fun _ u w' => u = v ∧ Mem w0 olds (upd l i (some (b, o'))) w') hv ht (fun _ hm => (hc _ hm).mono fun _ _ ⟨u, he, hu, hm'⟩ => ⟨u, he, hu, hm.callUpd hp hm'⟩)
    (fun _ u _ a w' hf ⟨hu, hm'⟩ => by subst hu; exact h a w' hf hm')

/-- A call that hands back a pointer to a new block. -/
theorem ow_call_ptr {ops : Array Oper} {t : Nat} {op : Op} {ps : String} {af : Array Edge} {rest : List Oper} {Q : Po} {f : FuncId} {args : Array Value} {o : Obj}
    (hv : CallsTo P n F (Mem w0 olds l) op ty f args) (ht : Nat.blt t n = true)
    (hc : ∀ w, Mem w0 olds l w → Calls P f args w fun e w' => ∃ u, e = .returned u ∧ ∃ b, u = .pointer (some ⟨b, 0, none⟩) ∧ Mem w [] [some (b, o)] w')
    (h : ∀ b, w0.heap.size ≤ b → OW P n ops rest ((t, .pointer (some ⟨b, 0, none⟩)) :: F) (Mem w0 olds (some (b, o) :: l)) Q) : OW P n ops (⟨some t, op, ty, ps, af, none⟩ :: rest) F (Mem w0 olds l) Q :=
  ow_call (fun _ u w' => ∃ b, w0.heap.size ≤ b ∧ u = .pointer (some ⟨b, 0, none⟩) ∧ Mem w0 olds (some (b, o) :: l) w') hv ht
    (fun _ hm => (hc _ hm).mono fun _ _ ⟨u, he, b, hu, hm'⟩ => ⟨u, he, b, by
      rcases hm'.fresh b (by simp [keys]) with h1 | h1
      · exact Nat.le_trans hm.size h1
      · simp at h1, hu, hm.call hm'⟩)
    (fun _ u _ a w' hf ⟨b, hb, hu, hm'⟩ => by subst hu; exact h b hb a w' hf hm')

/-- A call that hands back a slice of its own. -/
theorem ow_call_slice {ops : Array Oper} {t : Nat} {op : Op} {ps : String} {af : Array Edge} {rest : List Oper} {Q : Po} {f : FuncId} {args : Array Value} {E : TypeId} {size k : Nat} {xs : List Value}
    (hv : CallsTo P n F (Mem w0 olds l) op ty f args) (ht : Nat.blt t n = true)
    (hc : ∀ w, Mem w0 olds l w → Calls P f args w fun e w' => ∃ u, e = .returned u ∧ ∃ e', RowE u E size k xs e' ∧ Mem w [] [e'] w')
    (h : ∀ u e', RowE u E size k xs e' → OW P n ops rest ((t, u) :: F) (Mem w0 olds (e' :: l)) Q) : OW P n ops (⟨some t, op, ty, ps, af, none⟩ :: rest) F (Mem w0 olds l) Q :=
  ow_call (fun _ u w' => ∃ e', RowE u E size k xs e' ∧ Mem w0 olds (e' :: l) w') hv ht (fun _ hm => (hc _ hm).mono fun _ _ ⟨u, he, e', hu, hm'⟩ => ⟨u, he, e', hu, hm.call hm'⟩)
    (fun _ u _ a w' hf ⟨e', hu, hm'⟩ => h u e' hu a w' hf hm')

/-- A copy told by what it leaves. -/
theorem acts_copy_to {T T' E : TypeId} {x y : Operand} {b o dl dc sl sc size : Nat} {a : Option Addr} {xs ys : List Value} {U : TypeId} (k : Nat) (xs' : List Value) (idx : Nat)
    (hx : ev F x = some (.slice (some ⟨b, o, none⟩) dl dc)) (hy : ev F y = some (.slice a sl sc)) (hp : pick l idx = some (b, blk xs U))
    (hT : P.underlying T = some (.slice E)) (hS : ∀ w, (sizeOf E).run P w = .ok size w)
    (hrd : ∀ w, Mem w0 olds l w → Rd w a ys) (hyl : ys.length = sl * size) (h1 : ∀ u ∈ ys, u.oneCell' = true) (hfit : o + dl * size ≤ xs.length) (hk : k = min sl dl)
    (he : xs.take o ++ ys.take (k * size) ++ xs.drop (o + k * size) = xs') :
    Acts P n F (Mem w0 olds l) (.call { callee := .builtin .copy, args := #[x, y], argTypes := #[T, T'] }) ty
      (fun _ u w' => u = vInt (k : Int) ∧ Mem w0 olds (upd l idx (some (b, blk xs' U))) w') := by
  subst hk; subst he
  exact acts_copy idx hx hy hp hT hS hrd hyl h1 hfit

/-! Conversions of an int that is a count. -/
theorem val_conv_n_u64 {T U : TypeId} {x : Operand} {i : Int} (k : Nat) (hT : P.underlying T = some (.int .i64)) (hU : P.underlying U = some (.int .u64)) (hx : ev F x = some (vInt i)) (hi : i = (k : Int)) : Val P n F S (.convert T U x) ty (vU64 (UInt64.ofNat k)) := by
  have h := val_conv_i64_u64 (P := P) (n := n) (S := S) (ty := ty) hT hU hx
  have e : UInt64.ofInt i = UInt64.ofNat k := by
    subst hi; unfold UInt64.ofInt; rw [← UInt64.toNat_inj, UInt64.toNat_ofNat', UInt64.toNat_ofNat']; omega
  rwa [e] at h
theorem val_conv_n_u32 {T U : TypeId} {x : Operand} {i : Int} (k : Nat) (hT : P.underlying T = some (.int .i64)) (hU : P.underlying U = some (.int .u32)) (hx : ev F x = some (vInt i)) (hi : i = (k : Int)) : Val P n F S (.convert T U x) ty (vU32 (UInt32.ofNat k)) := by
  have h := val_conv_i64_u32 (P := P) (n := n) (S := S) (ty := ty) hT hU hx
  have e : UInt32.ofInt i = UInt32.ofNat k := by
    subst hi; unfold UInt32.ofInt; rw [← UInt32.toNat_inj, UInt32.toNat_ofNat', UInt32.toNat_ofNat']; omega
  rwa [e] at h
theorem val_conv_n_u16 {T U : TypeId} {x : Operand} {i : Int} (k : Nat) (hT : P.underlying T = some (.int .i64)) (hU : P.underlying U = some (.int .u16)) (hx : ev F x = some (vInt i)) (hi : i = (k : Int)) : Val P n F S (.convert T U x) ty (vU16 (UInt16.ofNat k)) := by
  have h := val_conv_i64_u16 (P := P) (n := n) (S := S) (ty := ty) hT hU hx
  have e : UInt16.ofInt i = UInt16.ofNat k := by
    subst hi; unfold UInt16.ofInt; rw [← UInt16.toNat_inj, UInt16.toNat_ofNat', UInt16.toNat_ofNat']; omega
  rwa [e] at h
theorem val_conv_n_u8 {T U : TypeId} {x : Operand} {i : Int} (k : Nat) (hT : P.underlying T = some (.int .i64)) (hU : P.underlying U = some (.int .u8)) (hx : ev F x = some (vInt i)) (hi : i = (k : Int)) : Val P n F S (.convert T U x) ty (vU8 (UInt8.ofNat k)) := by
  have h := val_conv_i64_u8 (P := P) (n := n) (S := S) (ty := ty) hT hU hx
  have e : UInt8.ofInt i = UInt8.ofNat k := by
    subst hi; unfold UInt8.ofInt; rw [← UInt8.toNat_inj, UInt8.toNat_ofNat', UInt8.toNat_ofNat']; omega
  rwa [e] at h
/-- A cut behind the k-th element. -/
theorem val_slice_lo {T E : TypeId} {x y : Operand} {b o len cap m : Nat} {kl : IntKind} {i : Int} (k : Nat) (hx : ev F x = some (.slice (some ⟨b, o, none⟩) len cap)) (hy : ev F y = some (.int kl i)) (hT : P.underlying T = some (.slice E)) (hS : ∀ w, (sizeOf E).run P w = .ok m w)
    (hi : i = (k : Int)) (hk : k ≤ len) (hc : len ≤ cap) : Val P n F S (.slice T x (some y) none none) ty (.slice (some ⟨b, if cap = k then o else o + k * m, none⟩) (len - k) (cap - k)) := by
  subst hi
  refine val_slice (lk := kl) (hk := .i64) (some k) none _ hx hT hS (fun s hs => by simp [ev_eval hs hy]) (fun s hs => rfl) ⟨hk, hc⟩ ?_
  simp only [Option.getD_some, Option.getD_none]
  split <;> simp [add_none]
theorem val_slice_hi {T E : TypeId} {x y : Operand} {a : Option Addr} {len cap m : Nat} {kl : IntKind} {i : Int} (k : Nat) (hx : ev F x = some (.slice a len cap)) (hy : ev F y = some (.int kl i)) (hT : P.underlying T = some (.slice E)) (hS : ∀ w, (sizeOf E).run P w = .ok m w)
    (hi : i = (k : Int)) (hk : k ≤ cap) : Val P n F S (.slice T x none (some y) none) ty (.slice a k cap) := by
  subst hi
  refine val_slice (lk := .i64) (hk := kl) none (some k) _ hx hT hS (fun s hs => rfl) (fun s hs => by simp [ev_eval hs hy]) ⟨Nat.zero_le _, hk⟩ ?_
  simp only [Option.getD_some, Option.getD_none, Nat.sub_zero, Nat.zero_mul]
  split
  · rfl
  · cases a with
    | none => rfl
    | some ad => simp [Addr.add]
theorem val_slice_array_lo {T E : TypeId} {x y : Operand} {b o len m : Nat} {kl : IntKind} {i : Int} (k e : Nat) (hx : ev F x = some (.pointer (some ⟨b, o, none⟩))) (hy : ev F y = some (.int kl i)) (hT : P.underlying T = some (.array len E)) (hS : ∀ w, (sizeOf E).run P w = .ok m w)
    (hi : i = (k : Int)) (hk : k < len) (he : o + k * m = e) : Val P n F S (.slice T x (some y) none none) ty (.slice (some ⟨b, e, none⟩) (len - k) (len - k)) := by
  subst hi; subst he
  refine val_slice_array (lk := kl) (hk := .i64) (some k) none _ hx hT hS (fun s hs => by simp [ev_eval hs hy]) (fun s hs => rfl) ⟨by simp; omega, Nat.le_refl _⟩ ?_
  simp only [Option.getD_some, Option.getD_none]
  rw [if_neg (by omega)]
theorem val_slice_array_hi {T E : TypeId} {x y : Operand} {b o len m : Nat} {kl : IntKind} {i : Int} (k : Nat) (hx : ev F x = some (.pointer (some ⟨b, o, none⟩))) (hy : ev F y = some (.int kl i)) (hT : P.underlying T = some (.array len E)) (hS : ∀ w, (sizeOf E).run P w = .ok m w)
    (hi : i = (k : Int)) (hk : k ≤ len) : Val P n F S (.slice T x none (some y) none) ty (.slice (some ⟨b, o, none⟩) k len) := by
  subst hi
  refine val_slice_array (lk := .i64) (hk := kl) none (some k) _ hx hT hS (fun s hs => rfl) (fun s hs => by simp [ev_eval hs hy]) ⟨Nat.zero_le _, hk⟩ ?_
  simp
theorem val_slice_array_full {T E : TypeId} {x : Operand} {b o len m : Nat} (hx : ev F x = some (.pointer (some ⟨b, o, none⟩))) (hT : P.underlying T = some (.array len E)) (hS : ∀ w, (sizeOf E).run P w = .ok m w) :
    Val P n F S (.slice T x none none none) ty (.slice (some ⟨b, o, none⟩) len len) := by
  refine val_slice_array (lk := .i64) (hk := .i64) none none _ hx hT hS (fun s hs => rfl) (fun s hs => rfl) ⟨Nat.zero_le _, Nat.le_refl _⟩ ?_
  simp
/-- What is left behind a cut. -/
theorem Rd.drop {w : World} {b o : Nat} {xs : List Value} (h : Rd w (some ⟨b, o, none⟩) xs) {k m c len : Nat} (hl : xs.length = len * m) (hk : k ≤ len) (hc : len ≤ c) : Rd w (some ⟨b, if c = k then o else o + k * m, none⟩) (xs.drop (k * m)) := by
  split
  · rename_i e
    have : k = len := by omega
    subst this
    rw [List.drop_eq_nil_of_le (by omega)]; exact Rd.nil _ _
  · exact h.sub (k * m) (by rw [List.take_of_length_le (Nat.le_refl _)])
theorem Rd.drop1 {α : Type} {V : α → Value} {w : World} {b o : Nat} {p : List α} (h : Rd w (some ⟨b, o, none⟩) (p.map V)) {k c : Nat} (hk : k ≤ p.length) (hc : p.length ≤ c) : Rd w (some ⟨b, if c = k then o else o + k * 1, none⟩) ((p.drop k).map V) := by
  have := h.drop (k := k) (m := 1) (c := c) (len := p.length) (by simp) hk hc
  simpa [List.map_drop] using this
theorem Rd.take1 {α : Type} {V : α → Value} {w : World} {a : Option Addr} {p : List α} (h : Rd w a (p.map V)) (k : Nat) : Rd w a ((p.take k).map V) := fun j x hj => h j x (by
  rw [List.map_take, List.getElem?_take] at hj
  split at hj
  · exact hj
  · cases hj)

/-! Blocks of the beginning. -/
theorem Mem.oldBlk {w : World} (hm : Mem w0 [] l w) {b : Nat} {o : Obj} (hb : w0.heap[b]? = some o) : w.heap[b]? = some o :=
  (hm.keep b (Array.getElem?_eq_some_iff.1 hb).1 (by simp)).trans hb
theorem Mem.oldBlk' {w : World} (hm : Mem w0 olds l w) {b : Nat} {o : Obj} (hb : w0.heap[b]? = some o) (hn : b ∉ olds) : w.heap[b]? = some o :=
  (hm.keep b (Array.getElem?_eq_some_iff.1 hb).1 hn).trans hb
theorem val_load_old {T U : TypeId} {x : Operand} {b k : Nat} {v : Value} {xs : List Value} (hb : w0.heap[b]? = some (blk xs U)) (hn : b ∉ olds) (hx : ev F x = some (.pointer (some ⟨b, k, none⟩)))
    (hA : ∀ w, (isAgg T).run P w = .ok false w) (hv : xs[k]? = some v) : Val P n F (Mem w0 olds l) (.load T x) ty v := val_load hx hA fun _ h => (cell_of_blk (h.oldBlk' hb hn)).trans hv
theorem val_load_old_part {T U : TypeId} {x : Operand} {b o m : Nat} {xs cs : List Value} (hb : w0.heap[b]? = some (blk xs U)) (hn : b ∉ olds) (hx : ev F x = some (.pointer (some ⟨b, o, none⟩)))
    (hA : ∀ w, (isAgg T).run P w = .ok true w) (hS : ∀ w, (sizeOf T).run P w = .ok m w) (hl : cs.length = m) (hc : (xs.drop o).take m = cs) : Val P n F (Mem w0 olds l) (.load T x) ty (.agg cs.toArray) :=
  val_load_agg hx hA hS hl fun w h j v hj => by
    rw [cell_of_blk (h.oldBlk' hb hn)]
    rw [← hc, List.getElem?_take] at hj
    split at hj
    · rw [List.getElem?_drop] at hj; exact hj
    · cases hj
theorem val_load_old_all {T U : TypeId} {x : Operand} {b m : Nat} {xs : List Value} (hb : w0.heap[b]? = some (blk xs U)) (hn : b ∉ olds) (hx : ev F x = some (.pointer (some ⟨b, 0, none⟩)))
    (hA : ∀ w, (isAgg T).run P w = .ok true w) (hS : ∀ w, (sizeOf T).run P w = .ok m w) (hl : xs.length = m) : Val P n F (Mem w0 olds l) (.load T x) ty (.agg xs.toArray) :=
  val_load_old_part hb hn hx hA hS hl (by simp [← hl])

/-- Two known blocks are two. -/
theorem pick_ne : ∀ {l : List Ent} {i j : Nat} {b b' : Nat} {o o' : Obj}, (keys l).Nodup → pick l i = some (b, o) → pick l j = some (b', o') → i ≠ j → b ≠ b'
  | [], i, j, _, _, _, _, _, h, _, _ => by simp [pick] at h
  | z :: r, 0, 0, _, _, _, _, _, _, _, h => absurd rfl h
  | z :: r, 0, j + 1, b, b', o, o', hn, h, h', _ => by
    simp only [pick] at h h'; subst h
    rw [keys_cons_some, List.nodup_cons] at hn
    exact fun e => hn.1 (by simp only at e ⊢; rw [e]; exact mem_keys (pick_mem h'))
  | z :: r, i + 1, 0, b, b', o, o', hn, h, h', _ => by
    simp only [pick] at h h'; subst h'
    rw [keys_cons_some, List.nodup_cons] at hn
    exact fun e => hn.1 (by simp only at e ⊢; rw [← e]; exact mem_keys (pick_mem h))
  | z :: r, i + 1, j + 1, b, b', o, o', hn, h, h', hij => by
    refine pick_ne (l := r) ?_ h h' (by omega)
    cases z with
    | none => rwa [keys_cons_none] at hn
    | some x => rw [keys_cons_some, List.nodup_cons] at hn; exact hn.2
theorem Mem.ne {w : World} (hm : Mem w0 olds l w) {i j b b' : Nat} {o o' : Obj} (h : pick l i = some (b, o)) (h' : pick l j = some (b', o')) (hij : i ≠ j) : b ≠ b' := pick_ne hm.nodup h h' hij

/-- A call that hands back a value round a new block. -/
theorem ow_call_blk {ops : Array Oper} {t : Nat} {op : Op} {ps : String} {af : Array Edge} {rest : List Oper} {Q : Po} {f : FuncId} {args : Array Value} {o : Obj} (V : Nat → Value)
    (hv : CallsTo P n F (Mem w0 olds l) op ty f args) (ht : Nat.blt t n = true)
    (hc : ∀ w, Mem w0 olds l w → Calls P f args w fun e w' => ∃ u, e = .returned u ∧ ∃ b, u = V b ∧ Mem w [] [some (b, o)] w')
    (h : ∀ b, w0.heap.size ≤ b → OW P n ops rest ((t, V b) :: F) (Mem w0 olds (some (b, o) :: l)) Q) : OW P n ops (⟨some t, op, ty, ps, af, none⟩ :: rest) F (Mem w0 olds l) Q :=
  ow_call (fun _ u w' => ∃ b, w0.heap.size ≤ b ∧ u = V b ∧ Mem w0 olds (some (b, o) :: l) w') hv ht
    (fun _ hm => (hc _ hm).mono fun _ _ ⟨u, he, b, hu, hm'⟩ => ⟨u, he, b, by
      rcases hm'.fresh b (by simp [keys]) with h1 | h1
      · exact Nat.le_trans hm.size h1
      · simp at h1, hu, hm.call hm'⟩)
    (fun _ u _ a w' hf ⟨b, hb, hu, hm'⟩ => by subst hu; exact h b hb a w' hf hm')
/-- The bytes of a block are read. -/
theorem Rd.blk {w : World} {b : Nat} {xs : List Value} {T : TypeId} (h : w.heap[b]? = some (blk xs T)) : Rd w (some ⟨b, 0, none⟩) xs := fun j x hj => ⟨b, 0, rfl, by rw [Nat.zero_add, cell_of_blk h]; exact hj⟩

/-- make, told by what it makes. -/
theorem acts_make_to {T E : TypeId} {x y : Operand} {i : TypeInfo} {z : Value} {kl kc : IntKind} {il ic : Int} {vs : List Value} (len cap : Nat) (hx : ev F x = some (.int kl il)) (hy : ev F y = some (.int kc ic)) (hil : il = (len : Int)) (hic : ic = (cap : Int))
    (hT : P.underlying T = some (.slice E)) (hi : P.info? E = some i) (hz : i.zero = some z) (hle : len ≤ cap) (hb : i.bytes * cap ≤ 281474976710656) (h63 : cap ≤ 9223372036854775807) (hm : (madeCells z.cells (cap * i.size)).toList = vs) :
    Acts P n F (Mem w0 olds l) (.makeSlice T x y) ty (fun w u w' => u = .slice (some ⟨w.heap.size, 0, none⟩) len cap ∧ Mem w0 olds (some (w.heap.size, blk vs E) :: l) w') := by
  subst hil; subst hic; subst hm
  exact acts_make len cap hx hy hT hi hz hle hb h63
end
end Go.Sx
