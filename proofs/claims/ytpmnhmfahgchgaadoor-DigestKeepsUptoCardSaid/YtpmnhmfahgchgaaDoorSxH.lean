import Derived.Test.YtpmnhmfahgchgaaDoorSxG
set_option linter.unusedVariables false
set_option linter.unusedSimpArgs false
namespace Go.Sx
section
variable {P : Program} {n : Nat} {F : Fr} {S : World → Prop} {ty : TypeId}

theorem into {y : Code} {M : World → Prop} {Q : Po} (h : SW P n y F M Q) : ∀ w, M w → thenP (fun F' w' => SW P n y F' (· = w') Q) Q .normal F w :=
  fun w hm a w' hf e => h a w' hf (by subst e; exact hm)
theorem SW.begin {c : Code} {Q : Po} {w : World} (h : SW P n c F (Mem w [] []) Q) : SW P n c F (· = w) Q :=
  fun a w' hf e => h a w' hf (by subst e; exact Mem.refl _)
theorem SW.beginRecv {c : Code} {Q : Po} {w : World} {b : Nat} {o : Obj} (hb : w.heap[b]? = some o) (h : SW P n c F (Mem w [b] [some (b, o)]) Q) : SW P n c F (· = w) Q :=
  fun a w' hf e => h a w' hf (by subst e; exact Mem.recv hb)

theorem get_map {α : Type} [Inhabited α] (V : α → Value) (W : List α) (k : Nat) (h : k < W.length) : (W.map V)[k]? = some (V (W.getD k default)) := by
  simp [h]
theorem get_map_append {α : Type} [Inhabited α] (V : α → Value) (W : List α) (r : List Value) (k : Nat) (h : k < W.length) : (W.map V ++ r)[k]? = some (V (W.getD k default)) := by
  rw [List.getElem?_append_left (by simpa using h)]; exact get_map V W k h
theorem get_skip {xs ys : List Value} {k m : Nat} {v : Value} (hm : xs.length = m) (h : ys[k]? = some v) : (xs ++ ys)[m + k]? = some v := by
  subst hm; rw [List.getElem?_append_right (by omega)]; simpa using h

theorem one_u8 (x : UInt8) : (vU8 x).oneCell' = true := rfl
theorem one_map {α : Type} (V : α → Value) (hV : ∀ a, (V a).oneCell' = true) (W : List α) : ∀ v ∈ W.map V, v.oneCell' = true := by
  intro v hv; obtain ⟨a, _, rfl⟩ := List.mem_map.1 hv; exact hV a
theorem one_u8s (W : List UInt8) : ∀ v ∈ W.map vU8, v.oneCell' = true := one_map _ (fun _ => rfl) W
theorem one_u32s (W : List UInt32) : ∀ v ∈ W.map vU32, v.oneCell' = true := one_map _ (fun _ => rfl) W

/-- A store into a list of one kind. -/
theorem does_store_map {α : Type} {V : α → Value} {T U : TypeId} {x y : Operand} {b k : Nat} {a : α} {w0 : World} {olds : List Nat} {l : List Ent} {W : List α} (i : Nat) (hx : ev F x = some (.pointer (some ⟨b, k, none⟩))) (hy : ev F y = some (V a))
    (hp : pick l i = some (b, blk (W.map V) U)) (h1 : (V a).oneCell' = true) (hS : ∀ w, (sizeOf T).run P w = .ok 1 w) (hk : k < W.length) :
    Does P n F (Mem w0 olds l) (.store T x y) ty (fun _ w' => Mem w0 olds (upd l i (some (b, blk ((W.set k a).map V) U))) w') := by
  rw [List.map_set]
  exact does_store i hx hy hp h1 hS (by simpa using hk)

theorem bool_if {p : Prop} [Decidable p] {b : Bool} (h : decide p = b) : (b = true → p) ∧ (b = false → ¬ p) := by
  subst h; exact ⟨of_decide_eq_true, of_decide_eq_false⟩

theorem lw_call_pure {l : List Oper} {late : List Nat} {listed : Array Bool} {Q : Po} {r : List (Nat × Nat)} {i t : Nat} {op : Op} {ps : String} {af : Array Edge} {w0 : World} {olds : List Nat} {m : List Ent} {f : FuncId} {args : Array Value} {v : Value}
    (ho : nth l i = some ⟨some t, op, ty, ps, af, none⟩) (hv : CallsTo P n F (Mem w0 olds m) op ty f args) (ht : Nat.blt t n = true)
    (hc : ∀ w, Mem w0 olds m w → Calls P f args w fun e w' => ∃ u, e = .returned u ∧ u = v ∧ Mem w [] [] w')
    (h : LW P n l (Mem w0 olds m) late r (listed.setIfInBounds i true) ((t, v) :: F) (Mem w0 olds m) Q) : LW P n l (Mem w0 olds m) late ((i, 2) :: r) listed F (Mem w0 olds m) Q :=
  lw_call (fun _ u w' => u = v ∧ Mem w0 olds m w') ho hv ht (fun _ hm => (hc _ hm).mono fun _ _ ⟨u, he, hu, hm'⟩ => ⟨u, he, hu, hm.call0 hm'⟩) (fun _ _ _ _ _ hr => hr.2)
    (fun _ u hm a w' hf ⟨hu, hm'⟩ => by subst hu; exact h a w' hf hm')

/-- A literal of a struct or an array. -/
theorem val_build' {T : TypeId} {parts : List (Nat × Operand)} {vs : List (Nat × Value)} {cs : List Value} (hv : evp F parts = some vs) (hb : P.built T vs = some cs.toArray) : Val P n F S (.build T parts.toArray) ty (.agg cs.toArray) :=
  val_build (fun a hf => by have := evp_eval hf hv; simp only [List.map_toArray]; rw [← this]) hb

theorem sub_nil (F : Fr) : Sub [] F := trivial
end
end Go.Sx
