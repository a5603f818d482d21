import Derived.Test.YtpmnhmfahgchgaaDoorSxT
set_option linter.unusedVariables false
set_option linter.unusedSimpArgs false
namespace Go.Sx
variable {P : Program} {n : Nat} {F : Fr} {S : World → Prop} {ty : TypeId}
theorem val_shr_nat {T V : TypeId} {x y : Operand} {a : Nat} {k' : IntKind} {i : Int} (c : Nat) (hx : ev F x = some (vInt (a : Int))) (hy : ev F y = some (.int k' i)) (hi : i = (c : Int)) (hc : c < 64) : Val P n F S (.binOp .shr T x y V) ty (vInt ((a / 2 ^ c : Nat) : Int)) :=
  bin_int hx hy fun w => by
    subst hi
    have h1 : ¬ ((c : Int) < 0) := by omega
    have h2 : min (Int.toNat (c : Int)) 64 = c := by simp; omega
    simp only [binOp, Op.shift, vInt, h1, if_false, IntKind.bits, h2, Sem.run_pure, Result.ok.injEq, Value.int.injEq, true_and, and_true]
    have h4 : (2 : Int) ^ c = ((2 ^ c : Nat) : Int) := by simp
    rw [h4, ← Int.ofNat_fdiv]
section
variable {l : List Oper} {late : List Nat} {listed : Array Bool} {M S : World → Prop} {Q : Po} {r : List (Nat × Nat)} {i t : Nat} {op : Op} {ps : String} {af : Array Edge} {w0 : World} {olds : List Nat} {m : List Ent} {f : FuncId} {args : Array Value}
/-- A call that leaves blocks of its own, in a region of open order. -/
theorem lw_call_tail {σ : Type} (V : σ → Value) (E : σ → List Ent) (I : σ → Prop) (ho : nth l i = some ⟨some t, op, ty, ps, af, none⟩) (hv : CallsTo P n F (Mem w0 olds m) op ty f args) (ht : Nat.blt t n = true)
    (hc : ∀ w, Mem w0 olds m w → Calls P f args w fun e w' => ∃ u, e = .returned u ∧ ∃ s, u = V s ∧ I s ∧ Mem w [] (E s) w')
    (hS : clean late (listed.setIfInBounds i true) = true → False)
    (h : ∀ s, I s → LW P n l S late r (listed.setIfInBounds i true) ((t, V s) :: F) (Mem w0 olds (m ++ E s)) Q) : LW P n l S late ((i, 2) :: r) listed F (Mem w0 olds m) Q :=
  lw_call (fun _ u w' => ∃ s, u = V s ∧ I s ∧ Mem w0 olds (m ++ E s) w') ho hv ht
    (fun _ hm => (hc _ hm).mono fun _ _ ⟨u, he, s, hu, hi, hm'⟩ => ⟨u, he, s, hu, hi, (hm.call hm').perm List.perm_append_comm⟩) (fun hcl => (hS hcl).elim)
    (fun _ u _ a w' hf ⟨s, hu, hi, hm'⟩ => by subst hu; exact h s hi a w' hf hm')
theorem lw_call_row2 {E : TypeId} {size k : Nat} {xs : List Value} {x : Value} (ho : nth l i = some ⟨some t, op, ty, ps, af, none⟩) (hv : CallsTo P n F (Mem w0 olds m) op ty f args) (ht : Nat.blt t n = true)
    (hc : ∀ w, Mem w0 olds m w → Calls P f args w fun e w' => ∃ u, e = .returned u ∧ ∃ s e', u = .tuple #[s, x] ∧ RowE s E size k xs e' ∧ Mem w [] [e'] w')
    (hS : clean late (listed.setIfInBounds i true) = true → False)
    (h : ∀ a c e', RowE (.slice a k c) E size k xs e' → LW P n l S late r (listed.setIfInBounds i true) ((t, .tuple #[.slice a k c, x]) :: F) (Mem w0 olds (e' :: m)) Q) : LW P n l S late ((i, 2) :: r) listed F (Mem w0 olds m) Q :=
  lw_call (fun _ u w' => ∃ s e', u = .tuple #[s, x] ∧ RowE s E size k xs e' ∧ Mem w0 olds (e' :: m) w') ho hv ht
    (fun _ hm => (hc _ hm).mono fun _ _ ⟨u, he, s, e', hu, hr, hm'⟩ => ⟨u, he, s, e', hu, hr, hm.call hm'⟩) (fun hcl => (hS hcl).elim)
    (fun _ u _ a w' hf ⟨s, e', hu, hr, hm'⟩ => by
      subst hu
      obtain ⟨a', c', rfl, _⟩ := hr.slice
      exact h a' c' e' hr a w' hf hm')
end
end Go.Sx
