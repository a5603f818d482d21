/- Own blocks of unknown number: they stand at the end of the list of known blocks; what is made of them is told by facts that ask these blocks alone. -/
import Derived.Test.YtpmnhmfahgchgaaDoorSxS
set_option linter.unusedVariables false
set_option linter.unusedSimpArgs false
namespace Go.Sx

/-- The blocks of the list stand as it says. -/
def Held (l : List Ent) (w : World) : Prop := ∀ b o, some (b, o) ∈ l → w.heap[b]? = some o
theorem Mem.held {w0 w : World} {olds : List Nat} {l : List Ent} (h : Mem w0 olds l w) : Held l w := h.own
theorem Held.sub {l l' : List Ent} {w : World} (h : Held l w) (hs : l'.Sublist l) : Held l' w := fun b o hb => h b o (hs.subset hb)
theorem Mem.heldSub {w0 w : World} {olds : List Nat} {l l' : List Ent} (h : Mem w0 olds l w) (hs : l'.Sublist l) : Held l' w := h.held.sub hs
theorem Held.head {e : Ent} {l : List Ent} {w : World} (h : Held (e :: l) w) : Held [e] w := h.sub (.cons_cons _ (List.nil_sublist _))
theorem Held.tail {e : Ent} {l : List Ent} {w : World} (h : Held (e :: l) w) : Held l w := h.sub (.cons _ (List.Sublist.refl _))
theorem Held.blk {b : Nat} {xs : List Value} {T : TypeId} {l : List Ent} {w : World} (h : Held (some (b, blk xs T) :: l) w) : Rd w (some ⟨b, 0, none⟩) xs := Rd.blk (T := T) (h b _ List.mem_cons_self)
theorem RowE.held {a : Option Addr} {c k size : Nat} {T : TypeId} {xs : List Value} {e : Ent} (h : RowE (.slice a k c) T size k xs e) {w : World} (hh : Held [e] w) : Rd w a xs := by
  obtain ⟨_, ⟨hv, hk, he⟩ | ⟨b, cap, rest, hv, hc, hc2, hl, he⟩⟩ := h
  · have : xs = [] := List.length_eq_zero_iff.1 (by rename_i h1; rw [h1, hk, Nat.zero_mul])
    subst this; exact Rd.nil _ _
  · subst he
    simp only [Value.slice.injEq] at hv
    rw [hv.1]
    exact Rd.pre (Rd.blk (T := T) (hh b _ List.mem_cons_self))

section
variable {P : Program} {n : Nat} {F : Fr} {w0 : World} {olds : List Nat} {m : List Ent} {ty : TypeId}
/-- A call that leaves blocks of its own, of a number that nobody tells. -/
theorem ow_call_tail {ops : Array Oper} {t : Nat} {op : Op} {ps : String} {af : Array Edge} {rest : List Oper} {Q : Po} {f : FuncId} {args : Array Value} {σ : Type} (V : σ → Value) (E : σ → List Ent) (I : σ → Prop)
    (hv : CallsTo P n F (Mem w0 olds m) op ty f args) (ht : Nat.blt t n = true)
    (hc : ∀ w, Mem w0 olds m w → Calls P f args w fun e w' => ∃ u, e = .returned u ∧ ∃ s, u = V s ∧ I s ∧ Mem w [] (E s) w')
    (h : ∀ s, I s → OW P n ops rest ((t, V s) :: F) (Mem w0 olds (m ++ E s)) Q) :
    OW P n ops (⟨some t, op, ty, ps, af, none⟩ :: rest) F (Mem w0 olds m) Q :=
  ow_call_new (fun u l' => ∃ s, u = V s ∧ I s ∧ l' = E s) hv ht
    (fun w hm => (hc w hm).mono fun _ _ ⟨u, he, s, hu, hi, hm'⟩ => ⟨u, he, E s, ⟨s, hu, hi, rfl⟩, hm'⟩)
    (fun u l' ⟨s, hu, hi, hl⟩ => by
      subst hl; subst hu
      intro a w hf hm
      exact h s hi a w hf (hm.perm List.perm_append_comm))
end
end Go.Sx
