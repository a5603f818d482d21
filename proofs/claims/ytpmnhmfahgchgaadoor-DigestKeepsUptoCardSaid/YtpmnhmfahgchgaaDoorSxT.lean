import Derived.Test.YtpmnhmfahgchgaaDoorSxS
set_option linter.unusedVariables false
set_option linter.unusedSimpArgs false
namespace Go.Sx

/-- The blocks of the list stand as it says. -/
def Held (l : List Ent) (w : World) : Prop := ∀ b o, some (b, o) ∈ l → w.heap[b]? = some o
theorem Mem.held {w0 w : World} {olds : List Nat} {l : List Ent} (h : Mem w0 olds l w) : Held l w := h.own
theorem Held.sub {l l' : List Ent} {w : World} (h : Held l w) (hs : l'.Sublist l) : Held l' w := fun b o hb => h b o (hs.subset hb)
theorem Mem.heldSub {w0 w : World} {olds : List Nat} {l l' : List Ent} (h : Mem w0 olds l w) (hs : l'.Sublist l) : Held l' w := h.held.sub hs
theorem Held.head {e : Ent} {l : List Ent} {w : World} (h : Held (e :: l) w) : Held [e] w := h.sub (.cons_cons _ (List.nil_sublist _))
theorem Held.tail {e : Ent} {l : List Ent} {w : World} (h : Held (e :: l) w) : Held l w := h.sub (.cons _ (List.Sublist.refl _))
theorem Held.blk {b : Nat} {xs : List Value} {T : TypeId} {l : List Ent} {w : World} (h : Held (some (b, blk xs T) :: l) w) : Rd w (some ⟨b, 0, none⟩) xs := Rd.blk (T := T) (h b _ List.mem_cons_self)
theorem RowE.held {a : Option Addr} {c k size : Nat} {T : TypeId} {xs : List Value} {e : Ent} (h : RowE (.slice a k c) T size k xs e) {w : World} (hh : Held [e] w) : Rd w a xs := by
  obtain ⟨_, ⟨hv, hk, he⟩ | ⟨b, cap, rest, hv, hc, hc2, hl, he⟩⟩ := h
  · have : xs = [] := List.length_eq_zero_iff.1 (by rename_i h1; rw [h1, hk, Nat.zero_mul])
    subst this; exact Rd.nil _ _
  · subst he
    simp only [Value.slice.injEq] at hv
    rw [hv.1]
    exact Rd.pre (Rd.blk (T := T) (hh b _ List.mem_cons_self))

section
variable {P : Program} {n : Nat} {F : Fr} {w0 : World} {olds : List Nat} {m : List Ent} {ty : TypeId}
/-- A call that leaves blocks of its own, of a number that nobody tells. -/
theorem ow_call_tail {ops : Array Oper} {t : Nat} {op : Op} {ps : String} {af : Array Edge} {rest : List Oper} {Q : Po} {f : FuncId} {args : Array Value} {σ : Type} (V : σ → Value) (E : σ → List Ent) (I : σ → Prop)
    (hv : CallsTo P n F (Mem w0 olds m) op ty f args) (ht : Nat.blt t n = true)
    (hc : ∀ w, Mem w0 olds m w → Calls P f args w fun e w' => ∃ u, e = .returned u ∧ ∃ s, u = V s ∧ I s ∧ Mem w [] (E s) w')
    (h : ∀ s, I s → OW P n ops rest ((t, V s) :: F) (Mem w0 olds (m ++ E s)) Q) :
    OW P n ops (⟨some t, op, ty, ps, af, none⟩ :: rest) F (Mem w0 olds m) Q :=
  ow_call_new (fun u l' => ∃ s, u = V s ∧ I s ∧ l' = E s) hv ht
    (fun w hm => (hc w hm).mono fun _ _ ⟨u, he, s, hu, hi, hm'⟩ => ⟨u, he, E s, ⟨s, hu, hi, rfl⟩, hm'⟩)
    (fun u l' ⟨s, hu, hi, hl⟩ => by
      subst hl; subst hu
      intro a w hf hm
      exact h s hi a w hf (hm.perm List.perm_append_comm))
end
/-- A callee that turned the block at i and the row at j, and left blocks of its own. -/
theorem Mem.callUpd2T {w0 w : World} {olds : List Nat} {l es : List Ent} (h : Mem w0 olds l w) {i j b : Nat} {o o' : Obj} {e e' : Ent} (hp : pick l i = some (b, o)) (hq : pick l j = e) (hij : i ≠ j) {w' : World}
    (h' : Mem w (b :: keys [e]) (some (b, o') :: e' :: es) w') : Mem w0 olds (upd (upd l i (some (b, o'))) j e' ++ es) w' := by
  have H := h.callUpd2 hp hq hij (h'.only (l' := [some (b, o'), e']) (.cons_cons _ (.cons_cons _ (List.nil_sublist _))))
  have hbl : b ∈ keys l := mem_keys (pick_mem hp)
  have hel : ∀ c, c ∈ keys [e] → c ∈ keys l := fun c hc => by
    obtain ⟨x, hx⟩ := keys_one hc
    exact mem_keys (pick_mem (hq.trans hx))
  have hnd := h'.nodup
  rw [show some (b, o') :: e' :: es = [some (b, o'), e'] ++ es from rfl, keys_append] at hnd
  have hnd' := List.nodup_append.1 hnd
  have hq1 : pick (upd l i (some (b, o'))) j = e := by rw [pick_upd_ne _ _ _ _ hij]; exact hq
  have hn1 : (keys (upd l i (some (b, o')))).Nodup := nodup_upd l i _ h.nodup (fun c x hc => by
    simp only [Option.some.injEq, Prod.mk.injEq] at hc; obtain ⟨rfl, rfl⟩ := hc; exact .inr ⟨o, hp⟩)
  have hk1 : ∀ c ∈ keys (upd l i (some (b, o'))), c ∈ keys l := fun c hc => by
    rcases keys_upd l i _ c hc with h1 | ⟨x, h1⟩
    · exact h1
    · simp only [Option.some.injEq, Prod.mk.injEq] at h1; rw [← h1.1]; exact hbl
  have hfr : ∀ c ∈ keys es, w.heap.size ≤ c ∨ c ∈ b :: keys [e] := fun c hc => h'.fresh c (by
    rw [show some (b, o') :: e' :: es = [some (b, o'), e'] ++ es from rfl, keys_append]; exact List.mem_append_right _ hc)
  refine ⟨H.os, H.tape, H.output, H.size, H.keep, fun c x hy => ?_, ?_, fun c hc => ?_⟩
  · rcases List.mem_append.1 hy with hy | hy
    · exact H.own c x hy
    · exact h'.own c x (List.mem_cons_of_mem _ (List.mem_cons_of_mem _ hy))
  · rw [keys_append]
    refine List.nodup_append.2 ⟨H.nodup, hnd'.2.1, fun c hc c2 hc2 hcc => ?_⟩
    subst hcc
    obtain ⟨x, hx⟩ := keys_mem hc
    rcases upd_mem hn1 _ hx with h1 | ⟨h1, h2⟩
    · exact hnd'.2.2 c (mem_keys (o := x) (by rw [← h1]; simp)) c hc2 rfl
    · rcases hfr c hc2 with h3 | h3
      · have := h.lt (hk1 c (mem_keys h1)); omega
      · rcases List.mem_cons.1 h3 with rfl | h3
        · exact hnd'.2.2 c (mem_keys (o := o') (by simp)) c hc2 rfl
        · obtain ⟨y, hy⟩ := keys_one h3
          exact h2 c x c y rfl (hq1.trans hy) rfl
  · rw [keys_append] at hc
    rcases List.mem_append.1 hc with hc | hc
    · exact H.fresh c hc
    · rcases hfr c hc with h3 | h3
      · have := h.size; exact .inl (by omega)
      · rcases List.mem_cons.1 h3 with rfl | h3
        · exact h.fresh c hbl
        · exact h.fresh c (hel c h3)
section
variable {P : Program} {n : Nat} {F : Fr} {w0 : World} {olds : List Nat} {m : List Ent} {ty : TypeId}
/-- A call that turns a block and a row and leaves blocks of its own. -/
theorem ow_call_wrT {ops : Array Oper} {t : Nat} {op : Op} {ps : String} {af : Array Edge} {rest : List Oper} {Q : Po} {f : FuncId} {args : Array Value} {b : Nat} {o : Obj} {e : Ent} {v : Value} {σ : Type} (i j : Nat) (O : σ → Obj) (E : σ → Ent) (T : σ → List Ent) (I : σ → Prop)
    (hp : pick m i = some (b, o)) (hq : pick m j = e) (hij : i ≠ j) (hv : CallsTo P n F (Mem w0 olds m) op ty f args) (ht : Nat.blt t n = true)
    (hc : ∀ w, Mem w0 olds m w → Mem w (b :: keys [e]) [some (b, o), e] w → Calls P f args w fun en w' => ∃ u, en = .returned u ∧ u = v ∧ ∃ s, I s ∧ Mem w (b :: keys [e]) (some (b, O s) :: E s :: T s) w')
    (h : ∀ s, I s → OW P n ops rest ((t, v) :: F) (Mem w0 olds (upd (upd m i (some (b, O s))) j (E s) ++ T s)) Q) :
    OW P n ops (⟨some t, op, ty, ps, af, none⟩ :: rest) F (Mem w0 olds m) Q :=
  ow_call (fun _ u w' => u = v ∧ ∃ s, I s ∧ Mem w0 olds (upd (upd m i (some (b, O s))) j (E s) ++ T s) w') hv ht
    (fun w hm => (hc w hm (hm.start2 hp hq hij)).mono fun _ _ ⟨u, he, hu, s, hi, hm'⟩ => ⟨u, he, hu, s, hi, hm.callUpd2T hp hq hij hm'⟩)
    (fun _ u _ a w' hf ⟨hu, s, hi, hm'⟩ => by subst hu; exact h s hi a w' hf hm')
end
end Go.Sx
