import Derived.Test.YtpmnhmfahgchgaaDoorSxL
set_option linter.unusedVariables false
set_option linter.unusedSimpArgs false
namespace Go.Sx

theorem pick_upd_ne : ∀ (l : List Ent) (i j : Nat) (x : Ent), i ≠ j → pick (upd l i x) j = pick l j
  | [], _, _, _, _ => rfl
  | _ :: _, 0, 0, _, h => absurd rfl h
  | _ :: _, 0, _ + 1, _, _ => rfl
  | _ :: _, _ + 1, 0, _, _ => rfl
  | _ :: l, i + 1, j + 1, x, h => pick_upd_ne l i j x (by omega)

section
variable {w0 w : World} {olds : List Nat} {l : List Ent}

theorem keys_one {e : Ent} {b : Nat} (h : b ∈ keys [e]) : ∃ o, e = some (b, o) := by
  obtain ⟨o, ho⟩ := keys_mem h
  exact ⟨o, (List.mem_singleton.1 ho).symm⟩

/-- A callee that turned the block at i and the row at j. -/
theorem Mem.callUpd2 (h : Mem w0 olds l w) {i j b : Nat} {o o' : Obj} {e e' : Ent} (hp : pick l i = some (b, o)) (hq : pick l j = e) (hij : i ≠ j) {w' : World} (h' : Mem w (b :: keys [e]) [some (b, o'), e'] w') :
    Mem w0 olds (upd (upd l i (some (b, o'))) j e') w' := by
  have hbl : b ∈ keys l := mem_keys (pick_mem hp)
  have hel : ∀ c, c ∈ keys [e] → c ∈ keys l := fun c hc => by
    obtain ⟨x, hx⟩ := keys_one hc
    exact mem_keys (pick_mem (hq.trans hx))
  have hin : ∀ c, c ∈ b :: keys [e] → c ∈ keys l := fun c hc => by
    rcases List.mem_cons.1 hc with rfl | hc
    · exact hbl
    · exact hel c hc
  have hn1 : (keys (upd l i (some (b, o')))).Nodup := nodup_upd l i _ h.nodup (fun c x hc => by
    simp only [Option.some.injEq, Prod.mk.injEq] at hc; obtain ⟨rfl, rfl⟩ := hc; exact .inr ⟨o, hp⟩)
  have hq1 : pick (upd l i (some (b, o'))) j = e := by rw [pick_upd_ne _ _ _ _ hij]; exact hq
  have hk1 : ∀ c ∈ keys (upd l i (some (b, o'))), c ∈ keys l := fun c hc => by
    rcases keys_upd l i _ c hc with h1 | ⟨x, h1⟩
    · exact h1
    · simp only [Option.some.injEq, Prod.mk.injEq] at h1; rw [← h1.1]; exact hbl
  have he' : ∀ c x, e' = some (c, x) → w.heap.size ≤ c ∨ c ∈ keys [e] := fun c x hc => by
    have hnd := h'.nodup
    subst hc
    rcases h'.fresh c (by simp [keys]) with h1 | h1
    · exact .inl h1
    · rcases List.mem_cons.1 h1 with rfl | h1
      · simp [keys] at hnd
      · exact .inr h1
  refine ⟨h'.os.trans h.os, h'.tape.trans h.tape, h'.output.trans h.output, Nat.le_trans h.size h'.size, fun k hk hko => ?_, fun c x hy => ?_, nodup_upd _ j _ hn1 (fun c x hc => ?_), fun c hc => ?_⟩
  · have hnot : k ∉ b :: keys [e] := fun hkb => by
      rcases h.fresh k (hin k hkb) with h1 | h1
      · omega
      · exact hko h1
    have := h.size
    rw [h'.keep k (by omega) hnot]; exact h.keep k hk hko
  · rcases upd_mem hn1 _ hy with h1 | ⟨h1, h2⟩
    · exact h'.own c x (by rw [← h1]; simp)
    · rcases upd_mem h.nodup _ h1 with h3 | ⟨h3, h4⟩
      · exact h'.own c x (by rw [← h3]; simp)
      · have hcb : c ≠ b := h4 c x b o rfl hp
        have hnot : c ∉ b :: keys [e] := fun hc => by
          rcases List.mem_cons.1 hc with hc | hc
          · exact hcb hc
          · obtain ⟨y, hy'⟩ := keys_one hc
            exact h2 c x c y rfl (hq1.trans hy') rfl
        rw [h'.keep c (h.lt (mem_keys h3)) hnot]; exact h.own c x h3
  · rcases he' c x hc with h1 | h1
    · exact .inl (fun hk => by have := h.lt (hk1 c hk); omega)
    · obtain ⟨y, hy⟩ := keys_one h1
      exact .inr ⟨y, hq1.trans hy⟩
  · rcases keys_upd _ j _ c hc with h1 | ⟨x, h1⟩
    · exact h.fresh c (hk1 c h1)
    · rcases he' c x h1 with h2 | h2
      · have := h.size; exact .inl (by omega)
      · exact h.fresh c (hel c h2)

/-- The two entries, as a callee sees them. -/
theorem Mem.start2 (h : Mem w0 olds l w) {i j b : Nat} {o : Obj} {e : Ent} (hp : pick l i = some (b, o)) (hq : pick l j = e) (hij : i ≠ j) : Mem w (b :: keys [e]) [some (b, o), e] w := by
  refine ⟨rfl, rfl, rfl, Nat.le_refl _, fun _ _ _ => rfl, fun c x hy => ?_, ?_, fun c hc => .inr ?_⟩
  · rcases List.mem_cons.1 hy with h1 | h1
    · rw [← h1] at hp; exact h.at hp
    · rw [List.mem_singleton] at h1; rw [← h1] at hq; exact h.at hq
  · cases e with
    | none => simp [keys]
    | some x =>
      have := h.ne hp hq hij
      simp [keys, this]
  · cases e <;> simpa [keys] using hc
end

section
variable {P : Program} {n : Nat} {F : Fr} {S : World → Prop} {ty : TypeId} {w0 : World} {olds : List Nat} {l : List Ent}

/-- A call that turns a block that holds a slice, and the slice's row. -/
theorem ow_call_wr {ops : Array Oper} {t : Nat} {op : Op} {ps : String} {af : Array Edge} {rest : List Oper} {Q : Po} {f : FuncId} {args : Array Value} {b k : Nat} {o : Obj} {e : Ent} {v : Value} {E T : TypeId} {xs : List Value} (i j : Nat)
    (hp : pick l i = some (b, o)) (hq : pick l j = e) (hij : i ≠ j) (hv : CallsTo P n F (Mem w0 olds l) op ty f args) (ht : Nat.blt t n = true)
    (hc : ∀ w, Mem w0 olds l w → Mem w (b :: keys [e]) [some (b, o), e] w → Calls P f args w fun en w' => ∃ u, en = .returned u ∧ u = v ∧ ∃ a' c' e', RowE (.slice a' k c') E 1 k xs e' ∧ Mem w (b :: keys [e]) [some (b, blk [.slice a' k c'] T), e'] w')
    (h : ∀ a' c' e', RowE (.slice a' k c') E 1 k xs e' → OW P n ops rest ((t, v) :: F) (Mem w0 olds (upd (upd l i (some (b, blk [.slice a' k c'] T))) j e')) Q) :
    OW P n ops (⟨some t, op, ty, ps, af, none⟩ :: rest) F (Mem w0 olds l) Q :=
  ow_call (fun _ u w' => u = v ∧ ∃ a' c' e', RowE (.slice a' k c') E 1 k xs e' ∧ Mem w0 olds (upd (upd l i (some (b, blk [.slice a' k c'] T))) j e') w') hv ht
    (fun w hm => (hc w hm (hm.start2 hp hq hij)).mono fun _ _ ⟨u, he, hu, a', c', e', hr, hm'⟩ => ⟨u, he, hu, a', c', e', hr, hm.callUpd2 hp hq hij hm'⟩)
    (fun _ u _ a w' hf ⟨hu, a', c', e', hr, hm'⟩ => by subst hu; exact h a' c' e' hr a w' hf hm')

/-- Results: one in memory, one in a slot. -/
theorem ret_cell_two {fn : Func} {R : Value → World → Prop} {w : World} {t u : Nat} {T U : TypeId} {b m : Nat} {xs : List Value} {x : Value} (i : Nat) (hr : fn.results = #[.cell t T, .tmp u]) (hv : look F t = some (.pointer (some ⟨b, 0, none⟩))) (hx : look F u = some x)
    (hm : Mem w0 olds l w) (hp : pick l i = some (b, blk xs U)) (hA : ∀ w, (isAgg T).run P w = .ok true w) (hS : ∀ w, (sizeOf T).run P w = .ok m w) (hl : xs.length = m) (h : R (.tuple #[.agg xs.toArray, x]) w) : Ret P fn R .ret F w := by
  refine ⟨_, fun a hf => ?_, h⟩
  have h1 := loadVar_agg (P := P) (b := b) (o := 0) (hA w) (hS w) hl (fun j v hj => by rw [Nat.zero_add, hm.cellAt hp]; exact hj)
  have h2 : a.tmps[t]?.getD undef = .pointer (some ⟨b, 0, none⟩) := by
    rw [hf.has t _ hv]; rfl
  have h3 : a.tmps[u]?.getD undef = x := by
    rw [hf.has u _ hx]; rfl
  simp only [results, hr]
  simp [h2, h3, asAddr, h1]
end
end Go.Sx
