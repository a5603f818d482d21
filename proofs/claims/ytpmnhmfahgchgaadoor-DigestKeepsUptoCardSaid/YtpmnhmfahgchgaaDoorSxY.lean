import Derived.Test.YtpmnhmfahgchgaaDoorSxM
import Derived.Test.YtpmnhmfahgchgaaDoorSxU
import Derived.Laws.CopyRow
set_option linter.unusedVariables false
set_option linter.unusedSimpArgs false
namespace Go.Sx

def RowO (v : Value) (T : TypeId) (xs : List Value) (e : Ent) : Prop :=
  (v = .slice none 0 0 ∧ xs = [] ∧ e = none) ∨
    ∃ b c pre rest, v = .slice (some ⟨b, pre.length, none⟩) xs.length c ∧ xs.length ≤ c ∧ c ≤ 9223372036854775807 ∧ c ≤ xs.length + rest.length ∧ e = some (b, blk (pre ++ xs ++ rest) T)

section
variable {P : Program} {n : Nat} {F : Fr} {w0 : World} {olds : List Nat} {l : List Ent} {ty : TypeId}
theorem RowO.nil (T : TypeId) : RowO (.slice none 0 0) T [] none := .inl ⟨rfl, rfl, rfl⟩
theorem RowO.slice {v : Value} {T : TypeId} {xs : List Value} {e : Ent} (h : RowO v T xs e) : ∃ a c, v = .slice a xs.length c ∧ xs.length ≤ c := by
  rcases h with ⟨rfl, rfl, rfl⟩ | ⟨b, c, pre, rest, rfl, hc, _, _, rfl⟩
  · exact ⟨none, 0, rfl, Nat.le_refl _⟩
  · exact ⟨_, c, rfl, hc⟩
theorem RowO.rdAt {a : Option Addr} {k c : Nat} {T : TypeId} {xs : List Value} {e : Ent} (h : RowO (.slice a k c) T xs e) {w : World} (hm : Mem w0 olds l w) {i : Nat} (hp : pick l i = e) : Rd w a xs := by
  rcases h with ⟨_, rfl, _⟩ | ⟨b, c', pre, rest, hv, hc, _, _, rfl⟩
  · exact Rd.nil _ _
  · simp only [Value.slice.injEq] at hv
    rw [hv.1]
    exact Rd.own hm hp (by rw [List.append_assoc, List.drop_left, List.take_left])
/-- A row that is not empty: its block. -/
theorem RowO.blk {a : Option Addr} {k c : Nat} {T : TypeId} {xs : List Value} {e : Ent} (h : RowO (.slice a k c) T xs e) (h0 : 0 < xs.length) :
    ∃ b pre rest, a = some ⟨b, pre.length, none⟩ ∧ k = xs.length ∧ xs.length ≤ c ∧ c ≤ 9223372036854775807 ∧ c ≤ xs.length + rest.length ∧ e = some (b, blk (pre ++ xs ++ rest) T) := by
  rcases h with ⟨_, rfl, _⟩ | ⟨b, c', pre, rest, hv, hc, hm, hr, rfl⟩
  · exact absurd h0 (by simp)
  · simp only [Value.slice.injEq] at hv
    obtain ⟨rfl, rfl, rfl⟩ := hv
    exact ⟨b, pre, rest, rfl, rfl, hc, hm, hr, rfl⟩
/-- The first element written over and taken off. -/
theorem RowO.pop {b c k : Nat} {T : TypeId} {pre xs rest : List Value} {x : Value} (hk : k = xs.length) (hc : xs.length + 1 ≤ c) (hm : c ≤ 9223372036854775807) (hr : c ≤ xs.length + 1 + rest.length) :
    RowO (.slice (some ⟨b, if c = 1 then pre.length else pre.length + 1 * 1, none⟩) k (c - 1)) T xs (some (b, Go.Sx.blk (pre ++ x :: xs ++ rest) T)) := by
  subst hk
  by_cases h : c = 1
  · obtain rfl : xs = [] := List.length_eq_zero_iff.1 (by omega)
    rw [if_pos h]
    exact .inr ⟨b, c - 1, pre, x :: rest, rfl, by simp, by omega, by simp; omega, by simp⟩
  · rw [if_neg h]
    exact .inr ⟨b, c - 1, pre ++ [x], rest, by simp, by omega, by omega, by omega, by simp⟩
theorem run_append_room_off (w : World) (t ty e : TypeId) (i : TypeInfo) (ht : P.underlying t = some (.slice e)) (hi : P.info? e = some i)
    (g off sLen sCap : Nat) (cur : Array Value) (hg : w.heap[g]? = some (.cells cur e (0, 0)))
    (a : Addr) (m c : Nat) (news : List Value) (hl : news.length = m * i.size) (hnews : ∀ j u, news[j]? = some u → w.cell? (a.add j) = some u) (h1 : ∀ u ∈ news, u.oneCell' = true)
    (hroom : sLen + m ≤ sCap) (hfit : off + sLen * i.size + news.length ≤ cur.size) :
    (Builtin.append_ #[t, t] ty #[.slice (some ⟨g, off, none⟩) sLen sCap, .slice (some a) m c]).run P w =
      .ok (.slice (some ⟨g, off, none⟩) (sLen + m) sCap) (w.setRow g (cur.toList.take (off + sLen * i.size) ++ news ++ cur.toList.drop (off + sLen * i.size + news.length)).toArray) := by
  have hf := run_firstCells_some (P := P) w i.size m a m c news hl hnews
  have hst := run_storeCells_at P g (off + sLen * i.size) e news 0 cur w hg (by simpa using hfit) h1
  simp only [Nat.add_zero] at hst
  simp [Builtin.append_, run_underlying ht, sizeOf, typeInfo, hi, Builtin.lenOf, hroom, hf, Addr.add_lit, hst]
theorem acts_append_o {T E : TypeId} {x y : Operand} {i : TypeInfo} {z v : Value} {bytes m c : Nat} {ad : Addr} {xs ys : List Value} {e : Ent} (idx : Nat)
    (hx : ev F x = some v) (hy : ev F y = some (.slice (some ad) m c)) (hp : pick l idx = e) (hrow : RowO v E xs e) (hlen : Nat.blt idx l.length = true)
    (hT : P.underlying T = some (.slice E)) (hi : P.info? E = some i) (hz : i.zero = some z) (hs : i.size = 1) (hby : i.bytes = bytes) (hzs : z.cells.size = 1) (hm0 : 0 < m)
    (hrd : ∀ w, Mem w0 olds l w → Rd w (some ad) ys) (hyl : ys.length = m) (h1 : ∀ u ∈ ys, u.oneCell' = true) (hb : (xs.length + m) * bytes ≤ 140737488355328) (hkm : xs.length + m ≤ 9223372036854775807) :
    Acts P n F (Mem w0 olds l) (.call { callee := .builtin .append, args := #[x, y], argTypes := #[T, T] }) ty
      (fun _ u w' => ∃ e', RowO u E (xs ++ ys) e' ∧ Mem w0 olds (upd l idx e') w') := by
  intro s w hf hm d ps af g
  have hrdw := hrd w hm
  subst hby
  have hexec : ∀ (u : Value) (w' : World), (Builtin.append_ #[T, T] ty #[v, .slice (some ad) m c]).run P w = .ok u w' →
      (execOp s.eval ⟨d, .call { callee := .builtin .append, args := #[x, y], argTypes := #[T, T] }, ty, ps, af, g⟩).run P w = .ok (.value u) w' := by
    intro u w' h
    simp [execOp, resolve, ev_eval hf hx, ev_eval hf hy, invoke, builtin, h]
  have hnews : ∀ j u, ys[j]? = some u → w.cell? (ad.add j) = some u := fun j u hj => by
    obtain ⟨b, o, e, hc⟩ := hrdw j u hj
    simp only [Option.some.injEq] at e; subst e
    rw [add_none]; exact hc
  have hyl' : ys.length = m * i.size := by rw [hs, Nat.mul_one]; exact hyl
  -- behind a growth
  have grown : ∀ (old : Nat), Mem w0 olds (upd l idx (some (w.heap.size, blk ([] ++ (xs ++ ys) ++ (Builtin.zeroCells z.cells (grownCap w (xs.length + m) old E - (xs.length + m))).toList) E)))
      (w.drew.alloc (.cells (xs.toArray ++ ys.toArray ++ Builtin.zeroCells z.cells (grownCap w (xs.length + m) old E - (xs.length + m))) E)) := fun old =>
    hm.renew idx rfl rfl rfl (by simp) (Nat.le_refl _) (by
      have := heap_alloc_new w.drew (.cells (xs.toArray ++ ys.toArray ++ Builtin.zeroCells z.cells (grownCap w (xs.length + m) old E - (xs.length + m))) E)
      simp only [blk]
      refine this.trans ?_
      congr 2
      apply Array.ext'
      simp) (fun j hj => RowKit.Below.heap_alloc w.drew _ j hj)
  have growE : ∀ (old : Nat), RowO (.slice (some ⟨w.heap.size, 0, none⟩) (xs.length + m) (grownCap w (xs.length + m) old E)) E (xs ++ ys)
      (some (w.heap.size, blk ([] ++ (xs ++ ys) ++ (Builtin.zeroCells z.cells (grownCap w (xs.length + m) old E - (xs.length + m))).toList) E)) := fun old => by
    have hge := grownCap_ge w (xs.length + m) old E
    have hml := grownCap_le_maxLen w (xs.length + m) old E (by simpa [maxLen] using hkm)
    refine .inr ⟨_, grownCap w (xs.length + m) old E, [], _, by rw [List.length_append, hyl]; rfl, by rw [List.length_append, hyl]; exact hge, by simpa [maxLen] using hml, ?_, rfl⟩
    simp only [List.length_append, Array.length_toList, size_zeroCells, hzs, hyl]
    omega
  rcases hrow with ⟨rfl, rfl, rfl⟩ | ⟨b, cap, pre, rest, rfl, hc, hcm, hcl, rfl⟩
  · have hr := run_append_nil (P := P) w T ty E i z hT hi hz ad m c ys hyl' hnews hm0 (by simp at hkm; omega) (by simp only [List.length_nil, Nat.zero_add] at hb; omega)
    have g1 := grown 0; have g2 := growE 0
    simp only [List.length_nil, Nat.zero_add, List.nil_append, Array.empty_append] at g1 g2 ⊢
    exact ⟨_, _, hexec _ _ hr, _, g2, g1⟩
  · have hbk := hm.at hp
    by_cases hroom : xs.length + m ≤ cap
    · have hfit : pre.length + xs.length * i.size + ys.length ≤ (pre ++ xs ++ rest).toArray.size := by
        rw [hs, Nat.mul_one]; simp only [List.size_toArray, List.length_append, hyl]; omega
      have hr := run_append_room_off (P := P) w T ty E i hT hi b pre.length xs.length cap _ hbk ad m c ys hyl' hnews h1 hroom hfit
      have hx1 : (pre ++ xs ++ rest).take (pre.length + xs.length * i.size) = pre ++ xs := by
        rw [hs, Nat.mul_one]; exact List.take_left' (by rw [List.length_append])
      have hx2 : (pre ++ xs ++ rest).drop (pre.length + xs.length * i.size + ys.length) = rest.drop ys.length := by
        rw [hs, Nat.mul_one, ← List.drop_drop, List.drop_left' (by rw [List.length_append])]
      simp only [hx1, hx2] at hr
      refine ⟨_, _, hexec _ _ hr, some (b, blk (pre ++ (xs ++ ys) ++ rest.drop ys.length) E), .inr ⟨b, cap, pre, rest.drop ys.length, by rw [List.length_append, hyl], by rw [List.length_append, hyl]; exact hroom, hcm, ?_, rfl⟩, ?_⟩
      · rw [List.length_append, List.length_drop, hyl]; omega
      · refine hm.put hp rfl rfl rfl (by simp) ?_ (fun j _ hj => setRow_other w b j _ hj)
        have h9 := setRow_heap w b _ (pre ++ xs ++ ys ++ rest.drop ys.length).toArray E _ hbk
        rw [← List.append_assoc]; exact h9
    · have holds : ∀ j u, xs[j]? = some u → w.cell? ((⟨b, pre.length, none⟩ : Addr).add j) = some u := fun j u hj => by
        have hlt := (List.getElem?_eq_some_iff.1 hj).1
        rw [add_none, hm.cellAt hp, List.getElem?_append_left (by rw [List.length_append]; omega), List.getElem?_append_right (by omega), Nat.add_sub_cancel_left]; exact hj
      have hr := run_append_grow (P := P) w T ty E i z hT hi hz ⟨b, pre.length, none⟩ xs.length cap xs (by rw [hs, Nat.mul_one]) holds ad m c ys hyl' hnews (by omega) (by omega) (growslice_fits (by omega) hb)
      have g1 := grown cap
      simp only [List.nil_append] at g1
      have g2 := growE cap
      simp only [List.nil_append] at g2
      exact ⟨_, _, hexec _ _ hr, _, g2, g1⟩
theorem ow_append_o {ops : Array Oper} {t : Nat} {op : Op} {ps : String} {af : Array Edge} {rest : List Oper} {M : World → Prop} {Q : Po} {E : TypeId} {idx : Nat} {xs : List Value}
    (hv : Acts P n F M op ty (fun _ u w' => ∃ e', RowO u E xs e' ∧ Mem w0 olds (upd l idx e') w')) (ht : Nat.blt t n = true)
    (h : ∀ a c e', RowO (.slice a xs.length c) E xs e' → OW P n ops rest ((t, .slice a xs.length c) :: F) (Mem w0 olds (upd l idx e')) Q) : OW P n ops (⟨some t, op, ty, ps, af, none⟩ :: rest) F M Q := by
  intro a w hf hm
  refine wpList_plain rfl fun K hK => ?_
  unfold Oper.wp
  obtain ⟨v, w', e, ⟨e', hr, hm'⟩⟩ := hv a w hf hm (some t) ps af none
  obtain ⟨a', c', rfl, _⟩ := hr.slice
  rw [e]
  exact hK _ _ (h a' c' e' hr _ w' (hf.put ht _) hm')
/-- A call that turns a block and a row. -/
theorem ow_call_two {σ : Type} {ops : Array Oper} {t : Nat} {op : Op} {ps : String} {af : Array Edge} {rest : List Oper} {Q : Po} {f : FuncId} {args : Array Value} {b : Nat} {o : Obj} {e : Ent} (V : σ → Value) (O : σ → Obj) (E : σ → Ent) (I : σ → Prop) (i j : Nat)
    (hp : pick l i = some (b, o)) (hq : pick l j = e) (hij : i ≠ j) (hv : CallsTo P n F (Mem w0 olds l) op ty f args) (ht : Nat.blt t n = true)
    (hc : ∀ w, Mem w0 olds l w → Mem w (b :: keys [e]) [some (b, o), e] w → Calls P f args w fun en w' => ∃ u, en = .returned u ∧ ∃ s, u = V s ∧ I s ∧ Mem w (b :: keys [e]) [some (b, O s), E s] w')
    (h : ∀ s, I s → OW P n ops rest ((t, V s) :: F) (Mem w0 olds (upd (upd l i (some (b, O s))) j (E s))) Q) :
    OW P n ops (⟨some t, op, ty, ps, af, none⟩ :: rest) F (Mem w0 olds l) Q :=
  ow_call (fun _ u w' => ∃ s, u = V s ∧ I s ∧ Mem w0 olds (upd (upd l i (some (b, O s))) j (E s)) w') hv ht
    (fun w hm => (hc w hm (hm.start2 hp hq hij)).mono fun _ _ ⟨u, he, s, hu, hi, hm'⟩ => ⟨u, he, s, hu, hi, hm.callUpd2 hp hq hij hm'⟩)
    (fun _ u _ a w' hf ⟨s, hu, hi, hm'⟩ => by subst hu; exact h s hi a w' hf hm')

theorem keys_app (l m : List Ent) : keys (l ++ m) = keys l ++ keys m := by
  induction l with
  | nil => rfl
  | cons x r ih => cases x <;> simp [keys, ih]
theorem mem_keys' {l : List Ent} {b : Nat} (h : b ∈ keys l) : ∃ o, some (b, o) ∈ l := by
  obtain ⟨x, hx, hb⟩ := List.mem_filterMap.1 h
  cases x with
  | none => cases hb
  | some y =>
    have e : y.1 = b := Option.some.inj hb
    subst e; exact ⟨y.2, hx⟩
/-- A callee that knows, and turns, a part of what is known. -/
theorem Mem.frame {w w' : World} {l1 l1' l2 : List Ent} (h : Mem w0 olds (l1 ++ l2) w) (h' : Mem w (keys l1) l1' w') : Mem w0 olds (l1' ++ l2) w' := by
  have hn := h.nodup
  rw [keys_app] at hn
  have hlt : ∀ b o, some (b, o) ∈ l1 ++ l2 → b < w.heap.size := fun b o hb => (Array.getElem?_eq_some_iff.1 (h.own b o hb)).1
  have hk2 : ∀ b ∈ keys l2, b < w.heap.size ∧ b ∉ keys l1 := fun b hb => by
    obtain ⟨o, ho⟩ := mem_keys' hb
    exact ⟨hlt b o (List.mem_append_right _ ho), fun h1 => (List.nodup_append.1 hn).2.2 b h1 b hb rfl⟩
  refine ⟨h'.os.trans h.os, h'.tape.trans h.tape, h'.output.trans h.output, Nat.le_trans h.size h'.size, fun k hk ho => ?_, fun b o hb => ?_, ?_, fun b hb => ?_⟩
  · rw [h'.keep k (Nat.lt_of_lt_of_le hk h.size) (fun h1 => ?_), h.keep k hk ho]
    rcases h.fresh k (by rw [keys_app]; exact List.mem_append_left _ h1) with h2 | h2
    · omega
    · exact ho h2
  · rcases List.mem_append.1 hb with h1 | h1
    · exact h'.own b o h1
    · have h3 := hk2 b (mem_keys h1)
      rw [h'.keep b h3.1 h3.2]; exact h.own b o (List.mem_append_right _ h1)
  · rw [keys_app]
    refine List.nodup_append.2 ⟨h'.nodup, (List.nodup_append.1 hn).2.1, fun a ha b hb e => ?_⟩
    subst e
    have h3 := hk2 a hb
    rcases h'.fresh a ha with h4 | h4
    · omega
    · exact h3.2 h4
  · rw [keys_app] at hb
    rcases List.mem_append.1 hb with h1 | h1
    · rcases h'.fresh b h1 with h2 | h2
      · exact .inl (Nat.le_trans h.size h2)
      · exact h.fresh b (by rw [keys_app]; exact List.mem_append_left _ h2)
    · exact h.fresh b (by rw [keys_app]; exact List.mem_append_right _ h1)
theorem Mem.startL {w : World} {l1 l2 : List Ent} (h : Mem w0 olds (l1 ++ l2) w) : Mem w (keys l1) l1 w :=
  (h.only (List.sublist_append_left _ _)).start
theorem ow_call_frame {σ : Type} {ops : Array Oper} {t : Nat} {op : Op} {ps : String} {af : Array Edge} {rest : List Oper} {Q : Po} {f : FuncId} {args : Array Value} (V : σ → Value) (L : σ → List Ent) (I : σ → Prop) (l1 l2 : List Ent)
    (hv : CallsTo P n F (Mem w0 olds (l1 ++ l2)) op ty f args) (ht : Nat.blt t n = true)
    (hc : ∀ w, Mem w0 olds (l1 ++ l2) w → Mem w (keys l1) l1 w → Calls P f args w fun en w' => ∃ u, en = .returned u ∧ ∃ s, u = V s ∧ I s ∧ Mem w (keys l1) (L s) w')
    (h : ∀ s, I s → OW P n ops rest ((t, V s) :: F) (Mem w0 olds (L s ++ l2)) Q) :
    OW P n ops (⟨some t, op, ty, ps, af, none⟩ :: rest) F (Mem w0 olds (l1 ++ l2)) Q :=
  ow_call (fun _ u w' => ∃ s, u = V s ∧ I s ∧ Mem w0 olds (L s ++ l2) w') hv ht
    (fun w hm => (hc w hm hm.startL).mono fun _ _ ⟨u, he, s, hu, hi, hm'⟩ => ⟨u, he, s, hu, hi, hm.frame hm'⟩)
    (fun _ u _ a w' hf ⟨s, hu, hi, hm'⟩ => by subst hu; exact h s hi a w' hf hm')
/-- The same, the list told outright. -/
theorem ow_call_two' {σ : Type} {ops : Array Oper} {t : Nat} {op : Op} {ps : String} {af : Array Edge} {rest : List Oper} {Q : Po} {f : FuncId} {args : Array Value} {b : Nat} {o : Obj} {e : Ent} (V : σ → Value) (O : σ → Obj) (E : σ → Ent) (I : σ → Prop) (l' : σ → List Ent) (i j : Nat)
    (hp : pick l i = some (b, o)) (hq : pick l j = e) (hij : i ≠ j) (hl : ∀ s, upd (upd l i (some (b, O s))) j (E s) = l' s) (hv : CallsTo P n F (Mem w0 olds l) op ty f args) (ht : Nat.blt t n = true)
    (hc : ∀ w, Mem w0 olds l w → Mem w (b :: keys [e]) [some (b, o), e] w → Calls P f args w fun en w' => ∃ u, en = .returned u ∧ ∃ s, u = V s ∧ I s ∧ Mem w (b :: keys [e]) [some (b, O s), E s] w')
    (h : ∀ s, I s → OW P n ops rest ((t, V s) :: F) (Mem w0 olds (l' s)) Q) :
    OW P n ops (⟨some t, op, ty, ps, af, none⟩ :: rest) F (Mem w0 olds l) Q :=
  ow_call_two V O E I i j hp hq hij hv ht hc fun s hs => by rw [hl s]; exact h s hs
/-- A call that only reads a block and a row. -/
theorem ow_call_keep {ops : Array Oper} {t : Nat} {op : Op} {ps : String} {af : Array Edge} {rest : List Oper} {Q : Po} {f : FuncId} {args : Array Value} {b : Nat} {o : Obj} {e : Ent} {v : Value} (i j : Nat)
    (hp : pick l i = some (b, o)) (hq : pick l j = e) (hij : i ≠ j) (hv : CallsTo P n F (Mem w0 olds l) op ty f args) (ht : Nat.blt t n = true)
    (hc : ∀ w, Mem w0 olds l w → Mem w (b :: keys [e]) [some (b, o), e] w → Calls P f args w fun en w' => ∃ u, en = .returned u ∧ u = v ∧ Mem w (b :: keys [e]) [some (b, o), e] w')
    (h : OW P n ops rest ((t, v) :: F) (Mem w0 olds l) Q) :
    OW P n ops (⟨some t, op, ty, ps, af, none⟩ :: rest) F (Mem w0 olds l) Q :=
  ow_call_two' (σ := Unit) (fun _ => v) (fun _ => o) (fun _ => e) (fun _ => True) (fun _ => l) i j hp hq hij
    (fun _ => by
      rw [← hp, upd_self, ← hq, upd_self])
    hv ht (fun w hm hm2 => (hc w hm hm2).mono fun _ _ ⟨u, he, hu, hm3⟩ => ⟨u, he, (), hu, trivial, hm3⟩) (fun _ _ => h)
theorem ow_sub {ops : Array Oper} {rest : List Oper} {Q : Po} {M M' : World → Prop} (hs : ∀ w, M w → M' w) (h : OW P n ops rest F M' Q) : OW P n ops rest F M Q := fun a w hf hm => h a w hf (hs w hm)
theorem guard_str {op : BinOp} {T : TypeId} {x y : Operand} {p q : ByteArray} (w : World) : (eqGuard op T x y (.string p) (.string q)).run P w = .ok () w := by
  cases op <;> simp [eqGuard]
theorem val_eql_str {S : World → Prop} {T V : TypeId} {x y : Operand} {a : ByteArray} (hx : ev F x = some (.string a)) (hy : ev F y = some (.string a)) : Val P n F S (.binOp .eql T x y V) ty (.bool true) :=
  bin_ok hx hy guard_str fun w => by simp [binOp, Op.stringOp]
end
end Go.Sx
namespace Go.Ps
end Go.Ps
