import Derived.Test.YtpmnhmfahgchgaaDoorSxJ
set_option linter.unusedVariables false
set_option linter.unusedSimpArgs false
namespace Go.Sx
section
variable {P : Program} {n : Nat} {F : Fr} {S : World → Prop} {ty : TypeId} {w0 : World} {olds : List Nat} {m : List Ent}

theorem lw_act_eq {l : List Oper} {late : List Nat} {listed : Array Bool} {M M' : World → Prop} {Q : Po} {r : List (Nat × Nat)} {i t : Nat} {op : Op} {ps : String} {af : Array Edge} {v : Value}
    (ho : nth l i = some ⟨some t, op, ty, ps, af, none⟩) (hv : Acts P n F M op ty (fun _ u w' => u = v ∧ M' w')) (ht : Nat.blt t n = true)
    (hS : clean late (listed.setIfInBounds i true) = true → ∀ w, M' w → S w)
    (h : LW P n l S late r (listed.setIfInBounds i true) ((t, v) :: F) M' Q) : LW P n l S late ((i, 2) :: r) listed F M Q :=
  lw_act ho hv ht (fun hc w u w' _ hr => hS hc w' hr.2) (fun w u _ a w' hf hr => by obtain ⟨rfl, hm⟩ := hr; exact h a w' hf hm)

/-- append; the slice that was appended to is read on. x: the new block, if one was made; y: the old row's entry. -/
theorem acts_append2 {l : List Ent} {T E : TypeId} {x y : Operand} {i : TypeInfo} {z : Value} {size bytes k m c cv : Nat} {a av : Option Addr} {xs ys : List Value} {e : Ent} (idx : Nat)
    (hx : ev F x = some (.slice av k cv)) (hy : ev F y = some (.slice a m c)) (hp : pick l idx = e) (hrow : RowE (.slice av k cv) E size k xs e)
    (hT : P.underlying T = some (.slice E)) (hi : P.info? E = some i) (hz : i.zero = some z) (hs : i.size = size) (hby : i.bytes = bytes) (hzs : z.cells.size = size) (hsz : 0 < size)
    (hrd : ∀ w, Mem w0 olds l w → Rd w a ys) (hyl : ys.length = m * size) (h1 : ∀ u ∈ ys, u.oneCell' = true) (hb : (k + m) * bytes ≤ 140737488355328) (hkm : k + m ≤ 9223372036854775807) :
    Acts P n F (Mem w0 olds l) (.call { callee := .builtin .append, args := #[x, y], argTypes := #[T, T] }) ty
      (fun _ u w' => ∃ a' c' x' y', u = .slice a' (k + m) c' ∧ k + m ≤ c' ∧ (∀ w, Mem w0 olds [x', y'] w → Rd w a' (xs ++ ys) ∧ Rd w av xs) ∧ Mem w0 olds (x' :: upd l idx y') w') := by
  intro s w hf hm d ps af g
  have hrdw := hrd w hm
  subst hs; subst hby
  have hexec : ∀ (u : Value) (w' : World), (Builtin.append_ #[T, T] ty #[.slice av k cv, .slice a m c]).run P w = .ok u w' →
      (execOp s.eval ⟨d, .call { callee := .builtin .append, args := #[x, y], argTypes := #[T, T] }, ty, ps, af, g⟩).run P w = .ok (.value u) w' := by
    intro u w' h
    simp [execOp, resolve, ev_eval hf hx, ev_eval hf hy, invoke, builtin, h]
  have hupd : upd l idx e = l := by rw [← hp, upd_self]
  cases a with
  | none =>
    have hys : ys = [] := by
      cases ys with
      | nil => rfl
      | cons q r => obtain ⟨b, o, e, _⟩ := hrdw 0 q rfl; cases e
    subst hys
    have hm0 : m = 0 := by
      rcases Nat.eq_zero_or_pos m with h | h
      · exact h
      · have := Nat.mul_pos h hsz; simp at hyl; omega
    subst hm0
    refine ⟨.slice av k cv, w, hexec _ w ?_, av, cv, none, e, rfl, by simpa using hrow.le, fun w'' hw => ?_, by rw [hupd]; exact hm.place⟩
    · rcases hrow.2 with ⟨h0, rfl, _⟩ | ⟨b, cap, rest, h0, hc, _⟩
      · simp only [Value.slice.injEq] at h0; obtain ⟨rfl, _, rfl⟩ := h0
        simp [Builtin.append_, run_underlying hT, sizeOf, typeInfo, hi, Builtin.lenOf, Builtin.firstCells]
      · simp only [Value.slice.injEq] at h0; obtain ⟨rfl, _, rfl⟩ := h0
        simp [Builtin.append_, run_underlying hT, sizeOf, typeInfo, hi, Builtin.lenOf, Builtin.firstCells, hc, storeCells]
    · have := hrow.rdAt hw (i := 1) rfl
      exact ⟨by simpa using this, this⟩
  | some ad =>
    have hnews : ∀ j u, ys[j]? = some u → w.cell? (ad.add j) = some u := fun j u hj => by
      obtain ⟨b, o, e, hc⟩ := hrdw j u hj
      simp only [Option.some.injEq] at e; subst e
      rw [add_none]; exact hc
    have hcap := grownCap_ge w (k + m)
    have grown : ∀ (old : Nat), Mem w0 olds (some (w.heap.size, blk (xs ++ ys ++ (Builtin.zeroCells z.cells (grownCap w (k + m) old E - (k + m))).toList) E) :: l)
        (w.drew.alloc (.cells (xs.toArray ++ ys.toArray ++ Builtin.zeroCells z.cells (grownCap w (k + m) old E - (k + m))) E)) := fun old => by
      have h1 : Mem w0 olds l w.drew := hm.drawn _
      have h2 := h1.alloc (.cells (xs.toArray ++ ys.toArray ++ Builtin.zeroCells z.cells (grownCap w (k + m) old E - (k + m))) E)
      have h3 : (Obj.cells (xs.toArray ++ ys.toArray ++ Builtin.zeroCells z.cells (grownCap w (k + m) old E - (k + m))) E) = blk (xs ++ ys ++ (Builtin.zeroCells z.cells (grownCap w (k + m) old E - (k + m))).toList) E := by
        simp only [blk]; congr 1; apply Array.ext'; simp
      rw [h3] at h2 ⊢
      exact h2
    have growE : ∀ (old : Nat), RowE (.slice (some ⟨w.heap.size, 0, none⟩) (k + m) (grownCap w (k + m) old E)) E i.size (k + m) (xs ++ ys)
        (some (w.heap.size, blk (xs ++ ys ++ (Builtin.zeroCells z.cells (grownCap w (k + m) old E - (k + m))).toList) E)) := fun old => by
      have hge := grownCap_ge w (k + m) old E
      have hml := grownCap_le_maxLen w (k + m) old E (by simpa [maxLen] using hkm)
      refine ⟨by rw [List.length_append, hrow.1, hyl, Nat.add_mul], .inr ⟨_, _, _, rfl, hge, by simpa [maxLen] using hml, ?_, rfl⟩⟩
      simp only [List.length_append, Array.length_toList, size_zeroCells, hzs, hrow.1, hyl, ← Nat.add_mul]
      congr 1; omega
    rcases hrow.2 with ⟨h0, rfl, he⟩ | ⟨b, cap, rest, h0, hc, hcm, hcl, he⟩
    · simp only [Value.slice.injEq] at h0; obtain ⟨rfl, _, rfl⟩ := h0
      have hxs : xs = [] := List.length_eq_zero_iff.1 (by simpa using hrow.1)
      subst hxs
      rcases Nat.eq_zero_or_pos m with rfl | hpos
      · have hys : ys = [] := List.length_eq_zero_iff.1 (by simpa using hyl)
        subst hys
        refine ⟨.slice none 0 0, w, hexec _ w ?_, none, 0, none, e, rfl, Nat.le_refl _, fun w'' _ => ⟨Rd.nil _ _, Rd.nil _ _⟩, by rw [hupd]; exact hm.place⟩
        simp [Builtin.append_, run_underlying hT, sizeOf, typeInfo, hi, Builtin.lenOf, Builtin.firstCells, loadCells, loadCellsFrom]
      · have hr := run_append_nil (P := P) w T ty E i z hT hi hz ad m c ys hyl hnews hpos (by omega) (by simp only [Nat.zero_add] at hb; omega)
        have g1 := grown 0; have g2 := growE 0
        simp only [Nat.zero_add, List.nil_append, Array.empty_append] at g1 g2 ⊢
        exact ⟨_, _, hexec _ _ hr, _, _, _, e, rfl, g2.le, fun w'' hw => ⟨g2.rdAt hw (i := 0) rfl, Rd.nil _ _⟩, by rw [hupd]; exact g1⟩
    · simp only [Value.slice.injEq] at h0; obtain ⟨rfl, _, rfl⟩ := h0
      have hp' := hp.trans he
      have hbk := hm.at hp'
      by_cases hroom : k + m ≤ cv
      · have hfit : k * i.size + ys.length ≤ (xs ++ rest).toArray.size := by
          simp only [List.size_toArray, hcl, hyl, ← Nat.add_mul]; exact Nat.mul_le_mul_right _ hroom
        have hr := run_append_room (P := P) w T ty E i hT hi b k cv _ hbk ad m c ys hyl hnews h1 hroom hfit
        have hx1 : (xs ++ rest).take (k * i.size) = xs := by rw [← hrow.1]; exact List.take_left
        have hx2 : (xs ++ rest).drop (k * i.size + ys.length) = rest.drop ys.length := by rw [← hrow.1, ← List.drop_drop, List.drop_left]
        simp only [hx1, hx2] at hr
        have hne : RowE (.slice (some ⟨b, 0, none⟩) (k + m) cv) E i.size (k + m) (xs ++ ys) (some (b, blk (xs ++ ys ++ rest.drop ys.length) E)) :=
          ⟨by rw [List.length_append, hrow.1, hyl, Nat.add_mul], .inr ⟨b, cv, rest.drop ys.length, rfl, hroom, hcm, by
            simp only [List.size_toArray] at hfit
            simp only [List.length_append, List.length_drop] at hcl hfit ⊢
            have := hrow.1
            omega, rfl⟩⟩
        refine ⟨_, _, hexec _ _ hr, _, _, none, some (b, blk (xs ++ ys ++ rest.drop ys.length) E), rfl, hroom, fun w'' hw => ⟨hne.rdAt hw (i := 1) rfl, ?_⟩, Mem.place ?_⟩
        · exact Rd.own hw (i := 1) rfl (by simp)
        · refine hm.put hp' rfl rfl rfl (by simp) ?_ (fun j _ hj => setRow_other w b j _ hj)
          exact setRow_heap w b _ _ E _ hbk
      · have holds : ∀ j u, xs[j]? = some u → w.cell? ((⟨b, 0, none⟩ : Addr).add j) = some u := fun j u hj => by
          rw [add_none, Nat.zero_add, hm.cellAt hp', List.getElem?_append_left (List.getElem?_eq_some_iff.1 hj).1]; exact hj
        have hr := run_append_grow (P := P) w T ty E i z hT hi hz ⟨b, 0, none⟩ k cv xs hrow.1 holds ad m c ys hyl hnews (by omega) (by omega) (growslice_fits (by omega) hb)
        have g2 := growE cv
        exact ⟨_, _, hexec _ _ hr, _, _, _, e, rfl, g2.le, fun w'' hw => ⟨g2.rdAt hw (i := 0) rfl, hrow.rdAt hw (i := 1) rfl⟩, by rw [hupd]; exact grown cv⟩

theorem ow_append2 {l : List Ent} {ops : Array Oper} {t : Nat} {op : Op} {ps : String} {af : Array Edge} {rest : List Oper} {M : World → Prop} {Q : Po} {k idx : Nat} {av : Option Addr} {xs zs : List Value}
    (hv : Acts P n F M op ty (fun _ u w' => ∃ a' c' x' y', u = .slice a' k c' ∧ k ≤ c' ∧ (∀ w, Mem w0 olds [x', y'] w → Rd w a' zs ∧ Rd w av xs) ∧ Mem w0 olds (x' :: upd l idx y') w')) (ht : Nat.blt t n = true)
    (h : ∀ a c x y, k ≤ c → (∀ w, Mem w0 olds [x, y] w → Rd w a zs) → (∀ w, Mem w0 olds [x, y] w → Rd w av xs) → OW P n ops rest ((t, .slice a k c) :: F) (Mem w0 olds (x :: upd l idx y)) Q) :
    OW P n ops (⟨some t, op, ty, ps, af, none⟩ :: rest) F M Q := by
  intro a w hf hm
  refine wpList_plain rfl fun K hK => ?_
  unfold Oper.wp
  obtain ⟨v, w', e, a', c', x', y', rfl, hc, hr, hm'⟩ := hv a w hf hm (some t) ps af none
  rw [e]
  exact hK _ _ (h a' c' x' y' hc (fun w hw => (hr w hw).1) (fun w hw => (hr w hw).2) _ w' (hf.put ht _) hm')
theorem upd_upd : ∀ (l : List Ent) (i : Nat) (x y : Ent), upd (upd l i x) i y = upd l i y
  | [], _, _, _ => rfl
  | _ :: _, 0, _, _ => rfl
  | a :: l, i + 1, x, y => congrArg (a :: ·) (upd_upd l i x y)
/-- A loop that turns one entry only. -/
theorem sw_loop_ent {l : List Ent} {σ : Type} {c : Code} {Q : Po} (i : Nat) (O : σ → Ent) (I : σ → Prop) (H : σ → Fr) (μ : σ → Nat)
    (s0 : σ) (h0 : I s0) (hF : Sub (H s0) F) (hp : pick l i = O s0)
    (round : ∀ s, I s → SW P n c (H s) (Mem w0 olds (upd l i (O s))) (thenP (fun F' w' => ∃ s', I s' ∧ μ s' < μ s ∧ Sub (H s') F' ∧ Mem w0 olds (upd l i (O s')) w') Q)) :
    SW P n (.loop c) F (Mem w0 olds l) Q :=
  sw_loop I H (fun s => Mem w0 olds (upd l i (O s))) μ s0 h0 hF (fun w hm => by rw [← hp, upd_self]; exact hm) round
end
end Go.Sx
