import Derived.Test.YtpmnhmfahgchgaaDoorSxK
set_option linter.unusedVariables false
set_option linter.unusedSimpArgs false
namespace Go.Sx

/-- A tree of orders. -/
inductive Tr where
  | done
  | one (i k : Nat) (r : Tr)
  | alt (i : Nat) (a b : Tr)
  | stop

section
variable {P : Program} {n : Nat}

def treeC (ops : Array Oper) (late : List Nat) : Tr → Option (List Nat) → Nat → Array Bool → Bool
  | .done, none, 0, listed => (Region.ready .any ops listed).isEmpty
  | .one i 0 r, none, f + 1, listed => (Region.ready .any ops listed).contains i && Region.free .any ops listed i && !late.contains i && treeC ops late r none f (listed.setIfInBounds i true)
  | .one i 1 r, none, f + 1, listed => (Region.ready .any ops listed).contains i && Region.free .any ops listed i && late.all (fun m => reach ops ops.size m i) && clean late listed && treeC ops late r none f (listed.setIfInBounds i true)
  | .one i (_ + 2) r, none, f + 1, listed => (Region.ready .any ops listed) == [i] && treeC ops late r none f (listed.setIfInBounds i true)
  | .alt i a b, none, f + 1, listed => (Region.ready .any ops listed).contains i && treeC ops late a none f (listed.setIfInBounds i true) && treeC ops late b (some ((Region.ready .any ops listed).erase i)) (f + 1) listed
  | .alt i a b, some R, f + 1, listed => R.contains i && treeC ops late a none f (listed.setIfInBounds i true) && treeC ops late b (some (R.erase i)) (f + 1) listed
  | .stop, some R, _, _ => R.isEmpty
  | _, _, _, _ => false

def treeWp (P : Program) (ops : Array Oper) (Q : Exit → Act → World → Prop) (S : World → Prop) (late : List Nat) : Tr → Array Bool → Act → World → Prop
  | .done, _, a, w => Q .normal a w
  | .one i 0 r, listed, a, w => ∃ o v, ops[i]? = some o ∧ Yields P ops o v a ∧ treeWp P ops Q S late r (listed.setIfInBounds i true) (a.put o.dst v) w
  | .one i 1 r, listed, a, w => ∃ o v, ops[i]? = some o ∧ YieldsIf P ops S o v a ∧ treeWp P ops Q S late r (listed.setIfInBounds i true) (a.put o.dst v) w
  | .one i (_ + 2) r, listed, a, w => wpOp P ops Q i (fun a' w' => (clean late (listed.setIfInBounds i true) = true → S w') ∧ treeWp P ops Q S late r (listed.setIfInBounds i true) a' w') a w
  | .alt i x y, listed, a, w => wpOp P ops Q i (fun a' w' => (clean late (listed.setIfInBounds i true) = true → S w') ∧ treeWp P ops Q S late x (listed.setIfInBounds i true) a' w') a w ∧ treeWp P ops Q S late y listed a w
  | .stop, _, _, _ => True

theorem tree_sound {ops : Array Oper} {Q : Exit → Act → World → Prop} {S : World → Prop} {late : List Nat} (hs : Region.noSelect ops = true)
    (hQ : ∀ c a w, ¬ Q (.panic c) a w) : ∀ (t : Tr) (f : Nat) (listed : Array Bool) (a : Act) (w : World), Closed ops listed → (clean late listed = true → S w) → treeWp P ops Q S late t listed a w →
    (treeC ops late t none f listed = true → wpAnyC P ops Q S late f listed a w) ∧
    (∀ (R : List Nat) (f' : Nat), f = f' + 1 → (∀ j ∈ R, j ∈ Region.ready .any ops listed) → treeC ops late t (some R) f listed = true →
      ∀ j ∈ R, wpOp P ops Q j (fun a' w' => (clean late (listed.setIfInBounds j true) = true → S w') ∧ wpAnyC P ops Q S late f' (listed.setIfInBounds j true) a' w') a w)
  | .done, f, listed, a, w, _, _, h => by
    refine ⟨fun hc => ?_, fun R f' _ _ hc => ?_⟩
    · cases f with
      | zero => exact ⟨by simpa [treeC] using hc, h⟩
      | succ f => simp [treeC] at hc
    · simp [treeC] at hc
  | .one i 0 r, f, listed, a, w, hcl, hS, h => by
    refine ⟨fun hc => ?_, fun R f' _ _ hc => by simp [treeC] at hc⟩
    cases f with
    | zero => simp [treeC] at hc
    | succ f =>
      simp only [treeC, Bool.and_eq_true, Bool.not_eq_true'] at hc
      obtain ⟨⟨⟨hr, hf⟩, hl⟩, hc'⟩ := hc
      obtain ⟨o, v, ho, hy, h⟩ := h
      have hr' : i ∈ Region.ready .any ops listed := by simpa using hr
      exact wpAnyC_firstPure ho (Region.noSelect_spec hs) (fun c a w h => (hQ c _ w h).elim) hl f listed a w (Region.free_spec ho hf) hr' hy hS
        ((tree_sound hs hQ r f _ _ _ (hcl.set hr') (fun hc => hS (clean_of_set hc)) h).1 hc')
  | .one i 1 r, f, listed, a, w, hcl, hS, h => by
    refine ⟨fun hc => ?_, fun R f' _ _ hc => by simp [treeC] at hc⟩
    cases f with
    | zero => simp [treeC] at hc
    | succ f =>
      simp only [treeC, Bool.and_eq_true, List.all_eq_true] at hc
      obtain ⟨⟨⟨⟨hr, hf⟩, hl⟩, hcn⟩, hc'⟩ := hc
      obtain ⟨o, v, ho, hy, h⟩ := h
      have hr' : i ∈ Region.ready .any ops listed := by simpa using hr
      exact wpAnyC_first ho (Region.noSelect_spec hs) (fun c a w h => (hQ c _ w h).elim) hl f listed a w hcl (Region.free_spec ho hf) hr' hy (hS hcn) hcn
        ((tree_sound hs hQ r f _ _ _ (hcl.set hr') (fun hc => hS (clean_of_set hc)) h).1 hc')
  | .one i (k + 2) r, f, listed, a, w, hcl, hS, h => by
    refine ⟨fun hc => ?_, fun R f' _ _ hc => by simp [treeC] at hc⟩
    cases f with
    | zero => simp [treeC] at hc
    | succ f =>
      simp only [treeC, Bool.and_eq_true, beq_iff_eq] at hc
      obtain ⟨hr, hc'⟩ := hc
      have hr' : i ∈ Region.ready .any ops listed := by rw [hr]; exact List.mem_singleton.2 rfl
      refine ⟨fun h0 => (by rw [h0] at hr; cases hr), fun j hj => ?_⟩
      rw [hr] at hj
      obtain rfl := List.mem_singleton.1 hj
      exact wpOp_mono (fun a' w' h' => ⟨h'.1, (tree_sound hs hQ r f _ _ _ (hcl.set hr') h'.1 h'.2).1 hc'⟩) h
  | .alt i x y, f, listed, a, w, hcl, hS, h => by
    obtain ⟨h1, h2⟩ := h
    have part : ∀ (R : List Nat) (f' : Nat), f = f' + 1 → (∀ j ∈ R, j ∈ Region.ready .any ops listed) → R.contains i = true → treeC ops late x none f' (listed.setIfInBounds i true) = true → treeC ops late y (some (R.erase i)) (f' + 1) listed = true →
        ∀ j ∈ R, wpOp P ops Q j (fun a' w' => (clean late (listed.setIfInBounds j true) = true → S w') ∧ wpAnyC P ops Q S late f' (listed.setIfInBounds j true) a' w') a w := by
      intro R f' hf hR hi hx hy j hj
      have hir : i ∈ Region.ready .any ops listed := hR i (by simpa using hi)
      by_cases hji : j = i
      · subst hji
        exact wpOp_mono (fun a' w' h' => ⟨h'.1, (tree_sound hs hQ x f' _ _ _ (hcl.set hir) h'.1 h'.2).1 hx⟩) h1
      · subst hf
        exact (tree_sound hs hQ y (f' + 1) listed a w hcl hS h2).2 (R.erase i) f' rfl (fun j hj => hR j (List.mem_of_mem_erase hj)) hy j ((List.mem_erase_of_ne hji).2 hj)
    refine ⟨fun hc => ?_, fun R f' hf hR hc => ?_⟩
    · cases f with
      | zero => simp [treeC] at hc
      | succ f =>
        simp only [treeC, Bool.and_eq_true] at hc
        obtain ⟨⟨hr, hx⟩, hy⟩ := hc
        exact ⟨fun h0 => (by rw [h0] at hr; simp at hr), part _ f rfl (fun j hj => hj) hr hx hy⟩
    · subst hf
      simp only [treeC, Bool.and_eq_true] at hc
      exact part R f' rfl hR hc.1.1 hc.1.2 hc.2
  | .stop, f, listed, a, w, _, _, _ => by
    refine ⟨fun hc => by cases f <;> simp [treeC] at hc, fun R f' _ _ hc j hj => ?_⟩
    have : R = [] := by simpa [treeC] using hc
    rw [this] at hj; cases hj

def treeAll (l : List Oper) (late : List Nat) (t : Tr) : Bool := Region.noSelect l.toArray && treeC l.toArray late t none l.length (Array.replicate l.length false)

/-- The symbolic walk by a tree of orders. -/
def LT (P : Program) (n : Nat) (l : List Oper) (S : World → Prop) (late : List Nat) (t : Tr) (listed : Array Bool) (F : Fr) (M : World → Prop) (Q : Po) : Prop :=
  ∀ a w, Fits n F a → M w → treeWp P l.toArray (real n Q) S late t listed a w

theorem sw_region_tree {id : Nat} {l : List Oper} {F : Fr} {M : World → Prop} {Q : Po} (S : World → Prop) (late : List Nat) (t : Tr) (hm : P.follows .mixedOrders = true)
    (hl : treeAll l late t = true) (hQ : ∀ c F w, ¬ Q (.panic c) F w) (hMS : ∀ w, M w → S w) (hMd : ∀ w, M w → M { w with drawn := w.drawn + 1 })
    (h : LT P n l S late t (Array.replicate l.length false) F M Q) : SW P n (.region id l.toArray true) F M Q := by
  intro a w hf hw
  simp only [treeAll, Bool.and_eq_true] at hl
  refine wp_region_any hm (wpAny_of_C (S := S) (late := late) _ _ _ _ ?_)
  have := (tree_sound (P := P) (Q := real n Q) (S := S) (late := late) hl.1 (fun c a w ⟨F', _, hq⟩ => hQ c F' w hq) t l.length (Array.replicate l.length false) a { w with drawn := w.drawn + 1 }
    ⟨by simp, fun j oj _ hl' => by
      rcases Nat.lt_or_ge j l.length with h' | h'
      · simp [h'] at hl'
      · simp [h'] at hl'⟩ (fun _ => hMS _ (hMd w hw)) (h a _ hf (hMd w hw))).1 hl.2
  simpa using this

section
variable {l : List Oper} {S : World → Prop} {late : List Nat} {listed : Array Bool} {F : Fr} {M : World → Prop} {Q : Po} {r : Tr} {i : Nat}
  {op : Op} {ty : TypeId} {ps : String} {af : Array Edge} {g : Option (Nat × Bool)} {w0 : World} {olds : List Nat} {m : List Ent}

theorem lt_done (h : ∀ w, M w → Q .normal F w) : LT P n l S late .done listed F M Q := fun _ w hf hm => ⟨F, hf, h w hm⟩
theorem lt_stop : LT P n l S late .stop listed F M Q := fun _ _ _ _ => trivial
theorem lt_alt {x y : Tr} (h1 : LT P n l S late (.one i 2 x) listed F M Q) (h2 : LT P n l S late y listed F M Q) : LT P n l S late (.alt i x y) listed F M Q :=
  fun a w hf hm => ⟨h1 a w hf hm, h2 a w hf hm⟩
theorem lt_pure {t : Nat} {v : Value} (ho : nth l i = some ⟨some t, op, ty, ps, af, g⟩) (hg : WG l F g) (hv : Val P n F (fun _ => True) op ty v) (ht : Nat.blt t n = true)
    (h : LT P n l S late r (listed.setIfInBounds i true) ((t, v) :: F) M Q) : LT P n l S late (.one i 0 r) listed F M Q :=
  fun a w hf hm => ⟨_, v, (nth_eq l i).symm.trans ho, .inl ⟨WG.wanted (o := ⟨some t, op, ty, ps, af, g⟩) hg hf, fun w => hv a w hf trivial _ _ _ _⟩, h _ w (hf.put ht v) hm⟩
theorem lt_held {t : Nat} {v : Value} (ho : nth l i = some ⟨some t, op, ty, ps, af, g⟩) (hg : WG l F g) (hv : Val P n F S op ty v) (ht : Nat.blt t n = true)
    (h : LT P n l S late r (listed.setIfInBounds i true) ((t, v) :: F) M Q) : LT P n l S late (.one i 1 r) listed F M Q :=
  fun a w hf hm => ⟨_, v, (nth_eq l i).symm.trans ho, .inl ⟨WG.wanted (o := ⟨some t, op, ty, ps, af, g⟩) hg hf, fun w hw => hv a w hf hw _ _ _ _⟩, h _ w (hf.put ht v) hm⟩
theorem lt_no {t : Nat} (ho : nth l i = some ⟨some t, op, ty, ps, af, g⟩) (hg : NG l F g) (ht : Nat.blt t n = true)
    (h : LT P n l S late r (listed.setIfInBounds i true) ((t, undef) :: F) M Q) : LT P n l S late (.one i 0 r) listed F M Q :=
  fun a w hf hm => ⟨_, undef, (nth_eq l i).symm.trans ho, .inr ⟨NG.wanted (o := ⟨some t, op, ty, ps, af, g⟩) hg hf, rfl⟩, h _ w (hf.put ht undef) hm⟩
theorem lt_no' (ho : nth l i = some ⟨none, op, ty, ps, af, g⟩) (hg : NG l F g)
    (h : LT P n l S late r (listed.setIfInBounds i true) F M Q) : LT P n l S late (.one i 0 r) listed F M Q :=
  fun a w hf hm => ⟨_, undef, (nth_eq l i).symm.trans ho, .inr ⟨NG.wanted (o := ⟨none, op, ty, ps, af, g⟩) hg hf, rfl⟩, h _ w hf hm⟩
theorem lt_val {t : Nat} {v : Value} (ho : nth l i = some ⟨some t, op, ty, ps, af, g⟩) (hg : WG l F g) (hv : Val P n F M op ty v) (ht : Nat.blt t n = true) (hS : clean late (listed.setIfInBounds i true) = true → ∀ w, M w → S w)
    (h : LT P n l S late r (listed.setIfInBounds i true) ((t, v) :: F) M Q) : LT P n l S late (.one i 2 r) listed F M Q := by
  intro a w hf hm
  refine wpOp_wanted ((nth_eq l i).symm.trans ho) (WG.wanted hg hf) ?_
  unfold Oper.wp
  have := hv a w hf hm (some t) ps af g
  rw [this]
  exact ⟨fun hc => hS hc w hm, h _ w (hf.put ht v) hm⟩
theorem lt_act {t : Nat} {R : World → Value → World → Prop} (ho : nth l i = some ⟨some t, op, ty, ps, af, g⟩) (hg : WG l F g) (hv : Acts P n F M op ty R) (ht : Nat.blt t n = true)
    (hS : clean late (listed.setIfInBounds i true) = true → ∀ w v w', M w → R w v w' → S w')
    (h : ∀ w v, M w → LT P n l S late r (listed.setIfInBounds i true) ((t, v) :: F) (R w v) Q) : LT P n l S late (.one i 2 r) listed F M Q := by
  intro a w hf hm
  refine wpOp_wanted ((nth_eq l i).symm.trans ho) (WG.wanted hg hf) ?_
  unfold Oper.wp
  obtain ⟨v, w', e, hr⟩ := hv a w hf hm (some t) ps af g
  rw [e]
  exact ⟨fun hc => hS hc w v w' hm hr, h w v hm _ w' (hf.put ht v) hr⟩
theorem lt_act_eq {t : Nat} {M' : World → Prop} {v : Value} (ho : nth l i = some ⟨some t, op, ty, ps, af, g⟩) (hg : WG l F g) (hv : Acts P n F M op ty (fun _ u w' => u = v ∧ M' w')) (ht : Nat.blt t n = true)
    (hS : clean late (listed.setIfInBounds i true) = true → ∀ w, M' w → S w)
    (h : LT P n l S late r (listed.setIfInBounds i true) ((t, v) :: F) M' Q) : LT P n l S late (.one i 2 r) listed F M Q :=
  lt_act ho hg hv ht (fun hc w u w' _ hr => hS hc w' hr.2) (fun w u _ a w' hf hr => by obtain ⟨rfl, hm⟩ := hr; exact h a w' hf hm)
theorem lt_do {R : World → World → Prop} (ho : nth l i = some ⟨none, op, ty, ps, af, g⟩) (hg : WG l F g) (hv : Does P n F M op ty R)
    (hS : clean late (listed.setIfInBounds i true) = true → ∀ w w', M w → R w w' → S w')
    (h : ∀ w, M w → LT P n l S late r (listed.setIfInBounds i true) F (R w) Q) : LT P n l S late (.one i 2 r) listed F M Q := by
  intro a w hf hm
  refine wpOp_wanted ((nth_eq l i).symm.trans ho) (WG.wanted hg hf) ?_
  unfold Oper.wp
  obtain ⟨w', e, hr⟩ := hv a w hf hm none ps af g
  rw [e]
  exact ⟨fun hc => hS hc w w' hm hr, h w hm _ w' hf hr⟩
theorem lt_call {t : Nat} {f : FuncId} {args : Array Value} (R : World → Value → World → Prop) (ho : nth l i = some ⟨some t, op, ty, ps, af, g⟩) (hg : WG l F g) (hv : CallsTo P n F M op ty f args) (ht : Nat.blt t n = true)
    (hc : ∀ w, M w → Calls P f args w fun e w' => ∃ v, e = .returned v ∧ R w v w')
    (hS : clean late (listed.setIfInBounds i true) = true → ∀ w v w', M w → R w v w' → S w')
    (h : ∀ w v, M w → LT P n l S late r (listed.setIfInBounds i true) ((t, v) :: F) (R w v) Q) : LT P n l S late (.one i 2 r) listed F M Q := by
  intro a w hf hm
  refine wpOp_wanted ((nth_eq l i).symm.trans ho) (WG.wanted hg hf) ?_
  unfold Oper.wp
  have := hv a w hf hm (some t) ps af g
  rw [this]
  refine (hc w hm).mono ?_
  rintro e w' ⟨v, rfl, hr⟩
  exact ⟨fun hc => hS hc w v w' hm hr, h w v hm _ w' (hf.put ht v) hr⟩
theorem lt_call_pure {t : Nat} {f : FuncId} {args : Array Value} {v : Value} (ho : nth l i = some ⟨some t, op, ty, ps, af, g⟩) (hg : WG l F g) (hv : CallsTo P n F (Mem w0 olds m) op ty f args) (ht : Nat.blt t n = true)
    (hc : ∀ w, Mem w0 olds m w → Calls P f args w fun e w' => ∃ u, e = .returned u ∧ u = v ∧ Mem w [] [] w')
    (hS : clean late (listed.setIfInBounds i true) = true → ∀ w, Mem w0 olds m w → S w)
    (h : LT P n l S late r (listed.setIfInBounds i true) ((t, v) :: F) (Mem w0 olds m) Q) : LT P n l S late (.one i 2 r) listed F (Mem w0 olds m) Q :=
  lt_call (fun _ u w' => u = v ∧ Mem w0 olds m w') ho hg hv ht (fun _ hm => (hc _ hm).mono fun _ _ ⟨u, he, hu, hm'⟩ => ⟨u, he, hu, hm.call0 hm'⟩) (fun hc w u w' _ hr => hS hc w' hr.2)
    (fun _ u hm a w' hf ⟨hu, hm'⟩ => by subst hu; exact h a w' hf hm')
theorem lt_call_blk {t : Nat} {f : FuncId} {args : Array Value} {o : Obj} (V : Nat → Value) (ho : nth l i = some ⟨some t, op, ty, ps, af, g⟩) (hg : WG l F g) (hv : CallsTo P n F (Mem w0 olds m) op ty f args) (ht : Nat.blt t n = true)
    (hc : ∀ w, Mem w0 olds m w → Calls P f args w fun e w' => ∃ u, e = .returned u ∧ ∃ b, u = V b ∧ Mem w [] [some (b, o)] w')
    (hS : clean late (listed.setIfInBounds i true) = true → ∀ b w, Mem w0 olds (some (b, o) :: m) w → S w)
    (h : ∀ b, w0.heap.size ≤ b → LT P n l S late r (listed.setIfInBounds i true) ((t, V b) :: F) (Mem w0 olds (some (b, o) :: m)) Q) : LT P n l S late (.one i 2 r) listed F (Mem w0 olds m) Q :=
  lt_call (fun _ u w' => ∃ b, w0.heap.size ≤ b ∧ u = V b ∧ Mem w0 olds (some (b, o) :: m) w') ho hg hv ht
    (fun _ hm => (hc _ hm).mono fun _ _ ⟨u, he, b, hu, hm'⟩ => ⟨u, he, b, by
      rcases hm'.fresh b (by simp [keys]) with h1 | h1
      · exact Nat.le_trans hm.size h1
      · simp at h1, hu, hm.call hm'⟩)
    (fun hc w u w' _ hr => by obtain ⟨b, _, _, hm⟩ := hr; exact hS hc b w' hm)
    (fun _ u _ a w' hf ⟨b, hb, hu, hm'⟩ => by subst hu; exact h b hb a w' hf hm')
/-- A new row or variable. -/
theorem lt_make {t : Nat} {o : Obj} (V : Nat → Value) (ho : nth l i = some ⟨some t, op, ty, ps, af, g⟩) (hg : WG l F g)
    (hv : Acts P n F (Mem w0 olds m) op ty (fun w u w' => u = V w.heap.size ∧ Mem w0 olds (some (w.heap.size, o) :: m) w')) (ht : Nat.blt t n = true)
    (hS : clean late (listed.setIfInBounds i true) = true → ∀ b w, Mem w0 olds (some (b, o) :: m) w → S w)
    (h : ∀ b, w0.heap.size ≤ b → LT P n l S late r (listed.setIfInBounds i true) ((t, V b) :: F) (Mem w0 olds (some (b, o) :: m)) Q) : LT P n l S late (.one i 2 r) listed F (Mem w0 olds m) Q :=
  lt_act ho hg hv ht (fun hc w u w' _ hr => hS hc _ w' hr.2) (fun w u hm a w' hf hr => by obtain ⟨rfl, hm'⟩ := hr; exact h w.heap.size hm.size a w' hf hm')
/-- A call that hands back a slice of its own, nil or not. -/
theorem lt_call_row {t : Nat} {f : FuncId} {args : Array Value} {E : TypeId} {size k : Nat} {xs : List Value} (ho : nth l i = some ⟨some t, op, ty, ps, af, g⟩) (hg : WG l F g) (hv : CallsTo P n F (Mem w0 olds m) op ty f args) (ht : Nat.blt t n = true)
    (hc : ∀ w, Mem w0 olds m w → Calls P f args w fun e w' => ∃ u, e = .returned u ∧ ∃ e', RowE u E size k xs e' ∧ Mem w [] [e'] w')
    (hS : clean late (listed.setIfInBounds i true) = true → ∀ e w, Mem w0 olds (e :: m) w → S w)
    (h : ∀ a c e', RowE (.slice a k c) E size k xs e' → LT P n l S late r (listed.setIfInBounds i true) ((t, .slice a k c) :: F) (Mem w0 olds (e' :: m)) Q) : LT P n l S late (.one i 2 r) listed F (Mem w0 olds m) Q :=
  lt_call (fun _ u w' => ∃ e', RowE u E size k xs e' ∧ Mem w0 olds (e' :: m) w') ho hg hv ht
    (fun _ hm => (hc _ hm).mono fun _ _ ⟨u, he, e', hu, hm'⟩ => ⟨u, he, e', hu, hm.call hm'⟩)
    (fun hc w u w' _ hr => by obtain ⟨e', _, hm⟩ := hr; exact hS hc e' w' hm)
    (fun _ u _ a w' hf ⟨e', hu, hm'⟩ => by
      obtain ⟨a', c', rfl, _⟩ := hu.slice
      exact h a' c' e' hu a w' hf hm')
theorem lt_append {t : Nat} {E : TypeId} {size k idx : Nat} {xs : List Value} (ho : nth l i = some ⟨some t, op, ty, ps, af, g⟩) (hg : WG l F g)
    (hv : Acts P n F M op ty (fun _ u w' => ∃ e', RowE u E size k xs e' ∧ Mem w0 olds (upd m idx e') w')) (ht : Nat.blt t n = true)
    (hS : clean late (listed.setIfInBounds i true) = true → ∀ e w, Mem w0 olds (upd m idx e) w → S w)
    (h : ∀ a c e', RowE (.slice a k c) E size k xs e' → LT P n l S late r (listed.setIfInBounds i true) ((t, .slice a k c) :: F) (Mem w0 olds (upd m idx e')) Q) : LT P n l S late (.one i 2 r) listed F M Q :=
  lt_act ho hg hv ht (fun hc w u w' _ hr => by obtain ⟨e', _, hm⟩ := hr; exact hS hc e' w' hm)
    (fun w u _ a w' hf hr => by
      obtain ⟨e', hu, hm'⟩ := hr
      obtain ⟨a', c', rfl, _⟩ := hu.slice
      exact h a' c' e' hu a w' hf hm')
end
end
end Go.Sx
