import Derived.Test.YtcdponddgnkecaaDoorSxG
import Derived.WalkKit
import Derived.ProofKit
import Derived.OpenShut
import Derived.Carry
import Derived.Deep.DeepHandedRow
import Derived.SizedLaws
import Derived.Deep.Slices
set_option linter.unusedVariables false
set_option linter.unusedSimpArgs false
namespace Go.Sx

/-- A tree of orders. -/
inductive Tr where
  | done
  | one (i k : Nat) (r : Tr)
  | alt (i : Nat) (a b : Tr)
  | stop

section
variable {P : Program} {n : Nat}

def treeC (ops : Array Oper) (late : List Nat) : Tr → Option (List Nat) → Nat → Array Bool → Bool
  | .done, none, 0, listed => (Region.ready .any ops listed).isEmpty
  | .one i 0 r, none, f + 1, listed => (Region.ready .any ops listed).contains i && Region.free .any ops listed i && !late.contains i && treeC ops late r none f (listed.setIfInBounds i true)
  | .one i 1 r, none, f + 1, listed => (Region.ready .any ops listed).contains i && Region.free .any ops listed i && late.all (fun m => reach ops ops.size m i) && clean late listed && treeC ops late r none f (listed.setIfInBounds i true)
  | .one i (_ + 2) r, none, f + 1, listed => (Region.ready .any ops listed) == [i] && treeC ops late r none f (listed.setIfInBounds i true)
  | .alt i a b, none, f + 1, listed => (Region.ready .any ops listed).contains i && treeC ops late a none f (listed.setIfInBounds i true) && treeC ops late b (some ((Region.ready .any ops listed).erase i)) (f + 1) listed
  | .alt i a b, some R, f + 1, listed => R.contains i && treeC ops late a none f (listed.setIfInBounds i true) && treeC ops late b (some (R.erase i)) (f + 1) listed
  | .stop, some R, _, _ => R.isEmpty
  | _, _, _, _ => false

def treeWp (P : Program) (ops : Array Oper) (Q : Exit → Act → World → Prop) (S : World → Prop) (late : List Nat) : Tr → Array Bool → Act → World → Prop
  | .done, _, a, w => Q .normal a w
  | .one i 0 r, listed, a, w => ∃ o v, ops[i]? = some o ∧ Yields P ops o v a ∧ treeWp P ops Q S late r (listed.setIfInBounds i true) (a.put o.dst v) w
  | .one i 1 r, listed, a, w => ∃ o v, ops[i]? = some o ∧ YieldsIf P ops S o v a ∧ treeWp P ops Q S late r (listed.setIfInBounds i true) (a.put o.dst v) w
  | .one i (_ + 2) r, listed, a, w => wpOp P ops Q i (fun a' w' => (clean late (listed.setIfInBounds i true) = true → S w') ∧ treeWp P ops Q S late r (listed.setIfInBounds i true) a' w') a w
  | .alt i x y, listed, a, w => wpOp P ops Q i (fun a' w' => (clean late (listed.setIfInBounds i true) = true → S w') ∧ treeWp P ops Q S late x (listed.setIfInBounds i true) a' w') a w ∧ treeWp P ops Q S late y listed a w
  | .stop, _, _, _ => True

theorem tree_sound {ops : Array Oper} {Q : Exit → Act → World → Prop} {S : World → Prop} {late : List Nat} (hs : Region.noSelect ops = true)
    (hQ : ∀ c a w, ¬ Q (.panic c) a w) : ∀ (t : Tr) (f : Nat) (listed : Array Bool) (a : Act) (w : World), Closed ops listed → (clean late listed = true → S w) → treeWp P ops Q S late t listed a w →
    (treeC ops late t none f listed = true → wpAnyC P ops Q S late f listed a w) ∧
    (∀ (R : List Nat) (f' : Nat), f = f' + 1 → (∀ j ∈ R, j ∈ Region.ready .any ops listed) → treeC ops late t (some R) f listed = true →
      ∀ j ∈ R, wpOp P ops Q j (fun a' w' => (clean late (listed.setIfInBounds j true) = true → S w') ∧ wpAnyC P ops Q S late f' (listed.setIfInBounds j true) a' w') a w)
  | .done, f, listed, a, w, _, _, h => by
    refine ⟨fun hc => ?_, fun R f' _ _ hc => ?_⟩
    · cases f with
      | zero => exact ⟨by simpa [treeC] using hc, h⟩
      | succ f => simp [treeC] at hc
    · simp [treeC] at hc
  | .one i 0 r, f, listed, a, w, hcl, hS, h => by
    refine ⟨fun hc => ?_, fun R f' _ _ hc => by simp [treeC] at hc⟩
    cases f with
    | zero => simp [treeC] at hc
    | succ f =>
      simp only [treeC, Bool.and_eq_true, Bool.not_eq_true'] at hc
      obtain ⟨⟨⟨hr, hf⟩, hl⟩, hc'⟩ := hc
      obtain ⟨o, v, ho, hy, h⟩ := h
      have hr' : i ∈ Region.ready .any ops listed := by simpa using hr
      exact wpAnyC_firstPure ho (Region.noSelect_spec hs) (fun c a w h => (hQ c _ w h).elim) hl f listed a w (Region.free_spec ho hf) hr' hy hS
        ((tree_sound hs hQ r f _ _ _ (hcl.set hr') (fun hc => hS (clean_of_set hc)) h).1 hc')
  | .one i 1 r, f, listed, a, w, hcl, hS, h => by
    refine ⟨fun hc => ?_, fun R f' _ _ hc => by simp [treeC] at hc⟩
    cases f with
    | zero => simp [treeC] at hc
    | succ f =>
      simp only [treeC, Bool.and_eq_true, List.all_eq_true] at hc
      obtain ⟨⟨⟨⟨hr, hf⟩, hl⟩, hcn⟩, hc'⟩ := hc
      obtain ⟨o, v, ho, hy, h⟩ := h
      have hr' : i ∈ Region.ready .any ops listed := by simpa using hr
      exact wpAnyC_first ho (Region.noSelect_spec hs) (fun c a w h => (hQ c _ w h).elim) hl f listed a w hcl (Region.free_spec ho hf) hr' hy (hS hcn) hcn
        ((tree_sound hs hQ r f _ _ _ (hcl.set hr') (fun hc => hS (clean_of_set hc)) h).1 hc')
  | .one i (k + 2) r, f, listed, a, w, hcl, hS, h => by
    refine ⟨fun hc => ?_, fun R f' _ _ hc => by simp [treeC] at hc⟩
    cases f with
    | zero => simp [treeC] at hc
    | succ f =>
      simp only [treeC, Bool.and_eq_true, beq_iff_eq] at hc
      obtain ⟨hr, hc'⟩ := hc
      have hr' : i ∈ Region.ready .any ops listed := by rw [hr]; exact List.mem_singleton.2 rfl
      refine ⟨fun h0 => (by rw [h0] at hr; cases hr), fun j hj => ?_⟩
      rw [hr] at hj
      obtain rfl := List.mem_singleton.1 hj
      exact wpOp_mono (fun a' w' h' => ⟨h'.1, (tree_sound hs hQ r f _ _ _ (hcl.set hr') h'.1 h'.2).1 hc'⟩) h
  | .alt i x y, f, listed, a, w, hcl, hS, h => by
    obtain ⟨h1, h2⟩ := h
    have part : ∀ (R : List Nat) (f' : Nat), f = f' + 1 → (∀ j ∈ R, j ∈ Region.ready .any ops listed) → R.contains i = true → treeC ops late x none f' (listed.setIfInBounds i true) = true → treeC ops late y (some (R.erase i)) (f' + 1) listed = true →
        ∀ j ∈ R, wpOp P ops Q j (fun a' w' => (clean late (listed.setIfInBounds j true) = true → S w') ∧ wpAnyC P ops Q S late f' (listed.setIfInBounds j true) a' w') a w := by
      intro R f' hf hR hi hx hy j hj
      have hir : i ∈ Region.ready .any ops listed := hR i (by simpa using hi)
      by_cases hji : j = i
      · subst hji
        exact wpOp_mono (fun a' w' h' => ⟨h'.1, (tree_sound hs hQ x f' _ _ _ (hcl.set hir) h'.1 h'.2).1 hx⟩) h1
      · subst hf
        exact (tree_sound hs hQ y (f' + 1) listed a w hcl hS h2).2 (R.erase i) f' rfl (fun j hj => hR j (List.mem_of_mem_erase hj)) hy j ((List.mem_erase_of_ne hji).2 hj)
    refine ⟨fun hc => ?_, fun R f' hf hR hc => ?_⟩
    · cases f with
      | zero => simp [treeC] at hc
      | succ f =>
        simp only [treeC, Bool.and_eq_true] at hc
        obtain ⟨⟨hr, hx⟩, hy⟩ := hc
        exact ⟨fun h0 => (by rw [h0] at hr; simp at hr), part _ f rfl (fun j hj => hj) hr hx hy⟩
    · subst hf
      simp only [treeC, Bool.and_eq_true] at hc
      exact part R f' rfl hR hc.1.1 hc.1.2 hc.2
  | .stop, f, listed, a, w, _, _, _ => by
    refine ⟨fun hc => by cases f <;> simp [treeC] at hc, fun R f' _ _ hc j hj => ?_⟩
    have : R = [] := by simpa [treeC] using hc
    rw [this] at hj; cases hj

def treeAll (l : List Oper) (late : List Nat) (t : Tr) : Bool := Region.noSelect l.toArray && treeC l.toArray late t none l.length (Array.replicate l.length false)

/-- The symbolic walk by a tree of orders. -/
def LT (P : Program) (n : Nat) (l : List Oper) (S : World → Prop) (late : List Nat) (t : Tr) (listed : Array Bool) (F : Fr) (M : World → Prop) (Q : Po) : Prop :=
  ∀ a w, Fits n F a → M w → treeWp P l.toArray (real n Q) S late t listed a w

theorem sw_region_tree {id : Nat} {l : List Oper} {F : Fr} {M : World → Prop} {Q : Po} (S : World → Prop) (late : List Nat) (t : Tr) (hm : P.follows .mixedOrders = true)
    (hl : treeAll l late t = true) (hQ : ∀ c F w, ¬ Q (.panic c) F w) (hMS : ∀ w, M w → S w) (hMd : ∀ w, M w → M { w with drawn := w.drawn + 1 })
    (h : LT P n l S late t (Array.replicate l.length false) F M Q) : SW P n (.region id l.toArray true) F M Q := by
  intro a w hf hw
  simp only [treeAll, Bool.and_eq_true] at hl
  refine wp_region_any hm (wpAny_of_C (S := S) (late := late) _ _ _ _ ?_)
  have := (tree_sound (P := P) (Q := real n Q) (S := S) (late := late) hl.1 (fun c a w ⟨F', _, hq⟩ => hQ c F' w hq) t l.length (Array.replicate l.length false) a { w with drawn := w.drawn + 1 }
    ⟨by simp, fun j oj _ hl' => by
      rcases Nat.lt_or_ge j l.length with h' | h'
      · simp [h'] at hl'
      · simp [h'] at hl'⟩ (fun _ => hMS _ (hMd w hw)) (h a _ hf (hMd w hw))).1 hl.2
  simpa using this

section
variable {l : List Oper} {S : World → Prop} {late : List Nat} {listed : Array Bool} {F : Fr} {M : World → Prop} {Q : Po} {r : Tr} {i : Nat}
  {op : Op} {ty : TypeId} {ps : String} {af : Array Edge} {g : Option (Nat × Bool)} {w0 : World} {olds : List Nat} {m : List Ent}

theorem lt_done (h : ∀ w, M w → Q .normal F w) : LT P n l S late .done listed F M Q := fun _ w hf hm => ⟨F, hf, h w hm⟩
theorem lt_stop : LT P n l S late .stop listed F M Q := fun _ _ _ _ => trivial
theorem lt_alt {x y : Tr} (h1 : LT P n l S late (.one i 2 x) listed F M Q) (h2 : LT P n l S late y listed F M Q) : LT P n l S late (.alt i x y) listed F M Q :=
  fun a w hf hm => ⟨h1 a w hf hm, h2 a w hf hm⟩
theorem lt_pure {t : Nat} {v : Value} (ho : nth l i = some ⟨some t, op, ty, ps, af, g⟩) (hg : WG l F g) (hv : Val P n F (fun _ => True) op ty v) (ht : Nat.blt t n = true)
    (h : LT P n l S late r (listed.setIfInBounds i true) ((t, v) :: F) M Q) : LT P n l S late (.one i 0 r) listed F M Q :=
  fun a w hf hm => ⟨_, v, (nth_eq l i).symm.trans ho, .inl ⟨WG.wanted (o := ⟨some t, op, ty, ps, af, g⟩) hg hf, fun w => hv a w hf trivial _ _ _ _⟩, h _ w (hf.put ht v) hm⟩
theorem lt_held {t : Nat} {v : Value} (ho : nth l i = some ⟨some t, op, ty, ps, af, g⟩) (hg : WG l F g) (hv : Val P n F S op ty v) (ht : Nat.blt t n = true)
    (h : LT P n l S late r (listed.setIfInBounds i true) ((t, v) :: F) M Q) : LT P n l S late (.one i 1 r) listed F M Q :=
  fun a w hf hm => ⟨_, v, (nth_eq l i).symm.trans ho, .inl ⟨WG.wanted (o := ⟨some t, op, ty, ps, af, g⟩) hg hf, fun w hw => hv a w hf hw _ _ _ _⟩, h _ w (hf.put ht v) hm⟩
theorem lt_no {t : Nat} (ho : nth l i = some ⟨some t, op, ty, ps, af, g⟩) (hg : NG l F g) (ht : Nat.blt t n = true)
    (h : LT P n l S late r (listed.setIfInBounds i true) ((t, undef) :: F) M Q) : LT P n l S late (.one i 0 r) listed F M Q :=
  fun a w hf hm => ⟨_, undef, (nth_eq l i).symm.trans ho, .inr ⟨NG.wanted (o := ⟨some t, op, ty, ps, af, g⟩) hg hf, rfl⟩, h _ w (hf.put ht undef) hm⟩
theorem lt_no' (ho : nth l i = some ⟨none, op, ty, ps, af, g⟩) (hg : NG l F g)
    (h : LT P n l S late r (listed.setIfInBounds i true) F M Q) : LT P n l S late (.one i 0 r) listed F M Q :=
  fun a w hf hm => ⟨_, undef, (nth_eq l i).symm.trans ho, .inr ⟨NG.wanted (o := ⟨none, op, ty, ps, af, g⟩) hg hf, rfl⟩, h _ w hf hm⟩
theorem lt_val {t : Nat} {v : Value} (ho : nth l i = some ⟨some t, op, ty, ps, af, g⟩) (hg : WG l F g) (hv : Val P n F M op ty v) (ht : Nat.blt t n = true) (hS : clean late (listed.setIfInBounds i true) = true → ∀ w, M w → S w)
    (h : LT P n l S late r (listed.setIfInBounds i true) ((t, v) :: F) M Q) : LT P n l S late (.one i 2 r) listed F M Q := by
  intro a w hf hm
  refine wpOp_wanted ((nth_eq l i).symm.trans ho) (WG.wanted hg hf) ?_
  unfold Oper.wp
  have := hv a w hf hm (some t) ps af g
  rw [this]
  exact ⟨fun hc => hS hc w hm, h _ w (hf.put ht v) hm⟩
theorem lt_act {t : Nat} {R : World → Value → World → Prop} (ho : nth l i = some ⟨some t, op, ty, ps, af, g⟩) (hg : WG l F g) (hv : Acts P n F M op ty R) (ht : Nat.blt t n = true)
    (hS : clean late (listed.setIfInBounds i true) = true → ∀ w v w', M w → R w v w' → S w')
    (h : ∀ w v, M w → LT P n l S late r (listed.setIfInBounds i true) ((t, v) :: F) (R w v) Q) : LT P n l S late (.one i 2 r) listed F M Q := by
  intro a w hf hm
  refine wpOp_wanted ((nth_eq l i).symm.trans ho) (WG.wanted hg hf) ?_
  unfold Oper.wp
  obtain ⟨v, w', e, hr⟩ := hv a w hf hm (some t) ps af g
  rw [e]
  exact ⟨fun hc => hS hc w v w' hm hr, h w v hm _ w' (hf.put ht v) hr⟩
theorem lt_act_eq {t : Nat} {M' : World → Prop} {v : Value} (ho : nth l i = some ⟨some t, op, ty, ps, af, g⟩) (hg : WG l F g) (hv : Acts P n F M op ty (fun _ u w' => u = v ∧ M' w')) (ht : Nat.blt t n = true)
    (hS : clean late (listed.setIfInBounds i true) = true → ∀ w, M' w → S w)
    (h : LT P n l S late r (listed.setIfInBounds i true) ((t, v) :: F) M' Q) : LT P n l S late (.one i 2 r) listed F M Q :=
  lt_act ho hg hv ht (fun hc w u w' _ hr => hS hc w' hr.2) (fun w u _ a w' hf hr => by obtain ⟨rfl, hm⟩ := hr; exact h a w' hf hm)
theorem lt_do {R : World → World → Prop} (ho : nth l i = some ⟨none, op, ty, ps, af, g⟩) (hg : WG l F g) (hv : Does P n F M op ty R)
    (hS : clean late (listed.setIfInBounds i true) = true → ∀ w w', M w → R w w' → S w')
    (h : ∀ w, M w → LT P n l S late r (listed.setIfInBounds i true) F (R w) Q) : LT P n l S late (.one i 2 r) listed F M Q := by
  intro a w hf hm
  refine wpOp_wanted ((nth_eq l i).symm.trans ho) (WG.wanted hg hf) ?_
  unfold Oper.wp
  obtain ⟨w', e, hr⟩ := hv a w hf hm none ps af g
  rw [e]
  exact ⟨fun hc => hS hc w w' hm hr, h w hm _ w' hf hr⟩
theorem lt_call {t : Nat} {f : FuncId} {args : Array Value} (R : World → Value → World → Prop) (ho : nth l i = some ⟨some t, op, ty, ps, af, g⟩) (hg : WG l F g) (hv : CallsTo P n F M op ty f args) (ht : Nat.blt t n = true)
    (hc : ∀ w, M w → Calls P f args w fun e w' => ∃ v, e = .returned v ∧ R w v w')
    (hS : clean late (listed.setIfInBounds i true) = true → ∀ w v w', M w → R w v w' → S w')
    (h : ∀ w v, M w → LT P n l S late r (listed.setIfInBounds i true) ((t, v) :: F) (R w v) Q) : LT P n l S late (.one i 2 r) listed F M Q := by
  intro a w hf hm
  refine wpOp_wanted ((nth_eq l i).symm.trans ho) (WG.wanted hg hf) ?_
  unfold Oper.wp
  have := hv a w hf hm (some t) ps af g
  rw [this]
  refine (hc w hm).mono ?_
  rintro e w' ⟨v, rfl, hr⟩
  exact ⟨fun hc => hS hc w v w' hm hr, h w v hm _ w' (hf.put ht v) hr⟩
theorem lt_call_pure {t : Nat} {f : FuncId} {args : Array Value} {v : Value} (ho : nth l i = some ⟨some t, op, ty, ps, af, g⟩) (hg : WG l F g) (hv : CallsTo P n F (Mem w0 olds m) op ty f args) (ht : Nat.blt t n = true)
    (hc : ∀ w, Mem w0 olds m w → Calls P f args w fun e w' => ∃ u, e = .returned u ∧ u = v ∧ Mem w [] [] w')
    (hS : clean late (listed.setIfInBounds i true) = true → ∀ w, Mem w0 olds m w → S w)
    (h : LT P n l S late r (listed.setIfInBounds i true) ((t, v) :: F) (Mem w0 olds m) Q) : LT P n l S late (.one i 2 r) listed F (Mem w0 olds m) Q :=
  lt_call (fun _ u w' => u = v ∧ Mem w0 olds m w') ho hg hv ht (fun _ hm => (hc _ hm).mono fun _ _ ⟨u, he, hu, hm'⟩ => ⟨u, he, hu, hm.call0 hm'⟩) (fun hc w u w' _ hr => hS hc w' hr.2)
    (fun _ u hm a w' hf ⟨hu, hm'⟩ => by subst hu; exact h a w' hf hm')
theorem lt_call_blk {t : Nat} {f : FuncId} {args : Array Value} {o : Obj} (V : Nat → Value) (ho : nth l i = some ⟨some t, op, ty, ps, af, g⟩) (hg : WG l F g) (hv : CallsTo P n F (Mem w0 olds m) op ty f args) (ht : Nat.blt t n = true)
    (hc : ∀ w, Mem w0 olds m w → Calls P f args w fun e w' => ∃ u, e = .returned u ∧ ∃ b, u = V b ∧ Mem w [] [some (b, o)] w')
    (hS : clean late (listed.setIfInBounds i true) = true → ∀ b w, Mem w0 olds (some (b, o) :: m) w → S w)
    (h : ∀ b, w0.heap.size ≤ b → LT P n l S late r (listed.setIfInBounds i true) ((t, V b) :: F) (Mem w0 olds (some (b, o) :: m)) Q) : LT P n l S late (.one i 2 r) listed F (Mem w0 olds m) Q :=
  lt_call (fun _ u w' => ∃ b, w0.heap.size ≤ b ∧ u = V b ∧ Mem w0 olds (some (b, o) :: m) w') ho hg hv ht
    (fun _ hm => (hc _ hm).mono fun _ _ ⟨u, he, b, hu, hm'⟩ => ⟨u, he, b, by
      rcases hm'.fresh b (by simp [keys]) with h1 | h1
      · exact Nat.le_trans hm.size h1
      · simp at h1, hu, hm.call hm'⟩)
    (fun hc w u w' _ hr => by obtain ⟨b, _, _, hm⟩ := hr; exact hS hc b w' hm)
    (fun _ u _ a w' hf ⟨b, hb, hu, hm'⟩ => by subst hu; exact h b hb a w' hf hm')
/-- A new row or variable. -/
theorem lt_make {t : Nat} {o : Obj} (V : Nat → Value) (ho : nth l i = some ⟨some t, op, ty, ps, af, g⟩) (hg : WG l F g)
    (hv : Acts P n F (Mem w0 olds m) op ty (fun w u w' => u = V w.heap.size ∧ Mem w0 olds (some (w.heap.size, o) :: m) w')) (ht : Nat.blt t n = true)
    (hS : clean late (listed.setIfInBounds i true) = true → ∀ b w, Mem w0 olds (some (b, o) :: m) w → S w)
    (h : ∀ b, w0.heap.size ≤ b → LT P n l S late r (listed.setIfInBounds i true) ((t, V b) :: F) (Mem w0 olds (some (b, o) :: m)) Q) : LT P n l S late (.one i 2 r) listed F (Mem w0 olds m) Q :=
  lt_act ho hg hv ht (fun hc w u w' _ hr => hS hc _ w' hr.2) (fun w u hm a w' hf hr => by obtain ⟨rfl, hm'⟩ := hr; exact h w.heap.size hm.size a w' hf hm')
/-- A call that hands back a slice of its own, nil or not. -/
theorem lt_call_row {t : Nat} {f : FuncId} {args : Array Value} {E : TypeId} {size k : Nat} {xs : List Value} (ho : nth l i = some ⟨some t, op, ty, ps, af, g⟩) (hg : WG l F g) (hv : CallsTo P n F (Mem w0 olds m) op ty f args) (ht : Nat.blt t n = true)
    (hc : ∀ w, Mem w0 olds m w → Calls P f args w fun e w' => ∃ u, e = .returned u ∧ ∃ e', RowE u E size k xs e' ∧ Mem w [] [e'] w')
    (hS : clean late (listed.setIfInBounds i true) = true → ∀ e w, Mem w0 olds (e :: m) w → S w)
    (h : ∀ a c e', RowE (.slice a k c) E size k xs e' → LT P n l S late r (listed.setIfInBounds i true) ((t, .slice a k c) :: F) (Mem w0 olds (e' :: m)) Q) : LT P n l S late (.one i 2 r) listed F (Mem w0 olds m) Q :=
  lt_call (fun _ u w' => ∃ e', RowE u E size k xs e' ∧ Mem w0 olds (e' :: m) w') ho hg hv ht
    (fun _ hm => (hc _ hm).mono fun _ _ ⟨u, he, e', hu, hm'⟩ => ⟨u, he, e', hu, hm.call hm'⟩)
    (fun hc w u w' _ hr => by obtain ⟨e', _, hm⟩ := hr; exact hS hc e' w' hm)
    (fun _ u _ a w' hf ⟨e', hu, hm'⟩ => by
      obtain ⟨a', c', rfl, _⟩ := hu.slice
      exact h a' c' e' hu a w' hf hm')
theorem lt_append {t : Nat} {E : TypeId} {size k idx : Nat} {xs : List Value} (ho : nth l i = some ⟨some t, op, ty, ps, af, g⟩) (hg : WG l F g)
    (hv : Acts P n F M op ty (fun _ u w' => ∃ e', RowE u E size k xs e' ∧ Mem w0 olds (upd m idx e') w')) (ht : Nat.blt t n = true)
    (hS : clean late (listed.setIfInBounds i true) = true → ∀ e w, Mem w0 olds (upd m idx e) w → S w)
    (h : ∀ a c e', RowE (.slice a k c) E size k xs e' → LT P n l S late r (listed.setIfInBounds i true) ((t, .slice a k c) :: F) (Mem w0 olds (upd m idx e')) Q) : LT P n l S late (.one i 2 r) listed F M Q :=
  lt_act ho hg hv ht (fun hc w u w' _ hr => by obtain ⟨e', _, hm⟩ := hr; exact hS hc e' w' hm)
    (fun w u _ a w' hf hr => by
      obtain ⟨e', hu, hm'⟩ := hr
      obtain ⟨a', c', rfl, _⟩ := hu.slice
      exact h a' c' e' hu a w' hf hm')
end
end
end Go.Sx

namespace Go.Sx

theorem pick_upd_ne : ∀ (l : List Ent) (i j : Nat) (x : Ent), i ≠ j → pick (upd l i x) j = pick l j
  | [], _, _, _, _ => rfl
  | _ :: _, 0, 0, _, h => absurd rfl h
  | _ :: _, 0, _ + 1, _, _ => rfl
  | _ :: _, _ + 1, 0, _, _ => rfl
  | _ :: l, i + 1, j + 1, x, h => pick_upd_ne l i j x (by omega)

section
variable {w0 w : World} {olds : List Nat} {l : List Ent}

theorem keys_one {e : Ent} {b : Nat} (h : b ∈ keys [e]) : ∃ o, e = some (b, o) := by
  obtain ⟨o, ho⟩ := keys_mem h
  exact ⟨o, (List.mem_singleton.1 ho).symm⟩

/-- A callee that turned the block at i and the row at j. -/
theorem Mem.callUpd2 (h : Mem w0 olds l w) {i j b : Nat} {o o' : Obj} {e e' : Ent} (hp : pick l i = some (b, o)) (hq : pick l j = e) (hij : i ≠ j) {w' : World} (h' : Mem w (b :: keys [e]) [some (b, o'), e'] w') :
    Mem w0 olds (upd (upd l i (some (b, o'))) j e') w' := by
  have hbl : b ∈ keys l := mem_keys (pick_mem hp)
  have hel : ∀ c, c ∈ keys [e] → c ∈ keys l := fun c hc => by
    obtain ⟨x, hx⟩ := keys_one hc
    exact mem_keys (pick_mem (hq.trans hx))
  have hin : ∀ c, c ∈ b :: keys [e] → c ∈ keys l := fun c hc => by
    rcases List.mem_cons.1 hc with rfl | hc
    · exact hbl
    · exact hel c hc
  have hn1 : (keys (upd l i (some (b, o')))).Nodup := nodup_upd l i _ h.nodup (fun c x hc => by
    simp only [Option.some.injEq, Prod.mk.injEq] at hc; obtain ⟨rfl, rfl⟩ := hc; exact .inr ⟨o, hp⟩)
  have hq1 : pick (upd l i (some (b, o'))) j = e := by rw [pick_upd_ne _ _ _ _ hij]; exact hq
  have hk1 : ∀ c ∈ keys (upd l i (some (b, o'))), c ∈ keys l := fun c hc => by
    rcases keys_upd l i _ c hc with h1 | ⟨x, h1⟩
    · exact h1
    · simp only [Option.some.injEq, Prod.mk.injEq] at h1; rw [← h1.1]; exact hbl
  have he' : ∀ c x, e' = some (c, x) → w.heap.size ≤ c ∨ c ∈ keys [e] := fun c x hc => by
    have hnd := h'.nodup
    subst hc
    rcases h'.fresh c (by simp [keys]) with h1 | h1
    · exact .inl h1
    · rcases List.mem_cons.1 h1 with rfl | h1
      · simp [keys] at hnd
      · exact .inr h1
  refine ⟨h'.os.trans h.os, h'.tape.trans h.tape, h'.output.trans h.output, Nat.le_trans h.size h'.size, fun k hk hko => ?_, fun c x hy => ?_, nodup_upd _ j _ hn1 (fun c x hc => ?_), fun c hc => ?_⟩
  · have hnot : k ∉ b :: keys [e] := fun hkb => by
      rcases h.fresh k (hin k hkb) with h1 | h1
      · omega
      · exact hko h1
    have := h.size
    rw [h'.keep k (by omega) hnot]; exact h.keep k hk hko
  · rcases upd_mem hn1 _ hy with h1 | ⟨h1, h2⟩
    · exact h'.own c x (by rw [← h1]; simp)
    · rcases upd_mem h.nodup _ h1 with h3 | ⟨h3, h4⟩
      · exact h'.own c x (by rw [← h3]; simp)
      · have hcb : c ≠ b := h4 c x b o rfl hp
        have hnot : c ∉ b :: keys [e] := fun hc => by
          rcases List.mem_cons.1 hc with hc | hc
          · exact hcb hc
          · obtain ⟨y, hy'⟩ := keys_one hc
            exact h2 c x c y rfl (hq1.trans hy') rfl
        rw [h'.keep c (h.lt (mem_keys h3)) hnot]; exact h.own c x h3
  · rcases he' c x hc with h1 | h1
    · exact .inl (fun hk => by have := h.lt (hk1 c hk); omega)
    · obtain ⟨y, hy⟩ := keys_one h1
      exact .inr ⟨y, hq1.trans hy⟩
  · rcases keys_upd _ j _ c hc with h1 | ⟨x, h1⟩
    · exact h.fresh c (hk1 c h1)
    · rcases he' c x h1 with h2 | h2
      · have := h.size; exact .inl (by omega)
      · exact h.fresh c (hel c h2)

/-- The two entries, as a callee sees them. -/
theorem Mem.start2 (h : Mem w0 olds l w) {i j b : Nat} {o : Obj} {e : Ent} (hp : pick l i = some (b, o)) (hq : pick l j = e) (hij : i ≠ j) : Mem w (b :: keys [e]) [some (b, o), e] w := by
  refine ⟨rfl, rfl, rfl, Nat.le_refl _, fun _ _ _ => rfl, fun c x hy => ?_, ?_, fun c hc => .inr ?_⟩
  · rcases List.mem_cons.1 hy with h1 | h1
    · rw [← h1] at hp; exact h.at hp
    · rw [List.mem_singleton] at h1; rw [← h1] at hq; exact h.at hq
  · cases e with
    | none => simp [keys]
    | some x =>
      have := h.ne hp hq hij
      simp [keys, this]
  · cases e <;> simpa [keys] using hc
end

section
variable {P : Program} {n : Nat} {F : Fr} {S : World → Prop} {ty : TypeId} {w0 : World} {olds : List Nat} {l : List Ent}

/-- A call that turns a block that holds a slice, and the slice's row. -/
theorem ow_call_wr {ops : Array Oper} {t : Nat} {op : Op} {ps : String} {af : Array Edge} {rest : List Oper} {Q : Po} {f : FuncId} {args : Array Value} {b k : Nat} {o : Obj} {e : Ent} {v : Value} {E T : TypeId} {xs : List Value} (i j : Nat)
    (hp : pick l i = some (b, o)) (hq : pick l j = e) (hij : i ≠ j) (hv : CallsTo P n F (Mem w0 olds l) op ty f args) (ht : Nat.blt t n = true)
    (hc : ∀ w, Mem w0 olds l w → Mem w (b :: keys [e]) [some (b, o), e] w → Calls P f args w fun en w' => ∃ u, en = .returned u ∧ u = v ∧ ∃ a' c' e', RowE (.slice a' k c') E 1 k xs e' ∧ Mem w (b :: keys [e]) [some (b, blk [.slice a' k c'] T), e'] w')
    (h : ∀ a' c' e', RowE (.slice a' k c') E 1 k xs e' → OW P n ops rest ((t, v) :: F) (Mem w0 olds (upd (upd l i (some (b, blk [.slice a' k c'] T))) j e')) Q) :
    OW P n ops (⟨some t, op, ty, ps, af, none⟩ :: rest) F (Mem w0 olds l) Q :=
  ow_call (fun _ u w' => u = v ∧ ∃ a' c' e', RowE (.slice a' k c') E 1 k xs e' ∧ Mem w0 olds (upd (upd l i (some (b, blk [.slice a' k c'] T))) j e') w') hv ht
    (fun w hm => (hc w hm (hm.start2 hp hq hij)).mono fun _ _ ⟨u, he, hu, a', c', e', hr, hm'⟩ => ⟨u, he, hu, a', c', e', hr, hm.callUpd2 hp hq hij hm'⟩)
    (fun _ u _ a w' hf ⟨hu, a', c', e', hr, hm'⟩ => by subst hu; exact h a' c' e' hr a w' hf hm')

/-- Results: one in memory, one in a slot. -/
theorem ret_cell_two {fn : Func} {R : Value → World → Prop} {w : World} {t u : Nat} {T U : TypeId} {b m : Nat} {xs : List Value} {x : Value} (i : Nat) (hr : fn.results = #[.cell t T, .tmp u]) (hv : look F t = some (.pointer (some ⟨b, 0, none⟩))) (hx : look F u = some x)
    (hm : Mem w0 olds l w) (hp : pick l i = some (b, blk xs U)) (hA : ∀ w, (isAgg T).run P w = .ok true w) (hS : ∀ w, (sizeOf T).run P w = .ok m w) (hl : xs.length = m) (h : R (.tuple #[.agg xs.toArray, x]) w) : Ret P fn R .ret F w := by
  refine ⟨_, fun a hf => ?_, h⟩
  have h1 := loadVar_agg (P := P) (b := b) (o := 0) (hA w) (hS w) hl (fun j v hj => by rw [Nat.zero_add, hm.cellAt hp]; exact hj)
  have h2 : a.tmps[t]?.getD undef = .pointer (some ⟨b, 0, none⟩) := by
    rw [hf.has t _ hv]; rfl
  have h3 : a.tmps[u]?.getD undef = x := by
    rw [hf.has u _ hx]; rfl
  simp only [results, hr]
  simp [h2, h3, asAddr, h1]
end
end Go.Sx

namespace Go.Sx
open Go.ChangeShapes Go.WideShapes Go.ChangeAt Go.RowKit
section
variable {H : Type} {enc : TypeId × Value → H} {P : Program}

theorem stays_all (hl : laidOutB P = true) {W W' : World} {sp' : Nat → Bool} : ∀ {ts : List TypeId} {vs : List Value} {ds : List (DataW H)} {ps : List MemPlace},
    ts.all (fun t => P.readableRec t && decide (t < P.types.size)) = true → DataW.TrodAll enc P W 0 (fun _ => true) true ts vs ds ps →
    (∀ p ∈ ps, W.sameAt W' p) → (∀ p ∈ ps, sp' p.block = true) → DataW.TrodAll enc P W' 0 sp' true ts vs ds ps
  | [], [], [], _, _, h, _, _ => h
  | [], [], _ :: _, _, _, h, _, _ => h.elim
  | [], _ :: _, _, _, _, h, _, _ => h.elim
  | _ :: _, [], _, _, _, h, _, _ => h.elim
  | _ :: _, _ :: _, [], _, _, h, _, _ => h.elim
  | t :: ts, v :: vs, d :: ds, ps, hts, h, hsame, hs => by
    obtain ⟨p, q, h1, h2, rfl⟩ := h
    simp only [List.all_cons, Bool.and_eq_true, decide_eq_true_eq] at hts
    exact ⟨p, q, WideElems.Trod_stays hl hts.1.1 hts.1.2 h1 (fun x hx => hsame x (List.mem_append_left _ hx)) (fun x hx => hs x (List.mem_append_left _ hx)),
      stays_all hl hts.2 h2 (fun x hx => hsame x (List.mem_append_right _ hx)) (fun x hx => hs x (List.mem_append_right _ hx)), rfl⟩

theorem trodAll_len {W : World} {b : Nat} {sp : Nat → Bool} {hd : Bool} : ∀ {ts : List TypeId} {vs : List Value} {ds : List (DataW H)} {ps : List MemPlace}, DataW.TrodAll enc P W b sp hd ts vs ds ps → ds.length = ts.length
  | [], [], [], _, _ => rfl
  | [], [], _ :: _, _, h => h.elim
  | [], _ :: _, _, _, h => h.elim
  | _ :: _, [], _, _, h => h.elim
  | _ :: _, _ :: _, [], _, h => h.elim
  | _ :: _, _ :: _, _ :: _, _, ⟨_, _, _, h, _⟩ => congrArg (· + 1) (trodAll_len h)

/-- WHAT A ROW ASKS OF A LAW THAT ANSWERS true AND LEAVES WHAT WAS THERE. -/
theorem post_true {f : Func} {s : ChangeSpec} {tb : TypeId} {apart fresh handsOn again : Bool} {W W' : World} {args : Array Value} {ds gs : List (DataW H)} {before : List MemPlace}
    (hl : laidOutB P = true) (hts : f.params.toList.all (fun t => P.readableRec t && decide (t < P.types.size)) = true) (hv : s.vars = [])
    (hrt : f.resultTypes = #[tb]) (htb : P.underlying tb = some .bool) (hW : DataW.Whole enc P f.params.toList s.vars apart W args.toList ds gs before)
    (hs : ds.length = f.params.toList.length → s.fn H (ds ++ gs) = { results := [.lit (.bool true)], args := ds }) (hb : Below W.heap.size W W') : s.post enc P f apart fresh handsOn again W args (.bool true) W' := by
  have hW' := hW
  obtain ⟨p, q, hA, hV, hpq, hz, hn⟩ := hW
  have hgs : gs = [] ∧ q = [] := by
    rw [hv] at hV
    cases gs with
    | nil => exact ⟨rfl, hV⟩
    | cons _ _ => exact hV.elim
  obtain ⟨rfl, rfl⟩ := hgs
  have hlt : ∀ x ∈ before, x.block < W.heap.size := hW'.lt
  rw [List.append_nil] at hpq
  subst hpq
  have hs' := hs (trodAll_len hA)
  have hargs : ∀ sp : Nat → Bool, (∀ x ∈ before, sp x.block = true) → DataW.TrodAll enc P W' 0 sp true f.params.toList args.toList ds before := fun sp hsp =>
    stays_all hl hts hA (fun x hx => hb.same (hlt x hx)) hsp
  have hres : ∀ (b : Nat) (sp : Nat → Bool) (hd : Bool), DataW.TrodAll enc P W' b sp hd f.resultTypes.toList ((Value.bool true).resultList f.resultTypes.size) [.lit (.bool true)] [] := fun b sp hd => by
    rw [hrt]; exact trodAll_cons_mk (shut_bool htb _) trodAll_mk0
  have hold : ∀ x ∈ before, (fun b => decide (b < W.heap.size)) x.block = true := fun x hx => by simpa using hlt x hx
  have hvars : ∀ sp : Nat → Bool, DataW.TrodVars enc P W' sp s.vars ([] : List (DataW H)) [] := fun sp => by rw [hv]; rfl
  refine ⟨ds, [], before, [], before, [], hW', ?_, ?_, ?_, hb.frame _, fun _ => ⟨?_, ?_⟩⟩
  · rw [hs']; exact hres _ _ _
  · rw [hs']; exact hargs _ hold
  · rw [hs']; exact hvars _
  · intro j t r h1 h2
    rw [hrt] at h1 h2
    cases j with
    | zero =>
      simp at h1 h2; subst h1
      have h3 : r = .bool true := by simpa [Value.resultList] using h2.symm
      subst h3
      exact okWide_bool_mk htb _
    | succ j => simp at h1
  · refine ⟨[.lit (.bool true)] ++ ds, [], [] ++ before, ⟨[] ++ before, [], trodAll_append (hargs _ (fun _ _ => rfl)) (hres _ _ _), hvars _, by simp, ?_, ?_⟩, ?_⟩
    · intro b off hp
      rw [hb.frozen (p := ⟨b, off, none⟩) (hlt (.cell b off) (by simpa using hp))]
      exact hz b off (by simpa using hp)
    · intro ha; simpa using hn ha
    · intro x hx _; simpa using hx

/-- What a slice's datum tells of its room. -/
def Room (d : DataW H) (c : Nat) : Prop := (d = .nil ∧ c = 0) ∨ ∃ el sp, d = .slice el sp ∧ el.length + sp.length = c
theorem Room.bytes {P : Program} {ts : List TypeId} {ds : List (DataW H)} (h : (DataW.weightsEach P ts ds).all (· ≤ reachBytes) = true) {j c : Nat} {t e : TypeId} {d : DataW H} (hr : Room d c) (ht : ts[j]? = some t) (hd : ds[j]? = some d) (hu : P.underlying t = some (.slice e)) : c * P.bytesOf e ≤ reachBytes := by
  rcases hr with ⟨_, rfl⟩ | ⟨el, sp, rfl, rfl⟩
  · simp
  · exact sized_slice h ht hd hu

/-- A slice of numbers, opened: what its readers need. -/
theorem open_nums {α : Type} (V : α → Value) {k : IntKind} (dec : Int → α) (hdec : ∀ z, (Lit.int k z).wf = true → Value.int k z = V (dec z)) {r : Reach} {W : World} {sp : Nat → Bool} {base b0 : Nat} {t e : TypeId} {v : Value} {d : DataW H} {ps : List MemPlace}
    (ht : P.underlying t = some (.slice e)) (he : P.underlying e = some (.int k)) (hc : P.cellsOf e = 1) (hsp : ∀ b, sp b = true) (hval : Value.okWide P W r b0 t v) (hd : DataW.Trod enc P W base sp true t v d ps) :
    ∃ a m c, ∃ q : List α, v = .slice a m c ∧ q.length = m ∧ m ≤ c ∧ c ≤ maxLen ∧ Rd W a (q.map V) ∧ Room d c := by
  obtain ⟨a0, len, cap, rfl⟩ := okWide_slice ht hval
  obtain ⟨fuel, hf⟩ := hd
  rcases open_ints ht he hc hf with ⟨hcs, hx⟩ | ⟨a, len', cap', zs, hcs, _, hl, hm, hz, hx, hcell, hwz⟩
  · simp [Value.cells] at hcs
    obtain ⟨rfl, rfl, rfl⟩ := hcs
    simp only [Prod.mk.injEq] at hx
    exact ⟨none, 0, 0, [], rfl, rfl, Nat.le_refl _, Nat.zero_le _, Rd.nil _ _, .inl ⟨hx.1, rfl⟩⟩
  · simp [Value.cells] at hcs
    obtain ⟨rfl, rfl, rfl⟩ := hcs
    simp only [Prod.mk.injEq] at hx
    rw [hsp, if_pos rfl] at hz
    refine ⟨some a, len, cap, (zs.take len).map dec, rfl, by simp; omega, hl, hm, ?_, .inr ⟨_, _, hx.1, by simp [lits]; omega⟩⟩
    intro j x hj
    have hjl : j < (zs.take len).length := by have := (List.getElem?_eq_some_iff.1 hj).1; simpa using this
    have hjz : j < zs.length := by rw [List.length_take] at hjl; omega
    have hget : zs.getD j 0 = zs[j] := by simp [List.getD_eq_getElem?_getD, hjz]
    have hw := hwz zs[j] (List.getElem_mem _)
    have h2 := hcell j hjz
    rw [hget, hdec _ hw] at h2
    have hx2 : x = V (dec zs[j]) := by
      rw [List.map_map, List.getElem?_map, List.getElem?_take, if_pos (by rw [List.length_take] at hjl; omega)] at hj
      simp [hjz] at hj
      exact hj.symm
    subst hx2
    have hspot : a.spot = none := by
      cases hs : a.spot with
      | none => rfl
      | some s =>
        exfalso
        have h3 := hcell 0 (by omega)
        have h4 : a.add 0 = a := by unfold Addr.add; simp
        rw [h4] at h3
        unfold World.cell? at h3
        rw [hs] at h3
        split at h3 <;> simp at h3
    obtain ⟨b, o, s⟩ := a
    simp only at hspot; subst hspot
    exact ⟨b, o, rfl, by rw [add_none] at h2; exact h2⟩

theorem dec_u8 (z : Int) (h : (Lit.int .u8 z).wf = true) : Value.int .u8 z = vU8 (UInt8.ofNat z.toNat) := by
  have h1 : IntKind.u8.min = 0 := rfl
  have h2 : IntKind.u8.max = 255 := rfl
  simp only [Lit.wf, Bool.and_eq_true, decide_eq_true_eq, h1, h2] at h
  unfold vU8; congr 1; rw [UInt8.toNat_ofNat']; omega
theorem dec_u32 (z : Int) (h : (Lit.int .u32 z).wf = true) : Value.int .u32 z = vU32 (UInt32.ofNat z.toNat) := by
  have h1 : IntKind.u32.min = 0 := rfl
  have h2 : IntKind.u32.max = 4294967295 := rfl
  simp only [Lit.wf, Bool.and_eq_true, decide_eq_true_eq, h1, h2] at h
  unfold vU32; congr 1; rw [UInt32.toNat_ofNat']; omega
theorem dec_u64 (z : Int) (h : (Lit.int .u64 z).wf = true) : Value.int .u64 z = vU64 (UInt64.ofNat z.toNat) := by
  have h1 : IntKind.u64.min = 0 := rfl
  have h2 : IntKind.u64.max = 18446744073709551615 := rfl
  simp only [Lit.wf, Bool.and_eq_true, decide_eq_true_eq, h1, h2] at h
  unfold vU64; congr 1; rw [UInt64.toNat_ofNat']; omega
/-- An int is within its bounds. -/
theorem dec_int (z : Int) (h : (Lit.int .i64 z).wf = true) : -9223372036854775808 ≤ z ∧ z ≤ 9223372036854775807 := by
  have h1 : IntKind.i64.min = -9223372036854775808 := rfl
  have h2 : IntKind.i64.max = 9223372036854775807 := rfl
  simpa [Lit.wf, h1, h2] using h
theorem open_u8s {r : Reach} {W : World} {b0 : Nat} {t e : TypeId} {v : Value} {d : DataW H} {ps : List MemPlace} (ht : P.underlying t = some (.slice e)) (he : P.underlying e = some (.int .u8)) (hc : P.cellsOf e = 1) (hval : Value.okWide P W r b0 t v)
    (hd : DataW.Trod enc P W 0 (fun _ => true) true t v d ps) : ∃ a m c, ∃ q : List UInt8, v = .slice a m c ∧ q.length = m ∧ m ≤ c ∧ c ≤ maxLen ∧ Rd W a (q.map vU8) ∧ Room d c :=
  open_nums vU8 _ dec_u8 ht he hc (fun _ => rfl) hval hd
theorem open_u32s {r : Reach} {W : World} {b0 : Nat} {t e : TypeId} {v : Value} {d : DataW H} {ps : List MemPlace} (ht : P.underlying t = some (.slice e)) (he : P.underlying e = some (.int .u32)) (hc : P.cellsOf e = 1) (hval : Value.okWide P W r b0 t v)
    (hd : DataW.Trod enc P W 0 (fun _ => true) true t v d ps) : ∃ a m c, ∃ q : List UInt32, v = .slice a m c ∧ q.length = m ∧ m ≤ c ∧ c ≤ maxLen ∧ Rd W a (q.map vU32) ∧ Room d c :=
  open_nums vU32 _ dec_u32 ht he hc (fun _ => rfl) hval hd
/-- A slice of ints. -/
theorem open_ints' {r : Reach} {W : World} {b0 : Nat} {t e : TypeId} {v : Value} {d : DataW H} {ps : List MemPlace} (ht : P.underlying t = some (.slice e)) (he : P.underlying e = some (.int .i64)) (hc : P.cellsOf e = 1) (hval : Value.okWide P W r b0 t v)
    (hd : DataW.Trod enc P W 0 (fun _ => true) true t v d ps) : ∃ a m c, ∃ q : List Int, v = .slice a m c ∧ q.length = m ∧ m ≤ c ∧ c ≤ maxLen ∧ Rd W a (q.map vInt) ∧ Room d c ∧ ∀ z ∈ q, -9223372036854775808 ≤ z ∧ z ≤ 9223372036854775807 := by
  obtain ⟨a, m, c, q, h1, h2, h3, h4, h5, h6⟩ := open_nums (fun z : { z : Int // -9223372036854775808 ≤ z ∧ z ≤ 9223372036854775807 } => vInt z.1) (fun z => if h : -9223372036854775808 ≤ z ∧ z ≤ 9223372036854775807 then ⟨z, h⟩ else ⟨0, by decide⟩)
    (fun z hz => by rw [dif_pos (dec_int z hz)]; rfl) ht he hc (fun _ => rfl) hval hd
  refine ⟨a, m, c, q.map (·.1), h1, by rw [List.length_map]; exact h2, h3, h4, by rw [List.map_map]; exact h5, h6, fun z hz => ?_⟩
  obtain ⟨y, _, rfl⟩ := List.mem_map.1 hz
  exact y.2
theorem open_u64 {r : Reach} {W : World} {base b0 : Nat} {sp : Nat → Bool} {t : TypeId} {v : Value} {d : DataW H} {ps : List MemPlace} (ht : P.underlying t = some (.int .u64)) (hval : Value.okWide P W r b0 t v) (hd : DataW.Trod enc P W base sp true t v d ps) : ∃ n : UInt64, v = vU64 n := by
  obtain ⟨n, rfl, _, _, hw⟩ := open_int ht hval hd
  exact ⟨_, dec_u64 n hw⟩
end
end Go.Sx

namespace Go.Sx
open Go.ChangeShapes Go.WideShapes Go.ChangeAt Go.RowKit

/-- A slice that is read: its place, its room, its elements. -/
structure Sl (α : Type) where
  a : Option Addr
  c : Nat
  xs : List α
instance {α : Type} : Inhabited (Sl α) := ⟨⟨none, 0, []⟩⟩
def Sl.v {α : Type} (s : Sl α) : Value := .slice s.a s.xs.length s.c
def Sl.nil {α : Type} : Sl α := ⟨none, 0, []⟩
/-- What holds of it in a world. -/
structure Sl.ok {α : Type} (cl : α → List Value) (bsz : Nat) (kk : World → α → Prop) (w : World) (s : Sl α) : Prop where
  rd : Rd w s.a (s.xs.flatMap cl)
  le : s.xs.length ≤ s.c
  max : s.c ≤ maxLen
  bytes : s.c * bsz ≤ 140737488351232
  each : ∀ x ∈ s.xs, kk w x
def Sl.sz {α : Type} (sz : α → Nat) (s : Sl α) : Nat := s.c + (s.xs.map sz).sum

/-- How a bulk counts. -/
structure Bulk {H : Type} (B : DataW H → Nat) : Prop where
  pos : ∀ d, 0 < B d
  slice : ∀ el sp, B (.slice el sp) = (el.map B).sum + (sp.map B).sum + 1
  agg : ∀ ps, B (.agg ps) = (ps.map B).sum + 1
  str : ∀ bs, B (.lit (.string bs)) = bs.length + 1

section
variable {H : Type} (enc : TypeId × Value → H) (P : Program) (B : DataW H → Nat)
/-- Cells that read as a datum of the type are those of some x. -/
def Opener {α : Type} (t : TypeId) (cells : α → List Value) (ok : World → α → Prop) (sz : α → Nat) : Prop :=
  ∀ ⦃W : World⦄ ⦃fuel : Nat⦄ ⦃cs : List Value⦄ ⦃d : DataW H⦄ ⦃ps : List MemPlace⦄, DataW.trod enc P W 0 (fun _ => true) true fuel t cs = some (d, ps) →
    (∀ n ∈ d.weights P t, n ≤ reachBytes) → ∃ x, cs = cells x ∧ ok W x ∧ sz x < B d
def noOk {α : Type} : World → α → Prop := fun _ _ => True
def noSz {α : Type} : α → Nat := fun _ => 0
variable {enc P B}

theorem Opener.map {α β : Type} {t : TypeId} {cells : α → List Value} {ok : World → α → Prop} {sz : α → Nat} (h : Opener enc P B t cells ok sz) (g : α → β)
    {cells' : β → List Value} {ok' : World → β → Prop} {sz' : β → Nat} (hc : ∀ W x, ok W x → cells x = cells' (g x)) (ho : ∀ W x, ok W x → ok' W (g x)) (hs : ∀ x, sz' (g x) ≤ sz x) : Opener enc P B t cells' ok' sz' := by
  intro W fuel cs d ps h1 h2
  obtain ⟨x, rfl, hx, hl⟩ := h h1 h2
  exact ⟨g x, hc W x hx, ho W x hx, Nat.lt_of_le_of_lt (hs x) hl⟩

theorem opener_num {α : Type} (V : α → Value) {k : IntKind} (dec : Int → α) (hdec : ∀ z, (Lit.int k z).wf = true → Value.int k z = V (dec z)) (hB : Bulk B) {t : TypeId} (ht : P.underlying t = some (.int k)) :
    Opener enc P B t (fun x => [V x]) noOk noSz := by
  intro W fuel cs d ps h _
  obtain ⟨n, rfl, hx, hw⟩ := DataW.trod_int ht h
  exact ⟨dec n, by rw [hdec n hw], trivial, hB.pos _⟩
theorem dec_u16 (z : Int) (h : (Lit.int .u16 z).wf = true) : Value.int .u16 z = vU16 (UInt16.ofNat z.toNat) := by
  have h1 : IntKind.u16.min = 0 := rfl
  have h2 : IntKind.u16.max = 65535 := rfl
  simp only [Lit.wf, Bool.and_eq_true, decide_eq_true_eq, h1, h2] at h
  unfold vU16; congr 1; rw [UInt16.toNat_ofNat']; omega
theorem opener_u8 (hB : Bulk B) {t : TypeId} (ht : P.underlying t = some (.int .u8)) : Opener enc P B t (fun x => [vU8 x]) noOk noSz := opener_num vU8 _ dec_u8 hB ht
theorem opener_u16 (hB : Bulk B) {t : TypeId} (ht : P.underlying t = some (.int .u16)) : Opener enc P B t (fun x => [vU16 x]) noOk noSz := opener_num vU16 _ dec_u16 hB ht
theorem opener_u32 (hB : Bulk B) {t : TypeId} (ht : P.underlying t = some (.int .u32)) : Opener enc P B t (fun x => [vU32 x]) noOk noSz := opener_num vU32 _ dec_u32 hB ht
theorem opener_u64 (hB : Bulk B) {t : TypeId} (ht : P.underlying t = some (.int .u64)) : Opener enc P B t (fun x => [vU64 x]) noOk noSz := opener_num vU64 _ dec_u64 hB ht
/-- An int within its bounds. -/
def okInt : World → Int → Prop := fun _ z => -9223372036854775808 ≤ z ∧ z ≤ 9223372036854775807
theorem opener_int (hB : Bulk B) {t : TypeId} (ht : P.underlying t = some (.int .i64)) : Opener enc P B t (fun x => [vInt x]) okInt noSz := by
  intro W fuel cs d ps h _
  obtain ⟨n, rfl, hx, hw⟩ := DataW.trod_int ht h
  exact ⟨n, rfl, dec_int n hw, hB.pos _⟩
def okI8 : World → Int → Prop := fun _ z => -128 ≤ z ∧ z ≤ 127
theorem opener_i8 (hB : Bulk B) {t : TypeId} (ht : P.underlying t = some (.int .i8)) : Opener enc P B t (fun x => [.int .i8 x]) okI8 noSz := by
  intro W fuel cs d ps h _
  obtain ⟨n, rfl, hx, hw⟩ := DataW.trod_int ht h
  exact ⟨n, rfl, bounds_i8 hw, hB.pos _⟩
theorem opener_bool (hB : Bulk B) {t : TypeId} (ht : P.underlying t = some .bool) : Opener enc P B t (fun x => [.bool x]) noOk noSz := by
  intro W fuel cs d ps h _
  obtain ⟨n, rfl, hx⟩ := DataW.trod_bool ht h
  exact ⟨n, rfl, trivial, hB.pos _⟩
theorem opener_string (hB : Bulk B) {t : TypeId} (ht : P.underlying t = some .string) : Opener enc P B t (fun x => [.string x]) noOk noSz := by
  intro W fuel cs d ps h _
  obtain ⟨n, rfl, hx, _⟩ := DataW.trod_string ht h
  exact ⟨n, rfl, trivial, hB.pos _⟩

theorem mem_weightsAll {e : TypeId} {l : List (DataW H)} {d : DataW H} (h : d ∈ l) {n : Nat} (hn : n ∈ d.weights P e) : n ∈ DataW.weightsAll P e l := by
  induction l with
  | nil => cases h
  | cons x r ih =>
    simp only [DataW.weightsAll, List.mem_append]
    cases List.mem_cons.1 h with
    | inl e => subst e; exact .inl hn
    | inr e => exact .inr (ih e)

theorem choose_list {α : Type} {p : Nat → α → Prop} : ∀ n : Nat, (∀ i, i < n → ∃ x, p i x) → ∃ l : List α, l.length = n ∧ ∀ i x, l[i]? = some x → p i x
  | 0, _ => ⟨[], rfl, fun i x h => by simp at h⟩
  | n + 1, h => by
    obtain ⟨l, hl, hp⟩ := choose_list n (fun i hi => h i (by omega))
    obtain ⟨y, hy⟩ := h n (by omega)
    refine ⟨l ++ [y], by simp [hl], fun i x hx => ?_⟩
    rcases Nat.lt_or_ge i l.length with hi | hi
    · rw [List.getElem?_append_left hi] at hx; exact hp i x hx
    · rw [List.getElem?_append_right hi] at hx
      have h1 : i - l.length = 0 := by have := (List.getElem?_eq_some_iff.1 hx).1; simpa using this
      rw [h1] at hx
      simp at hx
      subst hx
      have : i = n := by omega
      subst this
      exact hy

/-- Bytes (or other numbers) in an array. -/
theorem opener_arr {α : Type} {n : Nat} {t e : TypeId} {V : α → Value} {ok : World → α → Prop} {sz : α → Nat} (hB : Bulk B) (ht : P.underlying t = some (.array n e)) (hc : P.cellsOf e = 1) (hct : P.cellsOf t = n)
    (ho : Opener enc P B e (fun x => [V x]) ok sz) : Opener enc P B t (fun l => l.map V) (fun w (l : List α) => l.length = n ∧ ∀ x ∈ l, ok w x) noSz := by
  intro W fuel cs d ps h hw
  obtain ⟨xs, m, rfl, hx, hl, hxl, hel⟩ := DataW.trod_array ht h
  have hd : d = .agg (xs.map (·.1)) := congrArg Prod.fst hx
  subst hd
  rw [hct] at hl
  have hw' : ∀ q ∈ DataW.weightsAll P e (xs.map (·.1)), q ≤ reachBytes := fun q hq => hw q (by simp only [DataW.weights, ht]; exact hq)
  have hall : ∀ i, i < n → ∃ x, cs[i]? = some (V x) ∧ ok W x := by
    intro i hi
    have h1 := hel i hi
    rw [hc, Nat.mul_one] at h1
    have h2 : xs[i]? = some xs[i] := by simp
    rw [h2] at h1
    obtain ⟨x, he, hox, _⟩ := ho h1 (fun q hq => hw' q (mem_weightsAll (d := xs[i].1) (List.mem_map_of_mem (by simp)) hq))
    refine ⟨x, ?_, hox⟩
    have h3 := congrArg (·[0]?) he
    simp only [List.getElem?_take, List.getElem?_drop] at h3
    simpa using h3
  obtain ⟨l, hll, hf⟩ := choose_list (α := α) (p := fun i x => cs[i]? = some (V x) ∧ ok W x) n hall
  refine ⟨l, ?_, ⟨hll, ?_⟩, hB.pos _⟩
  · apply List.ext_getElem?
    intro i
    rcases Nat.lt_or_ge i n with hi | hi
    · have h1 : l[i]? = some l[i] := by simp
      rw [(hf i _ h1).1, List.getElem?_map, h1]; rfl
    · rw [List.getElem?_eq_none (by omega), List.getElem?_eq_none (by simp; omega)]
  · intro x hx
    obtain ⟨i, hi⟩ := List.mem_iff_getElem?.1 hx
    exact (hf i _ hi).2

/-- Fields one behind the other: their types and places. -/
def Fields (enc : TypeId × Value → H) (P : Program) (B : DataW H → Nat) {α : Type} (fs : List (TypeId × Nat)) (k : Nat) (cells : α → List Value) (ok : World → α → Prop) (sz : α → Nat) : Prop :=
  ∀ ⦃W : World⦄ ⦃fuel : Nat⦄ ⦃cs : List Value⦄ ⦃xs : List (DataW H × List MemPlace)⦄, xs.length = fs.length →
    (∀ (i : Nat) (t : TypeId) (o : Nat), fs[i]? = some (t, o) → DataW.trod enc P W 0 (fun _ => true) true fuel t ((cs.drop o).take (P.cellsOf t)) = xs[i]?) →
    (∀ n ∈ DataW.weightsEach P (fs.map (·.1)) (xs.map (·.1)), n ≤ reachBytes) → ∃ x, cs.drop k = cells x ++ cs.drop (k + (fs.map fun f => P.cellsOf f.1).sum) ∧ ok W x ∧ sz x ≤ ((xs.map (·.1)).map B).sum
theorem fields_nil {k : Nat} : Fields enc P B [] k (fun (_ : Unit) => []) noOk noSz := by
  intro W fuel cs xs hl _ _
  exact ⟨(), by simp, trivial, Nat.zero_le _⟩
theorem fields_cons {α β : Type} {fs : List (TypeId × Nat)} {k n : Nat} {t : TypeId} {c1 : α → List Value} {o1 : World → α → Prop} {s1 : α → Nat} {c2 : β → List Value} {o2 : World → β → Prop} {s2 : β → Nat}
    (hn : P.cellsOf t = n) (h1 : Opener enc P B t c1 o1 s1) (h2 : Fields enc P B fs (k + n) c2 o2 s2) :
    Fields enc P B ((t, k) :: fs) k (fun (x : α × β) => c1 x.1 ++ c2 x.2) (fun w x => o1 w x.1 ∧ o2 w x.2) (fun x => s1 x.1 + s2 x.2) := by
  intro W fuel cs xs hl hx hw
  cases xs with
  | nil => simp at hl
  | cons y ys =>
    obtain ⟨d, ps⟩ := y
    have hy := hx 0 t k rfl
    rw [hn] at hy
    obtain ⟨x, hcx, hox, hsx⟩ := h1 hy (fun q hq => hw q (by simp only [List.map_cons, DataW.weightsEach, List.mem_append]; exact .inl hq))
    obtain ⟨z, hcz, hoz, hsz⟩ := @h2 W fuel cs ys (by simpa using hl) (fun i u o hg => by simpa using hx (i + 1) u o (by simpa using hg))
      (fun q hq => hw q (by simp only [List.map_cons, DataW.weightsEach, List.mem_append]; exact .inr hq))
    refine ⟨(x, z), ?_, ⟨hox, hoz⟩, by simp only [List.map_cons, List.sum_cons]; omega⟩
    have h3 : cs.drop k = (cs.drop k).take n ++ cs.drop (k + n) := by rw [← List.drop_drop, List.take_append_drop]
    rw [h3, hcx, hcz]
    simp only [List.map_cons, List.sum_cons, hn, List.append_assoc, Nat.add_assoc]
theorem opener_struct {α : Type} {t : TypeId} {fs : Array Field} {L : List (TypeId × Nat)} {cells : α → List Value} {ok : World → α → Prop} {sz : α → Nat} (hB : Bulk B) (ht : P.underlying t = some (.struct fs)) (hfs : fs.toList.map (fun f => (f.type, f.offset)) = L) (hct : P.cellsOf t = (L.map fun f => P.cellsOf f.1).sum)
    (h : Fields enc P B L 0 cells ok sz) : Opener enc P B t cells ok sz := by
  intro W fuel cs d ps h1 hw
  obtain ⟨xs, m, rfl, hx, hl, hxl, hel⟩ := DataW.trod_struct ht h1
  have hd : d = .agg (xs.map (·.1)) := congrArg Prod.fst hx
  subst hd
  subst hfs
  have hmm : (fs.toList.map (fun f => (f.type, f.offset))).map (·.1) = fs.toList.map (·.type) := by rw [List.map_map]; rfl
  obtain ⟨x, hc, ho, hs⟩ := @h W m cs xs (by simpa using hxl) (fun i u o hf => by
    rw [List.getElem?_map, Option.map_eq_some_iff] at hf
    obtain ⟨f, hf, he⟩ := hf
    simp only [Prod.mk.injEq] at he
    obtain ⟨rfl, rfl⟩ := he
    exact hel i f (by simpa using hf)) (fun q hq => hw q (by rw [hmm] at hq; simp only [DataW.weights, ht]; exact hq))
  refine ⟨x, ?_, ho, by rw [hB.agg]; omega⟩
  rw [← hct, Nat.zero_add, List.drop_zero, ← hl, List.drop_length, List.append_nil] at hc
  exact hc

theorem sum_le_bulk {α : Type} {sz : α → Nat} : ∀ (l : List α) (D : Nat → DataW H), (∀ i x, l[i]? = some x → sz x < B (D i)) → l.length + (l.map sz).sum ≤ (((List.range l.length).map D).map B).sum
  | [], _, _ => by simp
  | x :: r, D, h => by
    have ih := sum_le_bulk r (fun i => D (i + 1)) (fun i y hy => h (i + 1) y (by simpa using hy))
    have h1 := h 0 x rfl
    have h2 : ((List.range (r.length + 1)).map D) = D 0 :: (List.range r.length).map (fun i => D (i + 1)) := by
      rw [List.range_succ_eq_map, List.map_cons, List.map_map]; rfl
    simp only [List.length_cons, List.map_cons, List.sum_cons, h2] at *
    omega
theorem len_le_bulk (hB : Bulk B) : ∀ l : List (DataW H), l.length ≤ (l.map B).sum
  | [] => by simp
  | d :: r => by have := len_le_bulk hB r; have := hB.pos d; simp only [List.length_cons, List.map_cons, List.sum_cons]; omega

theorem flatMap_get {α : Type} {cells : α → List Value} {n : Nat} : ∀ (l : List α), (∀ x ∈ l, (cells x).length = n) → ∀ (j : Nat) (v : Value), (l.flatMap cells)[j]? = some v → ∃ i k, ∃ x, j = i * n + k ∧ k < n ∧ l[i]? = some x ∧ (cells x)[k]? = some v
  | [], _, j, v, h => by simp at h
  | x :: r, hl, j, v, h => by
    have hx := hl x (by simp)
    rw [List.flatMap_cons] at h
    rcases Nat.lt_or_ge j n with hj | hj
    · rw [List.getElem?_append_left (by omega)] at h
      exact ⟨0, j, x, by simp, hj, by simp, h⟩
    · rw [List.getElem?_append_right (by omega), hx] at h
      obtain ⟨i, k, y, hjk, hk, hy, hv⟩ := flatMap_get r (fun y hy => hl y (by simp [hy])) (j - n) v h
      exact ⟨i + 1, k, y, by rw [Nat.add_mul]; omega, hk, by simpa using hy, hv⟩

theorem spot_none {w : World} {a : Addr} {v : Value} (h : w.cell? a = some v) : a.spot = none := by
  cases hs : a.spot with
  | none => rfl
  | some s =>
    exfalso
    unfold World.cell? at h
    rw [hs] at h
    split at h <;> simp at h

theorem opener_slice {α : Type} {n b : Nat} {t e : TypeId} {cells : α → List Value} {ok : World → α → Prop} {sz : α → Nat} (hB : Bulk B) (ht : P.underlying t = some (.slice e)) (hc : P.cellsOf e = n) (hb : P.bytesOf e = b) (hn : 0 < n)
    (ho : Opener enc P B e cells ok sz) : Opener enc P B t (fun s : Sl α => [s.v]) (Sl.ok cells b ok) (Sl.sz sz) := by
  intro W fuel cs d ps h hw
  rcases Deep.open_slice ht h with ⟨rfl, hx⟩ | ⟨a, len, cap, m, k, D, Pl, rfl, _, hl, hm, hmm, hx, hel⟩
  · have hd : d = .nil := congrArg Prod.fst hx
    subst hd
    exact ⟨Sl.nil, rfl, ⟨Rd.nil _ _, Nat.le_refl _, Nat.zero_le _, by simp [Sl.nil], fun x hx => by cases hx⟩, by simp [Sl.sz, Sl.nil, hB.pos]⟩
  · simp only [if_true] at hmm
    subst hmm
    have hd : d = .slice ((List.range len).map D) ((List.range (m - len)).map fun j => D (len + j)) := congrArg Prod.fst hx
    subst hd
    simp only [DataW.weights, ht, List.length_map, List.length_range, hb, List.mem_cons, List.mem_append] at hw
    rw [hc] at hel
    have hall : ∀ i, i < len → ∃ x, W.cells? 0 (a.add (i * n)) n = some (cells x) ∧ ok W x ∧ sz x < B (D i) := by
      intro i hi
      obtain ⟨cs', h1, h2⟩ := hel i (by omega)
      obtain ⟨x, rfl, hox, hs⟩ := ho h2 (fun q hq => hw q (.inr (.inl (mem_weightsAll (d := D i) (List.mem_map_of_mem (by simpa using hi)) hq))))
      exact ⟨x, h1, hox, hs⟩
    obtain ⟨l, hll, hf⟩ := choose_list (α := α) (p := fun i x => W.cells? 0 (a.add (i * n)) n = some (cells x) ∧ ok W x ∧ sz x < B (D i)) len hall
    subst hll
    refine ⟨⟨some a, m, l⟩, by simp [Sl.v], ⟨?_, hl, hm, ?_, ?_⟩, ?_⟩
    · intro j v hj
      obtain ⟨i, q, x, rfl, hq, hx, hv⟩ := flatMap_get (n := n) _ (fun x hx => by
        obtain ⟨i, hi⟩ := List.mem_iff_getElem?.1 hx
        exact (World.cells?_some (hf i _ hi).1).2.1) j v hj
      have h1 := (World.cells?_some (hf i _ hx).1).2.2 q hq
      rw [hv] at h1
      have hil : 0 < l.length := by have h9 : i < l.length := (List.getElem?_eq_some_iff.1 hx).1; omega
      have h0 := (World.cells?_some (hf 0 l[0] (by simp)).1).2
      have h00 := h0.2 0 hn
      rw [List.getElem?_eq_getElem (by omega), Nat.zero_mul] at h00
      have hadd : ∀ a : Addr, a.add 0 = a := fun a => by unfold Addr.add; simp
      rw [hadd, hadd] at h00
      have hspot := spot_none h00
      obtain ⟨b', o, s⟩ := a
      have hs : s = none := hspot
      subst hs
      rw [add_none, add_none] at h1
      exact ⟨b', o, rfl, by rw [Nat.add_assoc] at h1; exact h1⟩
    · have h1 := hw ((l.length + (m - l.length)) * b) (.inl rfl)
      have h2 : l.length + (m - l.length) = m := by omega
      rw [h2] at h1
      exact Nat.le_trans h1 (by decide)
    · intro x hx
      obtain ⟨i, hi⟩ := List.mem_iff_getElem?.1 hx
      exact (hf i _ hi).2.1
    · rw [hB.slice]
      have h1 := sum_le_bulk (sz := sz) l D (fun i x hi => (hf i x hi).2.2)
      have h2 := len_le_bulk hB ((List.range (m - l.length)).map fun j => D (l.length + j))
      simp only [List.length_map, List.length_range] at h2
      simp only [Sl.sz]
      omega
end
end Go.Sx

namespace Go.Sx
section
variable {w0 w : World} {olds : List Nat} {l : List Ent}

theorem SW.beginM {P : Program} {n : Nat} {c : Code} {F : Fr} {Q : Po} {w : World} {olds : List Nat} {l : List Ent} (hm : Mem w olds l w) (h : SW P n c F (Mem w olds l) Q) : SW P n c F (· = w) Q :=
  fun a w' hf hw => by subst hw; exact h a w' hf hm

theorem Mem.argNe (hm : Mem w0 olds l w) {a : Option Addr} {xs : List Value} (hr : Rd w0 a xs) (hne : 0 < xs.length → ∀ b' o', a = some ⟨b', o', none⟩ → b' ∉ olds) {i j b : Nat} {o : Obj} {e : Ent} (hp : pick l i = some (b, o)) (hq : pick l j = e) :
    0 < xs.length → ∀ b' o', a = some ⟨b', o', none⟩ → b' ∉ b :: keys [e] := by
  intro hx b' o' ha hb
  have hlt := hr.lt ha hx
  have hno := hne hx b' o' ha
  have hk : b' ∈ keys l := by
    rcases List.mem_cons.1 hb with h | h
    · subst h; exact mem_keys (pick_mem hp)
    · obtain ⟨y, hy⟩ := keys_one h
      exact mem_keys (pick_mem (hq.trans hy))
  rcases hm.fresh b' hk with h | h
  · omega
  · exact hno h
theorem Mem.argNe0 (hm : Mem w0 [] l w) {a : Option Addr} {xs : List Value} (hr : Rd w0 a xs) {i j b : Nat} {o : Obj} {e : Ent} (hp : pick l i = some (b, o)) (hq : pick l j = e) :
    0 < xs.length → ∀ b' o', a = some ⟨b', o', none⟩ → b' ∉ b :: keys [e] := hm.argNe hr (fun _ _ _ _ h => by cases h) hp hq
theorem Mem.ownNe (hm : Mem w0 olds l w) {i j k b c : Nat} {o x : Obj} {e : Ent} (hk : pick l k = some (c, x)) (hp : pick l i = some (b, o)) (hq : pick l j = e) (hki : k ≠ i) (hkj : k ≠ j) {q : Nat} :
    ∀ b' o', (some ⟨c, q, none⟩ : Option Addr) = some ⟨b', o', none⟩ → b' ∉ b :: keys [e] := by
  intro b' o' ha hb
  simp only [Option.some.injEq, Addr.mk.injEq, and_true] at ha
  obtain ⟨rfl, _⟩ := ha
  rcases List.mem_cons.1 hb with h | h
  · exact hm.ne hk hp hki h
  · obtain ⟨y, hy⟩ := keys_one h
    exact hm.ne hk (hq.trans hy) hkj rfl
theorem Mem.rowNe (hm : Mem w0 olds l w) {i j k b n c size T : Nat} {a : Option Addr} {xs : List Value} {o : Obj} {e e' : Ent} (hr : RowE (.slice a n c) T size n xs e') (hk : pick l k = e') (hp : pick l i = some (b, o)) (hq : pick l j = e) (hki : k ≠ i) (hkj : k ≠ j) :
    ∀ b' o', a = some ⟨b', o', none⟩ → b' ∉ b :: keys [e] := by
  intro b' o' ha
  subst ha
  rcases hr.2 with ⟨h, _⟩ | ⟨c', cap, rest, h, _, _, _, h5⟩
  · simp at h
  · simp only [Value.slice.injEq, Option.some.injEq, Addr.mk.injEq, and_true] at h
    obtain ⟨⟨rfl, rfl⟩, _⟩ := h
    exact hm.ownNe (q := 0) (hk.trans h5) hp hq hki hkj _ 0 rfl
theorem Mem.cast (h : Mem w0 olds l w) {l' : List Ent} (e : l = l') : Mem w0 olds l' w := e ▸ h
/-- What was turned is as it was: nothing was turned. -/
theorem Mem.back {l' m : List Ent} (h : Mem w0 olds (m ++ l') w) (h0 : Mem w0 olds l' w0) (hk : ∀ b ∈ olds, b ∈ keys l') (hm : ∀ b ∈ keys m, b ∉ olds) : Mem w0 [] m w := by
  have hnd := h.nodup
  rw [keys_append] at hnd
  refine ⟨h.os, h.tape, h.output, h.size, fun k hk' _ => ?_, fun b o hy => h.own b o (by simp [hy]), (List.nodup_append.1 hnd).1, fun b hb => ?_⟩
  · by_cases hko : k ∈ olds
    · obtain ⟨o, ho⟩ := keys_mem (hk k hko)
      rw [h.own k o (by simp [ho]), h0.own k o ho]
    · exact h.keep k hk' hko
  · rcases h.fresh b (by rw [keys_append]; simp [hb]) with h1 | h1
    · exact .inl h1
    · exact absurd h1 (hm b hb)
theorem Mem.backKeys {l' : List Ent} {e : Ent} (h : Mem w0 (keys l') (e :: l') w) (h0 : Mem w0 (keys l') l' w0) : Mem w0 [] [e] w := by
  refine Mem.back (m := [e]) (l' := l') h h0 (fun _ h => h) fun b hb ho => ?_
  have hnd := h.nodup
  have h1 : keys (e :: l') = keys [e] ++ keys l' := keys_append [e] l'
  rw [h1] at hnd
  exact (List.nodup_append.1 hnd).2.2 b hb b ho rfl
end

section
variable {P : Program} {n : Nat} {F : Fr} {S : World → Prop} {ty : TypeId} {w0 : World} {olds : List Nat} {m : List Ent}
theorem ow_place {ops : Array Oper} {rest : List Oper} {Q : Po} (h : OW P n ops rest F (Mem w0 olds (none :: m)) Q) : OW P n ops rest F (Mem w0 olds m) Q :=
  fun a w hf hm => h a w hf hm.place
theorem sw_place {c : Code} {Q : Po} (h : SW P n c F (Mem w0 olds (none :: m)) Q) : SW P n c F (Mem w0 olds m) Q :=
  fun a w hf hm => h a w hf hm.place

/-- Two results, the first a row of its own. -/
theorem ow_call_row2 {ops : Array Oper} {t : Nat} {op : Op} {ps : String} {af : Array Edge} {rest : List Oper} {Q : Po} {f : FuncId} {args : Array Value} {E : TypeId} {size k : Nat} {xs : List Value} {x : Value}
    (hv : CallsTo P n F (Mem w0 olds m) op ty f args) (ht : Nat.blt t n = true)
    (hc : ∀ w, Mem w0 olds m w → Calls P f args w fun e w' => ∃ u, e = .returned u ∧ ∃ s e', u = .tuple #[s, x] ∧ RowE s E size k xs e' ∧ Mem w [] [e'] w')
    (h : ∀ a c e', RowE (.slice a k c) E size k xs e' → OW P n ops rest ((t, .tuple #[.slice a k c, x]) :: F) (Mem w0 olds (e' :: m)) Q) :
    OW P n ops (⟨some t, op, ty, ps, af, none⟩ :: rest) F (Mem w0 olds m) Q :=
  ow_call_new (fun u l' => ∃ s e', l' = [e'] ∧ u = .tuple #[s, x] ∧ RowE s E size k xs e') hv ht
    (fun w hm => (hc w hm).mono fun _ _ ⟨u, he, s, e', hu, hr, hm'⟩ => ⟨u, he, [e'], ⟨s, e', rfl, hu, hr⟩, hm'⟩)
    (fun u l' ⟨s, e', hl, hu, hr⟩ => by
      subst hl; subst hu
      obtain ⟨a, c, rfl, _⟩ := hr.slice
      exact h a c e' hr)
/-- The whole of an array's bytes, named. -/
theorem val_slice_array_hi' {T E : TypeId} {x y : Operand} {b o len m : Nat} {kl : IntKind} {i : Int} (k e : Nat) (hx : ev F x = some (.pointer (some ⟨b, o, none⟩))) (hy : ev F y = some (.int kl i)) (hT : P.underlying T = some (.array len E))
    (hS : ∀ w, (sizeOf E).run P w = .ok m w) (hi : i = (k : Int)) (hk : k ≤ len) (he : o = e) : Val P n F S (.slice T x none (some y) none) ty (.slice (some ⟨b, e, none⟩) k len) := by
  subst he; exact val_slice_array_hi k hx hy hT hS hi hk
/-- A byte of a constant string. -/
theorem val_index_string {T : TypeId} {x y : Operand} {s : ByteArray} {k' : IntKind} {i : Int} {v : UInt8} (k : Nat) (hx : ev F x = some (.string s)) (hy : ev F y = some (.int k' i)) (hT : P.underlying T = some .string)
    (hi : i = (k : Int)) (hk : s.data[k]? = some v) : Val P n F S (.index T x y) ty (vU8 v) := by
  intro a w hf hw d ps af g
  obtain ⟨hks, hv⟩ := Array.getElem?_eq_some_iff.1 hk
  subst hi
  have hks' : k < s.size := hks
  simp [execOp, ev_eval hf hx, ev_eval hf hy, Instr.index, asIntOf, run_underlying hT, asString, hks']
  simp [vU8, ← hv]
  rfl

end

/-! Parts of lists of structures. -/
theorem flatMap_part {α : Type} {cells : α → List Value} {n : Nat} : ∀ (l : List α), (∀ x ∈ l, (cells x).length = n) → ∀ (i : Nat) (x : α), l[i]? = some x → ((l.flatMap cells).drop (i * n)).take n = cells x
  | [], _, i, x, h => by simp at h
  | y :: r, hl, 0, x, h => by
    have hy := hl y (by simp)
    simp at h; subst h
    rw [List.flatMap_cons, Nat.zero_mul, List.drop_zero, List.take_append_of_le_length (by omega), List.take_of_length_le (by omega)]
  | y :: r, hl, i + 1, x, h => by
    have hy := hl y (by simp)
    rw [List.flatMap_cons, Nat.succ_mul, Nat.add_comm, ← List.drop_drop, List.drop_left' hy]
    exact flatMap_part r (fun z hz => hl z (by simp [hz])) i x (by simpa using h)
theorem flatMap_one {α : Type} (V : α → Value) (l : List α) : (l.flatMap fun x => [V x]) = l.map V := by
  induction l with
  | nil => rfl
  | cons x r ih => rw [List.flatMap_cons, ih]; rfl
theorem flatMap_size {α : Type} {cells : α → List Value} {n : Nat} (l : List α) (hl : ∀ x ∈ l, (cells x).length = n) : (l.flatMap cells).length = l.length * n := by
  induction l with
  | nil => simp
  | cons x r ih =>
    rw [List.flatMap_cons, List.length_append, hl x (by simp), ih (fun z hz => hl z (by simp [hz])), List.length_cons, Nat.succ_mul, Nat.add_comm]
/-- The cells of the element i of a list of structures. -/
theorem Rd.part {α : Type} {cells : α → List Value} {n : Nat} {w : World} {b o : Nat} {l : List α} (h : Rd w (some ⟨b, o, none⟩) (l.flatMap cells)) (hl : ∀ x ∈ l, (cells x).length = n) {i : Nat} {x : α} (hi : l[i]? = some x) :
    Rd w (some ⟨b, o + i * n, none⟩) (cells x) :=
  h.sub (i * n) (by rw [hl x (List.mem_of_getElem? hi)]; exact flatMap_part l hl i x hi)
theorem Rd.memO {w0 w : World} {l : List Ent} {olds : List Nat} {a : Option Addr} {xs : List Value} (h : Rd w0 a xs) (hm : Mem w0 olds l w) (ho : 0 < xs.length → ∀ b o, a = some ⟨b, o, none⟩ → b ∉ olds) : Rd w a xs := by
  cases xs with
  | nil => exact Rd.nil _ _
  | cons x r => exact h.memOlds hm (ho (by simp))
theorem Rd.castR {w : World} {a : Option Addr} {xs ys : List Value} (h : Rd w a xs) (e : xs = ys) : Rd w a ys := e ▸ h
theorem Rd.ownP {α : Type} {V : α → Value} {p : List α} {w0 w : World} {l : List Ent} {olds : List Nat} {i b : Nat} {ys : List Value} {T : TypeId} (o : Nat) (hm : Mem w0 olds l w) (hp : pick l i = some (b, Sx.blk ys T)) (hx : (ys.drop o).take p.length = p.map V) : Rd w (some ⟨b, o, none⟩) (p.map V) :=
  Rd.own hm hp (by rw [List.length_map]; exact hx)
theorem Rd.all {w : World} {b o : Nat} {cs : List Value} (h : Rd w (some ⟨b, o, none⟩) cs) : ∀ j v, cs[j]? = some v → w.cell? ⟨b, o + j, none⟩ = some v := fun _ _ hj => h.cell hj
/-! Lists of aggregates, laid. -/
theorem foldl_splice : ∀ (vs : List Value) (off k : Nat) (A : List Value), off + k + vs.length ≤ A.length →
    (vs.zipIdx k).foldl (fun (cs : Array Value) (x : Value × Nat) => cs.setIfInBounds (off + x.2) x.1) A.toArray = (A.take (off + k) ++ vs ++ A.drop (off + k + vs.length)).toArray
  | [], off, k, A, h => by simp
  | v :: vs, off, k, A, h => by
    simp only [List.length_cons] at h
    have hset : A.toArray.setIfInBounds (off + k) v = (A.set (off + k) v).toArray := by simp
    rw [List.zipIdx_cons, List.foldl_cons, hset, foldl_splice vs off (k + 1) (A.set (off + k) v) (by simp; omega)]
    congr 1
    have h1 := splice_set A v vs (off + k) (by omega)
    rw [show off + (k + 1) = off + k + 1 by omega, show off + k + 1 + vs.length = off + k + (vs.length + 1) by omega]
    rw [← h1, List.length_cons]
theorem fill_parts {size : Nat} : ∀ (parts : List (List Value)) (i : Nat) (pre rest : List Value), (∀ c ∈ parts, c.length = size) → pre.length = i * size → rest.length = parts.length * size →
    Instr.fill (fun i => some (i * size, size)) (pre ++ rest).toArray ((parts.zipIdx i).map fun x => (x.2, Value.agg x.1.toArray)) = some (pre ++ parts.flatten).toArray
  | [], i, pre, rest, _, _, hr => by
    have : rest = [] := List.length_eq_zero_iff.1 (by simpa using hr)
    subst this
    simp [Instr.fill]
  | c :: cs, i, pre, rest, hc, hp, hr => by
    have hcl := hc c (by simp)
    rw [List.length_cons, Nat.succ_mul] at hr
    rw [List.zipIdx_cons, List.map_cons, Instr.fill]
    have h1 : (Value.agg c.toArray).cells = c.toArray := rfl
    simp only [h1, List.size_toArray, hcl]
    have hle : ¬ (i * size + size > (pre ++ rest).length) := by rw [List.length_append, hp]; omega
    simp only [ne_eq, not_true, decide_false, hle, Bool.or_self, Bool.false_eq_true, if_false]
    have h2 : Array.foldl (fun (cs : Array Value) (x : Value × Nat) => cs.setIfInBounds (i * size + x.2) x.1) (pre ++ rest).toArray c.toArray.zipIdx = ((pre ++ c) ++ rest.drop size).toArray := by
      have hz : c.toArray.zipIdx = (c.zipIdx 0).toArray := by simp
      rw [hz, List.foldl_toArray, foldl_splice c (i * size) 0 (pre ++ rest) (by rw [List.length_append, hp, hcl]; omega)]
      congr 1
      rw [Nat.add_zero, ← hp, List.take_left', hcl, ← List.drop_drop, List.drop_left']
      · rfl
      · rfl
    have h3 := fill_parts cs (i + 1) (pre ++ c) (rest.drop size) (fun x hx => hc x (by simp [hx])) (by rw [List.length_append, hp, hcl, Nat.succ_mul]) (by rw [List.length_drop]; omega)
    rw [List.flatten_cons, ← List.append_assoc, ← h3]
    exact congrArg (fun a => Instr.fill _ a _) h2
/-- A list of aggregates out of its parts. -/
theorem fill_aggs {size len : Nat} {z : Value} (parts : List (List Value)) (hz : 0 < z.cells.size) (hl : parts.length = len) (hc : ∀ c ∈ parts, c.length = size) :
    Instr.fill (fun i => some (i * size, size)) ((Array.range (len * size)).map ((if len * size = 0 then #[] else z.cells)[· % (if len * size = 0 then #[] else z.cells).size]!)) ((parts.zipIdx 0).map fun x => (x.2, Value.agg x.1.toArray)) = some parts.flatten.toArray := by
  subst hl
  have h := fill_parts parts 0 [] ((Array.range (parts.length * size)).map ((if parts.length * size = 0 then #[] else z.cells)[· % (if parts.length * size = 0 then #[] else z.cells).size]!)).toList hc (by simp) (by simp)
  rw [List.nil_append, List.nil_append, Array.toArray_toList] at h
  exact h

section
variable {P : Program} {n : Nat} {F : Fr} {S : World → Prop} {ty : TypeId}
/-- An element of a list of structures, loaded whole. -/
theorem val_load_elem {α : Type} [Inhabited α] {T : TypeId} {x : Operand} {b o e m i : Nat} {cells : α → List Value} {l : List α} (hx : ev F x = some (.pointer (some ⟨b, e, none⟩))) (hA : ∀ w, (isAgg T).run P w = .ok true w) (hS : ∀ w, (sizeOf T).run P w = .ok m w)
    (hl : ∀ x ∈ l, (cells x).length = m) (hi : i < l.length) (he : o + i * m = e) (hrd : ∀ w, S w → Rd w (some ⟨b, o, none⟩) (l.flatMap cells)) : Val P n F S (.load T x) ty (.agg (cells (l.getD i default)).toArray) := by
  subst he
  have h1 : l[i]? = some (l.getD i default) := by simp [List.getD_eq_getElem?_getD, hi]
  exact val_load_agg hx hA hS (hl _ (List.mem_of_getElem? h1)) (fun w hw j v hj => ((hrd w hw).part hl h1).cell hj)
end
end Go.Sx

namespace Go.Sx
open Go.ChangeShapes Go.WideShapes Go.ChangeAt Go.RowKit
section
variable {H : Type} {enc : TypeId × Value → H} {P : Program} {B : DataW H → Nat}
theorem Opener.cell {α : Type} {t : TypeId} {V : α → Value} {ok : World → α → Prop} {sz : α → Nat} (h : Opener enc P B t (fun x => [V x]) ok sz) {W : World} {v : Value} {d : DataW H} {ps : List MemPlace} (h1 : v.cells = #[v])
    (hd : DataW.Trod enc P W 0 (fun _ => true) true t v d ps) (hw : ∀ n ∈ d.weights P t, n ≤ reachBytes) : ∃ x, v = V x ∧ ok W x ∧ sz x < B d := by
  obtain ⟨fuel, hf⟩ := hd
  obtain ⟨x, hc, ho, hs⟩ := h hf hw
  rw [h1] at hc
  simp at hc
  exact ⟨x, hc, ho, hs⟩
theorem Opener.agg {α : Type} {t : TypeId} {cells : α → List Value} {ok : World → α → Prop} {sz : α → Nat} (h : Opener enc P B t cells ok sz) {W : World} {v : Value} {d : DataW H} {ps : List MemPlace} (h1 : ∃ cs, v = .agg cs)
    (hd : DataW.Trod enc P W 0 (fun _ => true) true t v d ps) (hw : ∀ n ∈ d.weights P t, n ≤ reachBytes) : ∃ x, v = .agg (cells x).toArray ∧ ok W x ∧ sz x < B d := by
  obtain ⟨fuel, hf⟩ := hd
  obtain ⟨x, hc, ho, hs⟩ := h hf hw
  obtain ⟨cs, rfl⟩ := h1
  refine ⟨x, ?_, ho, hs⟩
  have h2 : cs.toList = cells x := hc
  rw [← h2]
variable {w : World} {r : Reach} {base : Nat} {t : TypeId} {v : Value}
theorem single_slice {e : TypeId} (ht : P.underlying t = some (.slice e)) (h : Value.okWide P w r base t v) : v.cells = #[v] := by obtain ⟨a, b, c, rfl⟩ := okWide_slice ht h; rfl
theorem single_int {k : IntKind} (ht : P.underlying t = some (.int k)) (h : Value.okWide P w r base t v) : v.cells = #[v] := by obtain ⟨a, rfl⟩ := okWide_int ht h; rfl
theorem single_bool (ht : P.underlying t = some .bool) (h : Value.okWide P w r base t v) : v.cells = #[v] := by obtain ⟨a, rfl⟩ := okWide_bool ht h; rfl
theorem single_string (ht : P.underlying t = some .string) (h : Value.okWide P w r base t v) : v.cells = #[v] := by obtain ⟨a, rfl⟩ := okWide_string ht h; rfl
theorem agg_struct {fs : Array Field} (ht : P.underlying t = some (.struct fs)) (h : Value.okWide P w r base t v) : ∃ cs, v = .agg cs := by
  obtain ⟨cs, h1, _⟩ := okWide_struct ht h; exact ⟨cs, h1⟩
theorem agg_array {n : Nat} {e : TypeId} (ht : P.underlying t = some (.array n e)) (h : Value.okWide P w r base t v) : ∃ cs, v = .agg cs := by
  unfold Value.okWide at h
  rw [ht] at h
  obtain ⟨cs, h1, _⟩ := h; exact ⟨cs, h1⟩
theorem weights_at {ts : List TypeId} {ds : List (DataW H)} (h : (DataW.weightsEach P ts ds).all (· ≤ reachBytes) = true) {j : Nat} {t : TypeId} {d : DataW H} (ht : ts[j]? = some t) (hd : ds[j]? = some d) : ∀ n ∈ d.weights P t, n ≤ reachBytes := by
  intro n hn
  have := List.all_eq_true.1 h _ (DataW.weights_mem_each ht hd n hn)
  simpa using this
theorem sum_mem_le : ∀ {l : List (DataW H)} {d : DataW H}, d ∈ l → B d ≤ (l.map B).sum
  | x :: r, d, h => by
    cases List.mem_cons.1 h with
    | inl e => subst e; simp
    | inr e => have := sum_mem_le e; simp only [List.map_cons, List.sum_cons]; omega

/-- What a slice of bytes tells. -/
theorem Sl.bytes {W : World} {s : Sl UInt8} (h : Sl.ok (fun x => [vU8 x]) 1 noOk W s) : Rd W s.a (s.xs.map vU8) ∧ s.xs.length ≤ s.c ∧ s.xs.length < 9223372036854775808 := by
  have h1 := h.rd
  rw [flatMap_one] at h1
  have h2 := h.max
  have h3 := h.le
  exact ⟨h1, h3, by simp only [maxLen] at h2; omega⟩
theorem sz_mem {α : Type} {sz : α → Nat} : ∀ {l : List α} {x : α}, x ∈ l → sz x ≤ (l.map sz).sum
  | y :: r, x, h => by
    cases List.mem_cons.1 h with
    | inl e => subst e; simp
    | inr e => have := sz_mem (sz := sz) e; simp only [List.map_cons, List.sum_cons]; omega
end
end Go.Sx

namespace Go.Sx
section
variable {P : Program} {n : Nat} {F : Fr} {S : World → Prop} {ty : TypeId} {w0 : World} {olds : List Nat} {l : List Ent}
theorem ret_tct {fn : Func} {R : Value → World → Prop} {w : World} {t u s : Nat} {T U : TypeId} {b m : Nat} {xs : List Value} {x y : Value} (i : Nat) (hr : fn.results = #[.tmp s, .cell t T, .tmp u]) (hy : look F s = some y) (hv : look F t = some (.pointer (some ⟨b, 0, none⟩))) (hx : look F u = some x)
    (hm : Mem w0 olds l w) (hp : pick l i = some (b, blk xs U)) (hA : ∀ w, (isAgg T).run P w = .ok true w) (hS : ∀ w, (sizeOf T).run P w = .ok m w) (hl : xs.length = m) (h : R (.tuple #[y, .agg xs.toArray, x]) w) : Ret P fn R .ret F w := by
  refine ⟨_, fun a hf => ?_, h⟩
  have h1 := loadVar_agg (P := P) (b := b) (o := 0) (hA w) (hS w) hl (fun j v hj => by rw [Nat.zero_add, hm.cellAt hp]; exact hj)
  have h2 : a.tmps[t]?.getD undef = .pointer (some ⟨b, 0, none⟩) := by
    rw [hf.has t _ hv]; rfl
  have h3 : a.tmps[u]?.getD undef = x := by
    rw [hf.has u _ hx]; rfl
  have h4 : a.tmps[s]?.getD undef = y := by
    rw [hf.has s _ hy]; rfl
  simp only [results, hr]
  simp [h2, h3, h4, asAddr, h1]
theorem ret_cct {fn : Func} {R : Value → World → Prop} {w : World} {t u s : Nat} {T U T' U' : TypeId} {b m b' m' : Nat} {xs ys : List Value} {x : Value} (i j : Nat) (hr : fn.results = #[.cell s T', .cell t T, .tmp u]) (hy : look F s = some (.pointer (some ⟨b', 0, none⟩))) (hv : look F t = some (.pointer (some ⟨b, 0, none⟩))) (hx : look F u = some x)
    (hm : Mem w0 olds l w) (hp' : pick l j = some (b', blk ys U')) (hp : pick l i = some (b, blk xs U)) (hA' : ∀ w, (isAgg T').run P w = .ok true w) (hS' : ∀ w, (sizeOf T').run P w = .ok m' w) (hA : ∀ w, (isAgg T).run P w = .ok true w) (hS : ∀ w, (sizeOf T).run P w = .ok m w) (hl' : ys.length = m') (hl : xs.length = m) (h : R (.tuple #[.agg ys.toArray, .agg xs.toArray, x]) w) : Ret P fn R .ret F w := by
  refine ⟨_, fun a hf => ?_, h⟩
  have h1 := loadVar_agg (P := P) (b := b) (o := 0) (hA w) (hS w) hl (fun j v hj => by rw [Nat.zero_add, hm.cellAt hp]; exact hj)
  have h5 := loadVar_agg (P := P) (b := b') (o := 0) (hA' w) (hS' w) hl' (fun j v hj => by rw [Nat.zero_add, hm.cellAt hp']; exact hj)
  have h2 : a.tmps[t]?.getD undef = .pointer (some ⟨b, 0, none⟩) := by
    rw [hf.has t _ hv]; rfl
  have h3 : a.tmps[u]?.getD undef = x := by
    rw [hf.has u _ hx]; rfl
  have h4 : a.tmps[s]?.getD undef = .pointer (some ⟨b', 0, none⟩) := by
    rw [hf.has s _ hy]; rfl
  simp only [results, hr]
  simp [h2, h3, h4, asAddr, h1, h5]
theorem ret_tc {fn : Func} {R : Value → World → Prop} {w : World} {t s : Nat} {T U : TypeId} {b m : Nat} {xs : List Value} {y : Value} (i : Nat) (hr : fn.results = #[.tmp s, .cell t T]) (hy : look F s = some y) (hv : look F t = some (.pointer (some ⟨b, 0, none⟩)))
    (hm : Mem w0 olds l w) (hp : pick l i = some (b, blk xs U)) (hA : ∀ w, (isAgg T).run P w = .ok true w) (hS : ∀ w, (sizeOf T).run P w = .ok m w) (hl : xs.length = m) (h : R (.tuple #[y, .agg xs.toArray]) w) : Ret P fn R .ret F w := by
  refine ⟨_, fun a hf => ?_, h⟩
  have h1 := loadVar_agg (P := P) (b := b) (o := 0) (hA w) (hS w) hl (fun j v hj => by rw [Nat.zero_add, hm.cellAt hp]; exact hj)
  have h2 : a.tmps[t]?.getD undef = .pointer (some ⟨b, 0, none⟩) := by
    rw [hf.has t _ hv]; rfl
  have h4 : a.tmps[s]?.getD undef = y := by
    rw [hf.has s _ hy]; rfl
  simp only [results, hr]
  simp [h2, h4, asAddr, h1]
theorem ret_ttt {fn : Func} {R : Value → World → Prop} {w : World} {t u s : Nat} {x y z : Value} (hr : fn.results = #[.tmp s, .tmp t, .tmp u]) (hz : look F s = some z) (hy : look F t = some y) (hx : look F u = some x) (h : R (.tuple #[z, y, x]) w) : Ret P fn R .ret F w := by
  refine ⟨_, fun a hf => ?_, h⟩
  have h2 : a.tmps[t]?.getD undef = y := by rw [hf.has t _ hy]; rfl
  have h3 : a.tmps[u]?.getD undef = x := by rw [hf.has u _ hx]; rfl
  have h4 : a.tmps[s]?.getD undef = z := by rw [hf.has s _ hz]; rfl
  simp only [results, hr]
  simp [h2, h3, h4]
end

/-! Structs, laid out of their fields. -/
def layOf : Nat → List Value → List (Nat × Nat)
  | _, [] => []
  | o, v :: r => (o, v.cells.size) :: layOf (o + v.cells.size) r
theorem fill_vals : ∀ (vs : List Value) (i : Nat) (pre rest : List Value) (pl : Nat → Option (Nat × Nat)), (∀ j x, (layOf pre.length vs)[j]? = some x → pl (i + j) = some x) → rest.length = (vs.map fun v => v.cells.size).sum →
    Instr.fill pl (pre ++ rest).toArray ((vs.zipIdx i).map fun x => (x.2, x.1)) = some (pre ++ vs.flatMap fun v => v.cells.toList).toArray
  | [], i, pre, rest, pl, _, hr => by
    have : rest = [] := List.length_eq_zero_iff.1 (by simpa using hr)
    subst this
    simp [Instr.fill]
  | v :: vs, i, pre, rest, pl, hp, hr => by
    rw [List.map_cons, List.sum_cons] at hr
    rw [List.zipIdx_cons, List.map_cons, Instr.fill]
    have h0 := hp 0 (pre.length, v.cells.size) rfl
    rw [Nat.add_zero] at h0
    simp only [h0, List.size_toArray]
    have hle : ¬ (pre.length + v.cells.size > (pre ++ rest).length) := by rw [List.length_append]; omega
    simp only [ne_eq, not_true, decide_false, hle, Bool.or_self, Bool.false_eq_true, if_false]
    obtain ⟨c, hc⟩ : ∃ c, v.cells = c.toArray := ⟨v.cells.toList, by simp⟩
    have hcl : v.cells.size = c.length := by rw [hc]; simp
    have h2 : Array.foldl (fun (cs : Array Value) (x : Value × Nat) => cs.setIfInBounds (pre.length + x.2) x.1) (pre ++ rest).toArray v.cells.zipIdx = ((pre ++ c) ++ rest.drop c.length).toArray := by
      have hz : v.cells.zipIdx = (c.zipIdx 0).toArray := by rw [hc]; simp
      rw [hz, List.foldl_toArray, foldl_splice c pre.length 0 (pre ++ rest) (by rw [List.length_append]; omega)]
      congr 1
      rw [Nat.add_zero, List.take_left' rfl, ← List.drop_drop, List.drop_left' rfl]
    have h3 := fill_vals vs (i + 1) (pre ++ c) (rest.drop c.length) pl (fun j x hx => by
      have := hp (j + 1) x (by simpa [layOf, hcl] using hx)
      rw [show i + 1 + j = i + (j + 1) by omega]; exact this) (by rw [List.length_drop]; omega)
    rw [List.flatMap_cons, ← List.append_assoc, hc]
    simp only []
    rw [← h3]
    rw [hc] at h2
    exact congrArg (fun a => Instr.fill _ a _) h2
def layT (P : Program) (T : TypeId) : Option (Nat × List (Nat × Nat)) :=
  match P.info? T, P.underlying T with
  | some it, some (.struct fields) =>
    match it.zero, fields.toList.mapM (fun f => (P.info? f.type).map fun i => (f.offset, i.size)) with
    | some z, some places => some (z.cells.size, places)
    | _, _ => none
  | _, _ => none
theorem built_struct {P : Program} {T : TypeId} {m : Nat} {places : List (Nat × Nat)} (h : layT P T = some (m, places)) (vs : List Value) (hl : layOf 0 vs = places) (hm : (vs.map fun v => v.cells.size).sum = m) {cs : List Value} (hc : (vs.flatMap fun v => v.cells.toList) = cs) :
    P.built T ((vs.zipIdx 0).map fun x => (x.2, x.1)) = some cs.toArray := by
  subst hc
  unfold layT at h
  unfold Program.built
  cases hi : P.info? T with
  | none => rw [hi] at h; simp at h
  | some it =>
    cases hu : P.underlying T with
    | none => rw [hi, hu] at h; simp at h
    | some d =>
      rw [hi, hu] at h
      cases d <;> simp only [reduceCtorEq] at h
      rename_i fields
      simp only []
      cases hz : it.zero with
      | none => rw [hz] at h; simp at h
      | some z =>
        rw [hz] at h
        cases hp : fields.toList.mapM (fun f => (P.info? f.type).map fun i => (f.offset, i.size)) with
        | none => rw [hp] at h; simp at h
        | some pl =>
          rw [hp] at h
          simp only [Option.some.injEq, Prod.mk.injEq] at h
          obtain ⟨h1, h2⟩ := h
          simp only []
          subst h2
          have h3 := fill_vals vs 0 [] z.cells.toList (pl.toArray[·]?) (fun j x hx => by
            have : layOf 0 vs = pl := hl
            rw [List.length_nil, this] at hx
            simpa using hx) (by rw [hm, ← h1]; simp)
          rw [List.nil_append, List.nil_append, Array.toArray_toList] at h3
          exact h3
theorem Rd.pre {w : World} {a : Option Addr} {xs ys : List Value} (h : Rd w a (xs ++ ys)) : Rd w a xs := fun j x hj => h j x (by rw [List.getElem?_append_left (List.getElem?_eq_some_iff.1 hj).1]; exact hj)
theorem pair_len {a b : List UInt8} (ha : a.length = 32) (hb : b.length = 32) : (a.map vU8 ++ b.map vU8).length = 64 := by simp [ha, hb]
theorem pair_0 {a b : List UInt8} (ha : a.length = 32) : ((a.map vU8 ++ b.map vU8).drop 0).take 32 = a.map vU8 := by rw [List.drop_zero, List.take_left' (by simp [ha])]
theorem pair_32 {a b : List UInt8} (ha : a.length = 32) (hb : b.length = 32) : ((a.map vU8 ++ b.map vU8).drop 32).take 32 = b.map vU8 := by rw [List.drop_left' (by simp [ha]), List.take_of_length_le (by simp [hb])]
theorem pair_0' {a b : List UInt8} (ha : a.length = 32) : ((a.map vU8 ++ b.map vU8).drop 0).take a.length = a.map vU8 := by rw [ha]; exact pair_0 ha
theorem pair_32' {a b : List UInt8} (ha : a.length = 32) (hb : b.length = 32) : ((a.map vU8 ++ b.map vU8).drop 32).take b.length = b.map vU8 := by rw [hb]; exact pair_32 ha hb
theorem one_pair (a b : List UInt8) : ∀ v ∈ a.map vU8 ++ b.map vU8, v.oneCell' = true := by
  intro v hv
  rcases List.mem_append.1 hv with h | h <;> exact one_u8s _ v h
theorem built_pair {P : Program} {T : TypeId} (h : layT P T = some (64, [(0, 32), (32, 32)])) (a b : List UInt8) (ha : a.length = 32) (hb : b.length = 32) :
    P.built T [(0, .agg (a.map vU8).toArray), (1, .agg (b.map vU8).toArray)] = some (a.map vU8 ++ b.map vU8).toArray :=
  built_struct h [.agg (a.map vU8).toArray, .agg (b.map vU8).toArray] (by simp [layOf, Value.cells, ha, hb]) (by simp [Value.cells, ha, hb]) (by simp [Value.cells])
end Go.Sx

namespace Go.Sx

/-- The blocks of the list stand as it says. -/
def Held (l : List Ent) (w : World) : Prop := ∀ b o, some (b, o) ∈ l → w.heap[b]? = some o
theorem Mem.held {w0 w : World} {olds : List Nat} {l : List Ent} (h : Mem w0 olds l w) : Held l w := h.own
theorem Held.sub {l l' : List Ent} {w : World} (h : Held l w) (hs : l'.Sublist l) : Held l' w := fun b o hb => h b o (hs.subset hb)
theorem Mem.heldSub {w0 w : World} {olds : List Nat} {l l' : List Ent} (h : Mem w0 olds l w) (hs : l'.Sublist l) : Held l' w := h.held.sub hs
theorem Held.head {e : Ent} {l : List Ent} {w : World} (h : Held (e :: l) w) : Held [e] w := h.sub (.cons_cons _ (List.nil_sublist _))
theorem Held.tail {e : Ent} {l : List Ent} {w : World} (h : Held (e :: l) w) : Held l w := h.sub (.cons _ (List.Sublist.refl _))
theorem Held.blk {b : Nat} {xs : List Value} {T : TypeId} {l : List Ent} {w : World} (h : Held (some (b, blk xs T) :: l) w) : Rd w (some ⟨b, 0, none⟩) xs := Rd.blk (T := T) (h b _ List.mem_cons_self)
theorem RowE.held {a : Option Addr} {c k size : Nat} {T : TypeId} {xs : List Value} {e : Ent} (h : RowE (.slice a k c) T size k xs e) {w : World} (hh : Held [e] w) : Rd w a xs := by
  obtain ⟨_, ⟨hv, hk, he⟩ | ⟨b, cap, rest, hv, hc, hc2, hl, he⟩⟩ := h
  · have : xs = [] := List.length_eq_zero_iff.1 (by rename_i h1; rw [h1, hk, Nat.zero_mul])
    subst this; exact Rd.nil _ _
  · subst he
    simp only [Value.slice.injEq] at hv
    rw [hv.1]
    exact Rd.pre (Rd.blk (T := T) (hh b _ List.mem_cons_self))

section
variable {P : Program} {n : Nat} {F : Fr} {w0 : World} {olds : List Nat} {m : List Ent} {ty : TypeId}
/-- A call that leaves blocks of its own, of a number that nobody tells. -/
theorem ow_call_tail {ops : Array Oper} {t : Nat} {op : Op} {ps : String} {af : Array Edge} {rest : List Oper} {Q : Po} {f : FuncId} {args : Array Value} {σ : Type} (V : σ → Value) (E : σ → List Ent) (I : σ → Prop)
    (hv : CallsTo P n F (Mem w0 olds m) op ty f args) (ht : Nat.blt t n = true)
    (hc : ∀ w, Mem w0 olds m w → Calls P f args w fun e w' => ∃ u, e = .returned u ∧ ∃ s, u = V s ∧ I s ∧ Mem w [] (E s) w')
    (h : ∀ s, I s → OW P n ops rest ((t, V s) :: F) (Mem w0 olds (m ++ E s)) Q) :
    OW P n ops (⟨some t, op, ty, ps, af, none⟩ :: rest) F (Mem w0 olds m) Q :=
  ow_call_new (fun u l' => ∃ s, u = V s ∧ I s ∧ l' = E s) hv ht
    (fun w hm => (hc w hm).mono fun _ _ ⟨u, he, s, hu, hi, hm'⟩ => ⟨u, he, E s, ⟨s, hu, hi, rfl⟩, hm'⟩)
    (fun u l' ⟨s, hu, hi, hl⟩ => by
      subst hl; subst hu
      intro a w hf hm
      exact h s hi a w hf (hm.perm List.perm_append_comm))
end
/-- A callee that turned the block at i and the row at j, and left blocks of its own. -/
theorem Mem.callUpd2T {w0 w : World} {olds : List Nat} {l es : List Ent} (h : Mem w0 olds l w) {i j b : Nat} {o o' : Obj} {e e' : Ent} (hp : pick l i = some (b, o)) (hq : pick l j = e) (hij : i ≠ j) {w' : World}
    (h' : Mem w (b :: keys [e]) (some (b, o') :: e' :: es) w') : Mem w0 olds (upd (upd l i (some (b, o'))) j e' ++ es) w' := by
  have H := h.callUpd2 hp hq hij (h'.only (l' := [some (b, o'), e']) (.cons_cons _ (.cons_cons _ (List.nil_sublist _))))
  have hbl : b ∈ keys l := mem_keys (pick_mem hp)
  have hel : ∀ c, c ∈ keys [e] → c ∈ keys l := fun c hc => by
    obtain ⟨x, hx⟩ := keys_one hc
    exact mem_keys (pick_mem (hq.trans hx))
  have hnd := h'.nodup
  rw [show some (b, o') :: e' :: es = [some (b, o'), e'] ++ es from rfl, keys_append] at hnd
  have hnd' := List.nodup_append.1 hnd
  have hq1 : pick (upd l i (some (b, o'))) j = e := by rw [pick_upd_ne _ _ _ _ hij]; exact hq
  have hn1 : (keys (upd l i (some (b, o')))).Nodup := nodup_upd l i _ h.nodup (fun c x hc => by
    simp only [Option.some.injEq, Prod.mk.injEq] at hc; obtain ⟨rfl, rfl⟩ := hc; exact .inr ⟨o, hp⟩)
  have hk1 : ∀ c ∈ keys (upd l i (some (b, o'))), c ∈ keys l := fun c hc => by
    rcases keys_upd l i _ c hc with h1 | ⟨x, h1⟩
    · exact h1
    · simp only [Option.some.injEq, Prod.mk.injEq] at h1; rw [← h1.1]; exact hbl
  have hfr : ∀ c ∈ keys es, w.heap.size ≤ c ∨ c ∈ b :: keys [e] := fun c hc => h'.fresh c (by
    rw [show some (b, o') :: e' :: es = [some (b, o'), e'] ++ es from rfl, keys_append]; exact List.mem_append_right _ hc)
  refine ⟨H.os, H.tape, H.output, H.size, H.keep, fun c x hy => ?_, ?_, fun c hc => ?_⟩
  · rcases List.mem_append.1 hy with hy | hy
    · exact H.own c x hy
    · exact h'.own c x (List.mem_cons_of_mem _ (List.mem_cons_of_mem _ hy))
  · rw [keys_append]
    refine List.nodup_append.2 ⟨H.nodup, hnd'.2.1, fun c hc c2 hc2 hcc => ?_⟩
    subst hcc
    obtain ⟨x, hx⟩ := keys_mem hc
    rcases upd_mem hn1 _ hx with h1 | ⟨h1, h2⟩
    · exact hnd'.2.2 c (mem_keys (o := x) (by rw [← h1]; simp)) c hc2 rfl
    · rcases hfr c hc2 with h3 | h3
      · have := h.lt (hk1 c (mem_keys h1)); omega
      · rcases List.mem_cons.1 h3 with rfl | h3
        · exact hnd'.2.2 c (mem_keys (o := o') (by simp)) c hc2 rfl
        · obtain ⟨y, hy⟩ := keys_one h3
          exact h2 c x c y rfl (hq1.trans hy) rfl
  · rw [keys_append] at hc
    rcases List.mem_append.1 hc with hc | hc
    · exact H.fresh c hc
    · rcases hfr c hc with h3 | h3
      · have := h.size; exact .inl (by omega)
      · rcases List.mem_cons.1 h3 with rfl | h3
        · exact h.fresh c hbl
        · exact h.fresh c (hel c h3)
section
variable {P : Program} {n : Nat} {F : Fr} {w0 : World} {olds : List Nat} {m : List Ent} {ty : TypeId}
/-- A call that turns a block and a row and leaves blocks of its own. -/
theorem ow_call_wrT {ops : Array Oper} {t : Nat} {op : Op} {ps : String} {af : Array Edge} {rest : List Oper} {Q : Po} {f : FuncId} {args : Array Value} {b : Nat} {o : Obj} {e : Ent} {v : Value} {σ : Type} (i j : Nat) (O : σ → Obj) (E : σ → Ent) (T : σ → List Ent) (I : σ → Prop)
    (hp : pick m i = some (b, o)) (hq : pick m j = e) (hij : i ≠ j) (hv : CallsTo P n F (Mem w0 olds m) op ty f args) (ht : Nat.blt t n = true)
    (hc : ∀ w, Mem w0 olds m w → Mem w (b :: keys [e]) [some (b, o), e] w → Calls P f args w fun en w' => ∃ u, en = .returned u ∧ u = v ∧ ∃ s, I s ∧ Mem w (b :: keys [e]) (some (b, O s) :: E s :: T s) w')
    (h : ∀ s, I s → OW P n ops rest ((t, v) :: F) (Mem w0 olds (upd (upd m i (some (b, O s))) j (E s) ++ T s)) Q) :
    OW P n ops (⟨some t, op, ty, ps, af, none⟩ :: rest) F (Mem w0 olds m) Q :=
  ow_call (fun _ u w' => u = v ∧ ∃ s, I s ∧ Mem w0 olds (upd (upd m i (some (b, O s))) j (E s) ++ T s) w') hv ht
    (fun w hm => (hc w hm (hm.start2 hp hq hij)).mono fun _ _ ⟨u, he, hu, s, hi, hm'⟩ => ⟨u, he, hu, s, hi, hm.callUpd2T hp hq hij hm'⟩)
    (fun _ u _ a w' hf ⟨hu, s, hi, hm'⟩ => by subst hu; exact h s hi a w' hf hm')
end
end Go.Sx

namespace Go.Sx
variable {P : Program} {n : Nat} {F : Fr} {S : World → Prop} {ty : TypeId}
theorem val_shr_nat {T V : TypeId} {x y : Operand} {a : Nat} {k' : IntKind} {i : Int} (c : Nat) (hx : ev F x = some (vInt (a : Int))) (hy : ev F y = some (.int k' i)) (hi : i = (c : Int)) (hc : c < 64) : Val P n F S (.binOp .shr T x y V) ty (vInt ((a / 2 ^ c : Nat) : Int)) :=
  bin_int hx hy fun w => by
    subst hi
    have h1 : ¬ ((c : Int) < 0) := by omega
    have h2 : min (Int.toNat (c : Int)) 64 = c := by simp; omega
    simp only [binOp, Op.shift, vInt, h1, if_false, IntKind.bits, h2, Sem.run_pure, Result.ok.injEq, Value.int.injEq, true_and, and_true]
    have h4 : (2 : Int) ^ c = ((2 ^ c : Nat) : Int) := by simp
    rw [h4, ← Int.ofNat_fdiv]
section
variable {l : List Oper} {late : List Nat} {listed : Array Bool} {M S : World → Prop} {Q : Po} {r : List (Nat × Nat)} {i t : Nat} {op : Op} {ps : String} {af : Array Edge} {w0 : World} {olds : List Nat} {m : List Ent} {f : FuncId} {args : Array Value}
/-- A call that leaves blocks of its own, in a region of open order. -/
theorem lw_call_tail {σ : Type} (V : σ → Value) (E : σ → List Ent) (I : σ → Prop) (ho : nth l i = some ⟨some t, op, ty, ps, af, none⟩) (hv : CallsTo P n F (Mem w0 olds m) op ty f args) (ht : Nat.blt t n = true)
    (hc : ∀ w, Mem w0 olds m w → Calls P f args w fun e w' => ∃ u, e = .returned u ∧ ∃ s, u = V s ∧ I s ∧ Mem w [] (E s) w')
    (hS : clean late (listed.setIfInBounds i true) = true → False)
    (h : ∀ s, I s → LW P n l S late r (listed.setIfInBounds i true) ((t, V s) :: F) (Mem w0 olds (m ++ E s)) Q) : LW P n l S late ((i, 2) :: r) listed F (Mem w0 olds m) Q :=
  lw_call (fun _ u w' => ∃ s, u = V s ∧ I s ∧ Mem w0 olds (m ++ E s) w') ho hv ht
    (fun _ hm => (hc _ hm).mono fun _ _ ⟨u, he, s, hu, hi, hm'⟩ => ⟨u, he, s, hu, hi, (hm.call hm').perm List.perm_append_comm⟩) (fun hcl => (hS hcl).elim)
    (fun _ u _ a w' hf ⟨s, hu, hi, hm'⟩ => by subst hu; exact h s hi a w' hf hm')
theorem lw_call_row2 {E : TypeId} {size k : Nat} {xs : List Value} {x : Value} (ho : nth l i = some ⟨some t, op, ty, ps, af, none⟩) (hv : CallsTo P n F (Mem w0 olds m) op ty f args) (ht : Nat.blt t n = true)
    (hc : ∀ w, Mem w0 olds m w → Calls P f args w fun e w' => ∃ u, e = .returned u ∧ ∃ s e', u = .tuple #[s, x] ∧ RowE s E size k xs e' ∧ Mem w [] [e'] w')
    (hS : clean late (listed.setIfInBounds i true) = true → False)
    (h : ∀ a c e', RowE (.slice a k c) E size k xs e' → LW P n l S late r (listed.setIfInBounds i true) ((t, .tuple #[.slice a k c, x]) :: F) (Mem w0 olds (e' :: m)) Q) : LW P n l S late ((i, 2) :: r) listed F (Mem w0 olds m) Q :=
  lw_call (fun _ u w' => ∃ s e', u = .tuple #[s, x] ∧ RowE s E size k xs e' ∧ Mem w0 olds (e' :: m) w') ho hv ht
    (fun _ hm => (hc _ hm).mono fun _ _ ⟨u, he, s, e', hu, hr, hm'⟩ => ⟨u, he, s, e', hu, hr, hm.call hm'⟩) (fun hcl => (hS hcl).elim)
    (fun _ u _ a w' hf ⟨s, e', hu, hr, hm'⟩ => by
      subst hu
      obtain ⟨a', c', rfl, _⟩ := hr.slice
      exact h a' c' e' hr a w' hf hm')
end
end Go.Sx
