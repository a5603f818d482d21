import Derived.Test.YtpmnhmfahgchgaaDoorSxA
import Derived.OrdersHeld
set_option linter.unusedVariables false
set_option linter.unusedSimpArgs false
namespace Go.Sx
section
variable {P : Program} {n : Nat}

def nth : List Oper → Nat → Option Oper
  | [], _ => none
  | o :: _, 0 => some o
  | _ :: r, k + 1 => nth r k

theorem nth_eq : ∀ (l : List Oper) (i : Nat), nth l i = l.toArray[i]?
  | [], i => by simp [nth]
  | o :: r, 0 => by simp [nth]
  | o :: r, k + 1 => by have := nth_eq r k; simp [nth] at this ⊢; exact this

/-- m waits, by some chain, for i. -/
def reach (ops : Array Oper) : Nat → Nat → Nat → Bool
  | 0, _, _ => false
  | f + 1, m, i => ((ops[m]?).map fun o => o.after.any fun e => Region.binds .any e && (e.on == i || reach ops f e.on i)).getD false

structure Closed (ops : Array Oper) (listed : Array Bool) : Prop where
  size : listed.size = ops.size
  back : ∀ j oj, ops[j]? = some oj → listed.getD j false = true → ∀ e ∈ oj.after, Region.binds .any e = true → listed.getD e.on false = true

theorem Closed.reach {ops : Array Oper} {listed : Array Bool} (hc : Closed ops listed) : ∀ (f m i : Nat), Sx.reach ops f m i = true → listed.getD m false = true → listed.getD i false = true
  | 0, _, _, h, _ => by simp [Sx.reach] at h
  | f + 1, m, i, h, hm => by
    unfold Sx.reach at h
    cases ho : ops[m]? with
    | none => simp [ho] at h
    | some o =>
      simp only [ho, Option.map_some, Option.getD_some] at h
      obtain ⟨e, he, hb⟩ := Array.any_eq_true'.1 h
      simp only [Bool.and_eq_true, Bool.or_eq_true, beq_iff_eq] at hb
      have h1 := hc.back m o ho hm e he hb.1
      rcases hb.2 with rfl | h2
      · exact h1
      · exact hc.reach f e.on i h2 h1

theorem Closed.set {ops : Array Oper} {listed : Array Bool} (hc : Closed ops listed) {i : Nat} (hi : i ∈ Region.ready .any ops listed) : Closed ops (listed.setIfInBounds i true) := by
  obtain ⟨_, oi, hoi, hall⟩ := mem_ready.1 hi
  refine ⟨by simp [hc.size], fun j oj hj hl e he hb => ?_⟩
  by_cases hij : i = j
  · subst hij
    obtain rfl : oj = oi := Option.some.inj (hj.symm.trans hoi)
    exact getD_set_true (hall e he hb)
  · rw [getD_set_ne false hij] at hl
    exact getD_set_true (hc.back j oj hj hl e he hb)

/-- None of the late ones has come up. -/
def clean (late : List Nat) (listed : Array Bool) : Bool := late.all fun m => !listed.getD m false

theorem clean_of_set {late : List Nat} {listed : Array Bool} {i : Nat} (h : clean late (listed.setIfInBounds i true) = true) : clean late listed = true := by
  simp only [clean, List.all_eq_true, Bool.not_eq_true'] at *
  intro m hm
  have h1 := h m hm
  cases h2 : listed.getD m false with
  | false => rfl
  | true => rw [getD_set_true h2] at h1; cases h1
theorem clean_set {late : List Nat} {listed : Array Bool} {i : Nat} (h : clean late listed = true) (hi : late.contains i = false) : clean late (listed.setIfInBounds i true) = true := by
  simp only [clean, List.all_eq_true, Bool.not_eq_true'] at *
  intro m hm
  have hne : i ≠ m := fun e => by subst e; simp at hi; exact hi hm
  rw [getD_set_ne false hne]
  exact h m hm

/-- Whatever order is picked; S holds behind each operation as long as none of the late ones has come up. -/
def wpAnyC (P : Program) (ops : Array Oper) (Q : Exit → Act → World → Prop) (S : World → Prop) (late : List Nat) : Nat → Array Bool → Act → World → Prop
  | 0, listed, a, w => Region.ready .any ops listed = [] ∧ Q .normal a w
  | fuel + 1, listed, a, w =>
    (Region.ready .any ops listed = [] → Q .normal a w) ∧
    ∀ i ∈ Region.ready .any ops listed, wpOp P ops Q i (fun a' w' => (clean late (listed.setIfInBounds i true) = true → S w') ∧ wpAnyC P ops Q S late fuel (listed.setIfInBounds i true) a' w') a w

section
variable {ops : Array Oper} {Q : Exit → Act → World → Prop} {S : World → Prop} {late : List Nat}

theorem wpAny_of_C : ∀ (fuel : Nat) (listed : Array Bool) (a : Act) (w : World), wpAnyC P ops Q S late fuel listed a w → wpAny P .any ops Q fuel listed a w
  | 0, _, _, _, h => h
  | fuel + 1, _, _, _, h => ⟨h.1, fun i hi => wpOp_mono (fun a' w' h' => wpAny_of_C fuel _ a' w' h'.2) (h.2 i hi)⟩

theorem unlisted_of_ready {i : Nat} {listed : Array Bool} (hr : i ∈ Region.ready .any ops listed) : listed.getD i false = false := by
  have h0 := (mem_ready.1 hr).1
  rcases Nat.lt_or_ge i listed.size with h' | h'
  · simp [h'] at h0 ⊢; exact h0
  · simp [Array.getElem?_eq_none h']

/-- An operation that may come up now may be taken first: it yields its value in every world of S. -/
theorem wpAnyC_first {i : Nat} {oi : Oper} {v : Value} (hi : ops[i]? = some oi) (hsel : ∀ (j : Nat) (o : Oper) cs b, ops[j]? = some o → o.op ≠ .select cs b)
    (hQ : ∀ c a w, Q (.panic c) (a.put oi.dst v) w → Q (.panic c) a w) (hr0 : ∀ m ∈ late, reach ops ops.size m i = true) :
    ∀ (fuel : Nat) (listed : Array Bool) (a : Act) (w : World), Closed ops listed →
      (∀ j oj, ops[j]? = some oj → j ≠ i → listed.getD j true = false → (∀ e ∈ oj.after, Region.binds .any e = true → e.on ≠ i) → oi.apart ops oj = true) →
      i ∈ Region.ready .any ops listed → YieldsIf P ops S oi v a → S w → clean late listed = true →
      wpAnyC P ops Q S late fuel (listed.setIfInBounds i true) (a.put oi.dst v) w → wpAnyC P ops Q S late (fuel + 1) listed a w := by
  intro fuel
  induction fuel with
  | zero =>
    intro listed a w hcl _ hr hy hS _ H
    refine ⟨fun h => (by rw [h] at hr; cases hr), fun j hj => ?_⟩
    by_cases hji : j = i
    · subst hji; exact hy.wpOp hi hS ⟨fun _ => hS, H⟩
    · have := ready_mono hj hji
      rw [H.1] at this
      cases this
  | succ fuel ih =>
    intro listed a w hcl hfree hr hy hS hclean H
    refine ⟨fun h => (by rw [h] at hr; cases hr), fun j hj => ?_⟩
    by_cases hji : j = i
    · subst hji; exact hy.wpOp hi hS ⟨fun _ => hS, H⟩
    · have h1 := H.2 j (ready_mono hj hji)
      obtain ⟨hjun, oj, hoj, hall⟩ := mem_ready.1 hj
      have hiun := unlisted_of_ready hr
      have hnot : ∀ e ∈ oj.after, Region.binds .any e = true → e.on ≠ i := fun e he hb heq => by
        have h1 := hall e he hb
        rw [heq, hiun] at h1; cases h1
      have hjl : late.contains j = false := by
        cases hc : late.contains j with
        | false => rfl
        | true =>
          have hj2 : (listed.setIfInBounds j true).getD j false = true := by
            have hlt : j < listed.size := by
              rw [hcl.size]; exact (Array.getElem?_eq_some_iff.1 hoj).1
            simp [hlt]
          have h3 := (hcl.set hj).reach _ j i (hr0 j (by simpa using hc)) hj2
          rw [getD_set_ne false hji, hiun] at h3
          cases h3
      have h2 := wpOp_putIf hoj (hfree j oj hoj hji hjun hnot) (fun cs b => hsel i oi cs b hi) (fun cs b => hsel j oj cs b hoj) hQ hy h1
      have hfree' : ∀ k ok, ops[k]? = some ok → k ≠ i → (listed.setIfInBounds j true).getD k true = false →
          (∀ e ∈ ok.after, Region.binds .any e = true → e.on ≠ i) → oi.apart ops ok = true := fun k ok hk hki hun hno => by
        refine hfree k ok hk hki ?_ hno
        by_cases hjk : j = k
        · subst hjk; exact hjun
        · rw [getD_set_ne true hjk] at hun; exact hun
      have hil : late.contains i = false := by
        cases hc : late.contains i with
        | false => rfl
        | true =>
          have hi2 : (listed.setIfInBounds i true).getD i false = true := by
            have hlt : i < listed.size := by
              rw [hcl.size]; exact (Array.getElem?_eq_some_iff.1 hi).1
            simp [hlt]
          have h3 := hr0 i (by simpa using hc)
          -- i would wait for itself
          have h4 := hcl.reach ops.size i i h3
          exfalso
          obtain ⟨_, oi', hoi', hall'⟩ := mem_ready.1 hr
          have : ops.size ≠ 0 := by
            have := (Array.getElem?_eq_some_iff.1 hi).1; omega
          obtain ⟨f, hf⟩ : ∃ f, ops.size = f + 1 := ⟨ops.size - 1, by omega⟩
          rw [hf] at h3
          unfold reach at h3
          simp only [hoi', Option.map_some, Option.getD_some] at h3
          obtain ⟨e, he, hb⟩ := Array.any_eq_true'.1 h3
          simp only [Bool.and_eq_true, Bool.or_eq_true, beq_iff_eq] at hb
          have h5 := hall' e he hb.1
          rcases hb.2 with h6 | h6
          · rw [h6, hiun] at h5; cases h5
          · rw [hcl.reach f e.on i h6 h5] at hiun; cases hiun
      have hcj : clean late (listed.setIfInBounds j true) = true := clean_set hclean hjl
      have hcji : clean late ((listed.setIfInBounds i true).setIfInBounds j true) = true := clean_set (clean_set hclean hil) hjl
      refine wpOp_mono (fun a' w' h3 => ⟨fun _ => h3.2.1 hcji, ih (listed.setIfInBounds j true) a' w' (hcl.set hj) hfree' (ready_mono hr (Ne.symm hji)) h3.1 (h3.2.1 hcji) hcj ?_⟩) h2
      rw [Array.setIfInBounds_comm _ _ hji]
      exact h3.2.2

/-- The same of an operation that yields its value in whatever world. -/
theorem wpAnyC_firstPure {i : Nat} {oi : Oper} {v : Value} (hi : ops[i]? = some oi) (hsel : ∀ (j : Nat) (o : Oper) cs b, ops[j]? = some o → o.op ≠ .select cs b)
    (hQ : ∀ c a w, Q (.panic c) (a.put oi.dst v) w → Q (.panic c) a w) (hil : late.contains i = false) :
    ∀ (fuel : Nat) (listed : Array Bool) (a : Act) (w : World),
      (∀ j oj, ops[j]? = some oj → j ≠ i → listed.getD j true = false → (∀ e ∈ oj.after, Region.binds .any e = true → e.on ≠ i) → oi.apart ops oj = true) →
      i ∈ Region.ready .any ops listed → Yields P ops oi v a → (clean late listed = true → S w) →
      wpAnyC P ops Q S late fuel (listed.setIfInBounds i true) (a.put oi.dst v) w → wpAnyC P ops Q S late (fuel + 1) listed a w := by
  intro fuel
  induction fuel with
  | zero =>
    intro listed a w _ hr hy hS H
    refine ⟨fun h => (by rw [h] at hr; cases hr), fun j hj => ?_⟩
    by_cases hji : j = i
    · subst hji; exact hy.wpOp hi ⟨fun hc => hS (clean_of_set hc), H⟩
    · have := ready_mono hj hji
      rw [H.1] at this
      cases this
  | succ fuel ih =>
    intro listed a w hfree hr hy hS H
    refine ⟨fun h => (by rw [h] at hr; cases hr), fun j hj => ?_⟩
    by_cases hji : j = i
    · subst hji; exact hy.wpOp hi ⟨fun hc => hS (clean_of_set hc), H⟩
    · have h1 := H.2 j (ready_mono hj hji)
      obtain ⟨hjun, oj, hoj, hall⟩ := mem_ready.1 hj
      have hiun := unlisted_of_ready hr
      have hnot : ∀ e ∈ oj.after, Region.binds .any e = true → e.on ≠ i := fun e he hb heq => by
        have h1 := hall e he hb
        rw [heq, hiun] at h1; cases h1
      have h2 := wpOp_put hoj (hfree j oj hoj hji hjun hnot) (fun cs b => hsel i oi cs b hi) (fun cs b => hsel j oj cs b hoj) hQ hy h1
      have hfree' : ∀ k ok, ops[k]? = some ok → k ≠ i → (listed.setIfInBounds j true).getD k true = false →
          (∀ e ∈ ok.after, Region.binds .any e = true → e.on ≠ i) → oi.apart ops ok = true := fun k ok hk hki hun hno => by
        refine hfree k ok hk hki ?_ hno
        by_cases hjk : j = k
        · subst hjk; exact hjun
        · rw [getD_set_ne true hjk] at hun; exact hun
      refine wpOp_mono (fun a' w' h3 => ?_) h2
      have hs' : clean late (listed.setIfInBounds j true) = true → S w' := fun hc =>
        h3.2.1 (by rw [Array.setIfInBounds_comm _ _ (Ne.symm hji)]; exact clean_set hc hil)
      refine ⟨hs', ih (listed.setIfInBounds j true) a' w' hfree' (ready_mono hr (Ne.symm hji)) h3.1 hs' ?_⟩
      rw [Array.setIfInBounds_comm _ _ hji]
      exact h3.2.2
end

/-! The walk by a listed order. A step is (number, kind): kind 0: yields in whatever world; 1: yields in every world of S; else: nothing else may come up. -/
def lexC (ops : Array Oper) (late : List Nat) : List (Nat × Nat) → Array Bool → Bool
  | [], listed => (Region.ready .any ops listed).isEmpty
  | (i, 0) :: r, listed => (Region.ready .any ops listed).contains i && Region.free .any ops listed i && !late.contains i && lexC ops late r (listed.setIfInBounds i true)
  | (i, 1) :: r, listed => (Region.ready .any ops listed).contains i && Region.free .any ops listed i && late.all (fun m => reach ops ops.size m i) && clean late listed && lexC ops late r (listed.setIfInBounds i true)
  | (i, _ + 2) :: r, listed => (Region.ready .any ops listed) == [i] && lexC ops late r (listed.setIfInBounds i true)

def lexWp (P : Program) (ops : Array Oper) (Q : Exit → Act → World → Prop) (S : World → Prop) (late : List Nat) : List (Nat × Nat) → Array Bool → Act → World → Prop
  | [], _, a, w => Q .normal a w
  | (i, 0) :: r, listed, a, w => ∃ o v, ops[i]? = some o ∧ Yields P ops o v a ∧ lexWp P ops Q S late r (listed.setIfInBounds i true) (a.put o.dst v) w
  | (i, 1) :: r, listed, a, w => ∃ o v, ops[i]? = some o ∧ YieldsIf P ops S o v a ∧ lexWp P ops Q S late r (listed.setIfInBounds i true) (a.put o.dst v) w
  | (i, _ + 2) :: r, listed, a, w => wpOp P ops Q i (fun a' w' => (clean late (listed.setIfInBounds i true) = true → S w') ∧ lexWp P ops Q S late r (listed.setIfInBounds i true) a' w') a w

theorem lex_sound {ops : Array Oper} {Q : Exit → Act → World → Prop} {S : World → Prop} {late : List Nat} (hs : Region.noSelect ops = true)
    (hQ : ∀ c a w, ¬ Q (.panic c) a w) : ∀ (l : List (Nat × Nat)) (listed : Array Bool) (a : Act) (w : World), lexC ops late l listed = true → Closed ops listed →
    (clean late listed = true → S w) → lexWp P ops Q S late l listed a w → wpAnyC P ops Q S late l.length listed a w
  | [], listed, a, w, hc, _, _, h => ⟨by simpa [lexC] using hc, h⟩
  | (i, 0) :: r, listed, a, w, hc, hcl, hS, h => by
    simp only [lexC, Bool.and_eq_true, Bool.not_eq_true'] at hc
    obtain ⟨⟨⟨hr, hf⟩, hl⟩, hc'⟩ := hc
    obtain ⟨o, v, ho, hy, h⟩ := h
    have hr' : i ∈ Region.ready .any ops listed := by simpa using hr
    exact wpAnyC_firstPure ho (Region.noSelect_spec hs) (fun c a w h => (hQ c _ w h).elim) hl r.length listed a w (Region.free_spec ho hf) hr' hy hS
      (lex_sound hs hQ r _ _ _ hc' (hcl.set hr') (fun hc => hS (clean_of_set hc)) h)
  | (i, 1) :: r, listed, a, w, hc, hcl, hS, h => by
    simp only [lexC, Bool.and_eq_true, List.all_eq_true] at hc
    obtain ⟨⟨⟨⟨hr, hf⟩, hl⟩, hcn⟩, hc'⟩ := hc
    obtain ⟨o, v, ho, hy, h⟩ := h
    have hr' : i ∈ Region.ready .any ops listed := by simpa using hr
    exact wpAnyC_first ho (Region.noSelect_spec hs) (fun c a w h => (hQ c _ w h).elim) hl r.length listed a w hcl (Region.free_spec ho hf) hr' hy (hS hcn) hcn
      (lex_sound hs hQ r _ _ _ hc' (hcl.set hr') (fun hc => hS (clean_of_set hc)) h)
  | (i, k + 2) :: r, listed, a, w, hc, hcl, hS, h => by
    simp only [lexC, Bool.and_eq_true, beq_iff_eq] at hc
    obtain ⟨hr, hc'⟩ := hc
    have hr' : i ∈ Region.ready .any ops listed := by rw [hr]; exact List.mem_singleton.2 rfl
    refine ⟨fun h0 => (by rw [h0] at hr; cases hr), fun j hj => ?_⟩
    rw [hr] at hj
    obtain rfl := List.mem_singleton.1 hj
    exact wpOp_mono (fun a' w' h' => ⟨h'.1, lex_sound hs hQ r _ _ _ hc' (hcl.set hr') h'.1 h'.2⟩) h

def lexAll (l : List Oper) (late : List Nat) (ord : List (Nat × Nat)) : Bool :=
  Region.noSelect l.toArray && Nat.beq ord.length l.length && lexC l.toArray late ord (Array.replicate l.length false)

/-- The symbolic walk by a listed order. -/
def LW (P : Program) (n : Nat) (l : List Oper) (S : World → Prop) (late : List Nat) (ord : List (Nat × Nat)) (listed : Array Bool) (F : Fr) (M : World → Prop) (Q : Po) : Prop :=
  ∀ a w, Fits n F a → M w → lexWp P l.toArray (real n Q) S late ord listed a w

theorem sw_region_lex {id : Nat} {l : List Oper} {F : Fr} {M : World → Prop} {Q : Po} (S : World → Prop) (late : List Nat) (ord : List (Nat × Nat)) (hm : P.follows .mixedOrders = true)
    (hl : lexAll l late ord = true) (hQ : ∀ c F w, ¬ Q (.panic c) F w) (hMS : ∀ w, M w → S w) (hMd : ∀ w, M w → M { w with drawn := w.drawn + 1 })
    (h : LW P n l S late ord (Array.replicate l.length false) F M Q) : SW P n (.region id l.toArray true) F M Q := by
  intro a w hf hw
  simp only [lexAll, Bool.and_eq_true] at hl
  obtain ⟨⟨hs, hlen⟩, hc⟩ := hl
  have hlen' := Nat.eq_of_beq_eq_true hlen
  refine wp_region_any hm (wpAny_of_C (S := S) (late := late) _ _ _ _ ?_)
  have := lex_sound (P := P) (Q := real n Q) (S := S) (late := late) hs (fun c a w ⟨F', _, hq⟩ => hQ c F' w hq) ord (Array.replicate l.length false) a { w with drawn := w.drawn + 1 } hc
    ⟨by simp, fun j oj _ hl' => by
      rcases Nat.lt_or_ge j l.length with h' | h'
      · simp [h'] at hl'
      · simp [h'] at hl'⟩ (fun _ => hMS _ (hMd w hw)) (h a _ hf (hMd w hw))
  rw [hlen'] at this
  simpa using this

section
variable {l : List Oper} {S : World → Prop} {late : List Nat} {listed : Array Bool} {F : Fr} {M : World → Prop} {Q : Po} {r : List (Nat × Nat)} {i : Nat}
  {op : Op} {ty : TypeId} {ps : String} {af : Array Edge}

theorem lw_nil (h : ∀ w, M w → Q .normal F w) : LW P n l S late [] listed F M Q := fun _ w hf hm => ⟨F, hf, h w hm⟩

theorem lw_pure {t : Nat} {v : Value} (ho : nth l i = some ⟨some t, op, ty, ps, af, none⟩) (hv : Val P n F (fun _ => True) op ty v) (ht : Nat.blt t n = true)
    (h : LW P n l S late r (listed.setIfInBounds i true) ((t, v) :: F) M Q) : LW P n l S late ((i, 0) :: r) listed F M Q :=
  fun a w hf hm => ⟨_, v, (nth_eq l i).symm.trans ho, .inl ⟨rfl, fun w => hv a w hf trivial _ _ _ _⟩, h _ w (hf.put ht v) hm⟩

theorem lw_held {t : Nat} {v : Value} (ho : nth l i = some ⟨some t, op, ty, ps, af, none⟩) (hv : Val P n F S op ty v) (ht : Nat.blt t n = true)
    (h : LW P n l S late r (listed.setIfInBounds i true) ((t, v) :: F) M Q) : LW P n l S late ((i, 1) :: r) listed F M Q :=
  fun a w hf hm => ⟨_, v, (nth_eq l i).symm.trans ho, .inl ⟨rfl, fun w hw => hv a w hf hw _ _ _ _⟩, h _ w (hf.put ht v) hm⟩

theorem wpOp_some {o : Oper} {ops : Array Oper} {Q : Exit → Act → World → Prop} {K : Act → World → Prop} {a : Act} {w : World} (ho : ops[i]? = some o) (hg : o.guard = none) (h : o.wp P a w K Q) :
    wpOp P ops Q i K a w := by
  unfold wpOp
  simp only [ho, Region.wanted, hg, if_true]
  exact .inl h

theorem lw_val {t : Nat} {v : Value} (ho : nth l i = some ⟨some t, op, ty, ps, af, none⟩) (hv : Val P n F M op ty v) (ht : Nat.blt t n = true) (hS : ∀ w, M w → S w)
    (h : LW P n l S late r (listed.setIfInBounds i true) ((t, v) :: F) M Q) : LW P n l S late ((i, 2) :: r) listed F M Q := by
  intro a w hf hm
  refine wpOp_some ((nth_eq l i).symm.trans ho) rfl ?_
  unfold Oper.wp
  rw [hv a w hf hm]
  exact ⟨fun _ => hS w hm, h _ w (hf.put ht v) hm⟩

theorem lw_act {t : Nat} {R : World → Value → World → Prop} (ho : nth l i = some ⟨some t, op, ty, ps, af, none⟩) (hv : Acts P n F M op ty R) (ht : Nat.blt t n = true)
    (hS : clean late (listed.setIfInBounds i true) = true → ∀ w v w', M w → R w v w' → S w')
    (h : ∀ w v, M w → LW P n l S late r (listed.setIfInBounds i true) ((t, v) :: F) (R w v) Q) : LW P n l S late ((i, 2) :: r) listed F M Q := by
  intro a w hf hm
  refine wpOp_some ((nth_eq l i).symm.trans ho) rfl ?_
  unfold Oper.wp
  obtain ⟨v, w', e, hr⟩ := hv a w hf hm (some t) ps af none
  rw [e]
  exact ⟨fun hc => hS hc w v w' hm hr, h w v hm _ w' (hf.put ht v) hr⟩

theorem lw_do {R : World → World → Prop} (ho : nth l i = some ⟨none, op, ty, ps, af, none⟩) (hv : Does P n F M op ty R)
    (hS : clean late (listed.setIfInBounds i true) = true → ∀ w w', M w → R w w' → S w')
    (h : ∀ w, M w → LW P n l S late r (listed.setIfInBounds i true) F (R w) Q) : LW P n l S late ((i, 2) :: r) listed F M Q := by
  intro a w hf hm
  refine wpOp_some ((nth_eq l i).symm.trans ho) rfl ?_
  unfold Oper.wp
  obtain ⟨w', e, hr⟩ := hv a w hf hm none ps af none
  rw [e]
  exact ⟨fun hc => hS hc w w' hm hr, h w hm _ w' hf hr⟩

theorem lw_call {t : Nat} {f : FuncId} {args : Array Value} (R : World → Value → World → Prop) (ho : nth l i = some ⟨some t, op, ty, ps, af, none⟩) (hv : CallsTo P n F M op ty f args) (ht : Nat.blt t n = true)
    (hc : ∀ w, M w → Calls P f args w fun e w' => ∃ v, e = .returned v ∧ R w v w')
    (hS : clean late (listed.setIfInBounds i true) = true → ∀ w v w', M w → R w v w' → S w')
    (h : ∀ w v, M w → LW P n l S late r (listed.setIfInBounds i true) ((t, v) :: F) (R w v) Q) : LW P n l S late ((i, 2) :: r) listed F M Q := by
  intro a w hf hm
  refine wpOp_some ((nth_eq l i).symm.trans ho) rfl ?_
  unfold Oper.wp
  rw [hv a w hf hm]
  refine (hc w hm).mono ?_
  rintro e w' ⟨v, rfl, hr⟩
  exact ⟨fun hc => hS hc w v w' hm hr, h w v hm _ w' (hf.put ht v) hr⟩
end
end
end Go.Sx
