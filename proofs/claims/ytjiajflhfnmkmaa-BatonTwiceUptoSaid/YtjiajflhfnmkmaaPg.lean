/- A PLAY OF THE BATON: what the row rests on. -/
import Derived.Test.YtjiajflhfnmkmaaPf
import Derived.Laws.MakeOwn
import Derived.Laws.Append
set_option linter.unusedVariables false
set_option linter.unusedSimpArgs false
set_option linter.unusedSectionVars false
section
namespace Go.Sx
variable [Gnd]
open Go.Conc
section
variable {P : Program} [C : Co P] {n : Nat}
def nth : List Oper → Nat → Option Oper
  | [], _ => none
  | o :: _, 0 => some o
  | _ :: r, k + 1 => nth r k
omit C in
theorem nth_eq : ∀ (l : List Oper) (i : Nat), nth l i = l.toArray[i]?
  | [], i => by simp [nth]
  | o :: r, 0 => by simp [nth]
  | o :: r, k + 1 => by have := nth_eq r k; simp [nth] at this ⊢; exact this
/-- m waits, by some chain, for i. -/
def reach (ops : Array Oper) : Nat → Nat → Nat → Bool
  | 0, _, _ => false
  | f + 1, m, i => ((ops[m]?).map fun o => o.after.any fun e => Region.binds .any e && (e.on == i || reach ops f e.on i)).getD false
structure Closed (ops : Array Oper) (listed : Array Bool) : Prop where
  size : listed.size = ops.size
  back : ∀ j oj, ops[j]? = some oj → listed.getD j false = true → ∀ e ∈ oj.after, Region.binds .any e = true → listed.getD e.on false = true
omit C in
theorem Closed.reach {ops : Array Oper} {listed : Array Bool} (hc : Closed ops listed) : ∀ (f m i : Nat), Sx.reach ops f m i = true → listed.getD m false = true → listed.getD i false = true
  | 0, _, _, h, _ => by simp [Sx.reach] at h
  | f + 1, m, i, h, hm => by
    unfold Sx.reach at h
    cases ho : ops[m]? with
    | none => simp [ho] at h
    | some o =>
      simp only [ho, Option.map_some, Option.getD_some] at h
      obtain ⟨e, he, hb⟩ := Array.any_eq_true'.1 h
      simp only [Bool.and_eq_true, Bool.or_eq_true, beq_iff_eq] at hb
      have h1 := hc.back m o ho hm e he hb.1
      rcases hb.2 with rfl | h2
      · exact h1
      · exact hc.reach f e.on i h2 h1
omit C in
theorem Closed.set {ops : Array Oper} {listed : Array Bool} (hc : Closed ops listed) {i : Nat} (hi : i ∈ Region.ready .any ops listed) : Closed ops (listed.setIfInBounds i true) := by
  obtain ⟨_, oi, hoi, hall⟩ := mem_ready.1 hi
  refine ⟨by simp [hc.size], fun j oj hj hl e he hb => ?_⟩
  by_cases hij : i = j
  · subst hij
    obtain rfl : oj = oi := Option.some.inj (hj.symm.trans hoi)
    exact getD_set_true (hall e he hb)
  · rw [getD_set_ne false hij] at hl
    exact getD_set_true (hc.back j oj hj hl e he hb)
/-- None of the late ones has come up. -/
def clean (late : List Nat) (listed : Array Bool) : Bool := late.all fun m => !listed.getD m false
omit C in
theorem clean_of_set {late : List Nat} {listed : Array Bool} {i : Nat} (h : clean late (listed.setIfInBounds i true) = true) : clean late listed = true := by
  simp only [clean, List.all_eq_true, Bool.not_eq_true'] at *
  intro m hm
  have h1 := h m hm
  cases h2 : listed.getD m false with
  | false => rfl
  | true => rw [getD_set_true h2] at h1; cases h1
omit C in
theorem clean_set {late : List Nat} {listed : Array Bool} {i : Nat} (h : clean late listed = true) (hi : late.contains i = false) : clean late (listed.setIfInBounds i true) = true := by
  simp only [clean, List.all_eq_true, Bool.not_eq_true'] at *
  intro m hm
  have hne : i ≠ m := fun e => by subst e; simp at hi; exact hi hm
  rw [getD_set_ne false hne]
  exact h m hm
/-- It stands whatever the others do. -/
def ClsK (K : Act → World → Prop) : Prop := ∀ a w w₁, K a w → Rly w w₁ → K a w₁
def ClsQ (Q : Exit → Act → World → Prop) : Prop := ∀ e a w w₁, Q e a w → Rly w w₁ → Q e a w₁
theorem clsQ_real (n : Nat) (Q : Po) : ClsQ (real n Q) := fun _ _ _ _ ⟨F, hf, hl⟩ hr => ⟨F, hf, hl.rely hr⟩
section
variable {ops : Array Oper} {Q : Exit → Act → World → Prop} {S : World → Prop} {late : List Nat}
theorem wpOpX_cls {i : Nat} {K : Act → World → Prop} (hK : ClsK K) : ClsK (wpOpX P ops Q i K) := fun a w w₁ h hr => by
  unfold wpOpX at *
  cases ho : ops[i]? with
  | none => rw [ho] at h; exact hK _ _ _ h hr
  | some o =>
    rw [ho] at h
    simp only at h ⊢
    split
    · rename_i hw; rw [if_pos hw] at h; exact fun w₂ h₂ => h w₂ (hr.trans h₂)
    · rename_i hw; rw [if_neg hw] at h; exact hK _ _ _ h hr
/-- In state a, in every sealed world that meets S, the operation leaves v in its slot and does nothing else. -/
def YieldsS (P : Program) (ops : Array Oper) (S : World → Prop) (o : Oper) (v : Value) (a : Act) : Prop :=
  (Region.wanted o (yielded ops a.tmps) = true ∧ (execOp a.eval o).Pl P ∧ ∀ w, S w → (execOp a.eval o).run P w = .ok (.value v) w) ∨
  (Region.wanted o (yielded ops a.tmps) = false ∧ v = undef)
theorem YieldsS.wpOpX {i : Nat} {o : Oper} {v : Value} {a : Act} [hS : Stb S] (hi : ops[i]? = some o) (hy : YieldsS P ops S o v a) {K : Act → World → Prop} {w : World} (hs : S (pz w)) (hK : ClsK K) (h : K (a.put o.dst v) w) : wpOpX P ops Q i K a w := by
  unfold Sx.wpOpX
  simp only [hi]
  rcases hy with ⟨hw, hp, hv⟩ | ⟨hw, rfl⟩
  · rw [if_pos hw]
    intro w₁ h₁
    obtain ⟨es, h2, h3⟩ := pl_ok_same hp (hv (pz w₁) (hS.stb hs h₁.pz))
    rw [h2]
    exact ⟨DD.good h3, hK _ _ _ h h₁⟩
  · rw [hw]; exact h
omit C in
theorem YieldsS.of_same {o : Oper} {v : Value} {a a' : Act} (hy : YieldsS P ops S o v a) (he : execOp a'.eval o = execOp a.eval o)
    (hw : Region.wanted o (yielded ops a'.tmps) = Region.wanted o (yielded ops a.tmps)) : YieldsS P ops S o v a' := by
  unfold YieldsS at *
  rw [he, hw]
  exact hy
/-- An operation that stands apart from another: whether that one's value is in its slot already makes no difference. -/
theorem wpOpX_put {j : Nat} {oi oj : Oper} {v : Value} (hj : ops[j]? = some oj) (hap : oi.apart ops oj = true)
    (hsi : ∀ cs b, oi.op ≠ .select cs b) (hsj : ∀ cs b, oj.op ≠ .select cs b)
    (hQ : ∀ c a w, Q (.panic c) (a.put oi.dst v) w → Q (.panic c) a w) {K : Act → World → Prop} {a : Act} {w : World}
    (hy : YieldsS P ops S oi v a) (h : wpOpX P ops Q j K (a.put oi.dst v) w) :
    wpOpX P ops Q j (fun a' w' => YieldsS P ops S oi v a' ∧ K (a'.put oi.dst v) w') a w := by
  obtain ⟨h1, h2, h3⟩ := Oper.apart_spec hap
  have keep : ∀ u, YieldsS P ops S oi v (a.put oj.dst u) := fun u =>
    hy.of_same (execOp_put oi hsi a oj.dst u h3) (wanted_put oi a oj.dst u h3)
  have keepD : ∀ d u, YieldsS P ops S oi v ({ a with defers := d :: a.defers }.put oj.dst u) := fun d u => by
    have e : ({ a with defers := d :: a.defers }.put oj.dst u).eval = (a.put oj.dst u).eval := by cases oj.dst <;> rfl
    have e2 : ({ a with defers := d :: a.defers }.put oj.dst u).tmps = (a.put oj.dst u).tmps := by cases oj.dst <;> rfl
    exact (keep u).of_same (by rw [e]) (by rw [e2])
  unfold Sx.wpOpX at *
  simp only [hj] at *
  rw [wanted_put oj a oi.dst v h1] at h
  split
  · rename_i hw
    rw [if_pos hw] at h
    intro w₁ h₁
    have hu := h w₁ h₁
    rw [execOp_put oj hsj a oi.dst v h1] at hu
    generalize (execOp a.eval oj).runT P w₁ #[] = r at hu
    obtain ⟨r, es⟩ := r
    cases r with
    | ok n w' =>
      cases n <;> simp only [UponX] at hu ⊢ <;> try exact hu.elim
      · exact ⟨hu.1, keep _, by rw [← Act.put_comm a v _ h2]; exact hu.2⟩
      · exact ⟨hu.1, keep _, by rw [← Act.put_comm a v _ h2]; exact hu.2⟩
      · refine ⟨hu.1, hu.2.mono fun e w'' he => ?_⟩
        cases e with
        | returned u => exact ⟨keep _, by rw [← Act.put_comm a v _ h2]; exact he⟩
        | panicked c => exact hQ _ _ _ he
        | outgrown => exact he
      · refine ⟨hu.1, keepD _ _, ?_⟩
        have := hu.2
        rw [Act.put_defers, Act.put_comm _ v _ h2] at this
        exact this
    | halt x w' =>
      cases x <;> simp only [UponX] at hu ⊢ <;> try exact hu.elim
      exact ⟨hu.1, hQ _ _ _ hu.2⟩
  · rename_i hw
    rw [if_neg hw] at h
    exact ⟨keep _, by rw [← Act.put_comm a v _ h2]; exact h⟩
/-- Whatever order is picked. -/
def wpAnyX (P : Program) [Co P] (ops : Array Oper) (Q : Exit → Act → World → Prop) : Nat → Array Bool → Act → World → Prop
  | 0, listed, a, w => Region.ready .any ops listed = [] ∧ Q .normal a w
  | fuel + 1, listed, a, w =>
    (Region.ready .any ops listed = [] → Q .normal a w) ∧
    ∀ i ∈ Region.ready .any ops listed, wpOpX P ops Q i (wpAnyX P ops Q fuel (listed.setIfInBounds i true)) a w
theorem anyX_sound : ∀ (fuel t : Nat) (listed : Array Bool) (a : Act) (w : World), wpAnyX P ops Q fuel listed a w →
    wpOpsX P ops Q (Region.linearise.go .any ops fuel t listed []) a w := by
  intro fuel
  induction fuel with
  | zero => intro t listed a w h; simpa [Region.linearise.go, wpOpsX] using h.2
  | succ fuel ih =>
    intro t listed a w h
    obtain ⟨h₀, h₁⟩ := h
    simp only [Region.linearise.go]
    change wpOpsX P ops Q (match (Region.ready .any ops listed)[t % (Region.ready .any ops listed).length]? with
      | some i => Region.linearise.go .any ops fuel (t / (Region.ready .any ops listed).length) (listed.setIfInBounds i true) [i]
      | none => [].reverse) a w
    cases hi : (Region.ready .any ops listed)[t % (Region.ready .any ops listed).length]? with
    | none =>
      have hnil : Region.ready .any ops listed = [] := by
        cases hr : Region.ready .any ops listed with
        | nil => rfl
        | cons x xs =>
          rw [hr] at hi
          have hlt : t % (x :: xs).length < (x :: xs).length := Nat.mod_lt _ (by simp)
          rw [List.getElem?_eq_none_iff] at hi
          omega
      simpa [wpOpsX] using h₀ hnil
    | some i =>
      simp only []
      rw [linearise_go_acc, List.reverse_singleton, List.singleton_append]
      exact wpOpX_mono (fun a w => ih _ _ a w) (h₁ i (List.mem_of_getElem? hi))
omit C in
theorem stepG_draw {main : Bool} {id : Nat} {b : Frame} {a : Act} {k : List Item} {cs : List Frame} {w : World} (hm : P.follows .mixedOrders = true) :
    ∃ t w', stepG P main (G (b.at a (.code (.region id ops true) :: k)) cs) w = .go (G (b.at a (.inRegion ops (Region.linearise.go .any ops ops.size t (Array.replicate ops.size false) []) :: k)) cs) w' #[] ∧ (w' = w ∨ w' = { w with drawn := w.drawn + 1 }) := by
  by_cases hq : (Question.order b.fn id).forced = true
  · simp [Question.forced] at hq
  · have e : (choose (.order b.fn id)).run P w = .ok ((Question.order b.fn id).cut (w.tape w.drawn (.order b.fn id))) { w with drawn := w.drawn + 1 } := by
      show (if (Question.order b.fn id).forced then _ else _) = _
      rw [if_neg hq]; rfl
    refine ⟨(Question.order b.fn id).cut (w.tape w.drawn (.order b.fn id)), { w with drawn := w.drawn + 1 }, ?_, .inr rfl⟩
    simp only [G, stepG, stepG.exec, Frame.at, Bool.not_true, Bool.false_eq_true, if_false, e, Region.schedule, hm, Bool.true_or, if_true]
    rfl
theorem wpX_region_any {id : Nat} {a : Act} {w : World} (hm : P.follows .mixedOrders = true) (hQ : ClsQ Q)
    (h : ∀ w₁, Rly w w₁ → wpAnyX P ops Q ops.size (Array.replicate ops.size false) a w₁) : (Code.region id ops true).wpX P Q a w := fun b k cs hb hq =>
  C.step rfl fun w₁ h₁ => by
    obtain ⟨t, w', e, hw⟩ := stepG_draw (P := P) (main := C.main) (id := id) (ops := ops) (b := b) (a := a) (k := k) (cs := cs) (w := w₁) hm
    refine ⟨_, _, _, e, ?_, ?_⟩
    · rcases hw with rfl | rfl
      · exact C.good (Gud.refl _)
      · exact C.good (Gud.at _ _)
    · refine opsX_sound hb hq _ _ _ (anyX_sound _ _ _ _ _ (h w' ?_))
      rcases hw with rfl | rfl
      · exact h₁
      · exact h₁.trans (Rly.at _ _)
end
/-- Whatever order is picked; S holds behind each operation as long as none of the late ones has come up. -/
def wpAnyCX (P : Program) [Co P] (ops : Array Oper) (Q : Exit → Act → World → Prop) (S : World → Prop) (late : List Nat) : Nat → Array Bool → Act → World → Prop
  | 0, listed, a, w => Region.ready .any ops listed = [] ∧ Q .normal a w
  | fuel + 1, listed, a, w =>
    (Region.ready .any ops listed = [] → Q .normal a w) ∧
    ∀ i ∈ Region.ready .any ops listed, wpOpX P ops Q i (fun a' w' => (clean late (listed.setIfInBounds i true) = true → S (pz w')) ∧ wpAnyCX P ops Q S late fuel (listed.setIfInBounds i true) a' w') a w
section
variable {ops : Array Oper} {Q : Exit → Act → World → Prop} {S : World → Prop} {late : List Nat}
theorem wpAnyX_of_C : ∀ (fuel : Nat) (listed : Array Bool) (a : Act) (w : World), wpAnyCX P ops Q S late fuel listed a w → wpAnyX P ops Q fuel listed a w
  | 0, _, _, _, h => h
  | fuel + 1, _, _, _, h => ⟨h.1, fun i hi => wpOpX_mono (fun a' w' h' => wpAnyX_of_C fuel _ a' w' h'.2) (h.2 i hi)⟩
theorem clsC (hQc : ClsQ Q) (hS' : Stb S) : ∀ (fuel : Nat) (listed : Array Bool), ClsK (wpAnyCX P ops Q S late fuel listed)
  | 0, _ => fun a w w₁ h hr => ⟨h.1, hQc _ _ _ _ h.2 hr⟩
  | fuel + 1, listed => fun a w w₁ h hr => ⟨fun he => hQc _ _ _ _ (h.1 he) hr, fun i hi => wpOpX_cls (fun a w w₁ hx hr => ⟨fun hc => hS'.stb (hx.1 hc) hr.pz, clsC hQc hS' fuel _ a w w₁ hx.2 hr⟩) _ _ _ (h.2 i hi) hr⟩
theorem clsAny (hQc : ClsQ Q) (hS' : Stb S) (p : Prop) (fuel : Nat) (listed : Array Bool) : ClsK (fun a' w' => (p → S (pz w')) ∧ wpAnyCX P ops Q S late fuel listed a' w') :=
  fun a w w₁ hx hr => ⟨fun hc => hS'.stb (hx.1 hc) hr.pz, clsC hQc hS' fuel _ a w w₁ hx.2 hr⟩
instance : Stb (fun _ : World => True) := ⟨fun _ _ => trivial⟩
omit C in
theorem unlisted_of_ready {i : Nat} {listed : Array Bool} (hr : i ∈ Region.ready .any ops listed) : listed.getD i false = false := by
  have h0 := (mem_ready.1 hr).1
  rcases Nat.lt_or_ge i listed.size with h' | h'
  · simp [h'] at h0 ⊢; exact h0
  · simp [Array.getElem?_eq_none h']
/-- An operation that may come up now may be taken first: it yields its value in every world of S. -/
theorem wpAnyCX_first {i : Nat} {oi : Oper} {v : Value} (hi : ops[i]? = some oi) (hsel : ∀ (j : Nat) (o : Oper) cs b, ops[j]? = some o → o.op ≠ .select cs b)
    (hQ : ∀ c a w, Q (.panic c) (a.put oi.dst v) w → Q (.panic c) a w) (hQc : ClsQ Q) (hS' : Stb S) (hr0 : ∀ m ∈ late, reach ops ops.size m i = true) :
    ∀ (fuel : Nat) (listed : Array Bool) (a : Act) (w : World), Closed ops listed →
      (∀ j oj, ops[j]? = some oj → j ≠ i → listed.getD j true = false → (∀ e ∈ oj.after, Region.binds .any e = true → e.on ≠ i) → oi.apart ops oj = true) →
      i ∈ Region.ready .any ops listed → YieldsS P ops S oi v a → S (pz w) → clean late listed = true →
      wpAnyCX P ops Q S late fuel (listed.setIfInBounds i true) (a.put oi.dst v) w → wpAnyCX P ops Q S late (fuel + 1) listed a w := by
  intro fuel
  induction fuel with
  | zero =>
    intro listed a w hcl _ hr hy hS _ H
    refine ⟨fun h => (by rw [h] at hr; cases hr), fun j hj => ?_⟩
    by_cases hji : j = i
    · subst hji; exact hy.wpOpX hi hS (clsAny hQc hS' _ _ _) ⟨fun _ => hS, H⟩
    · have := ready_mono hj hji
      rw [H.1] at this
      cases this
  | succ fuel ih =>
    intro listed a w hcl hfree hr hy hS hclean H
    refine ⟨fun h => (by rw [h] at hr; cases hr), fun j hj => ?_⟩
    by_cases hji : j = i
    · subst hji; exact hy.wpOpX hi hS (clsAny hQc hS' _ _ _) ⟨fun _ => hS, H⟩
    · have h1 := H.2 j (ready_mono hj hji)
      obtain ⟨hjun, oj, hoj, hall⟩ := mem_ready.1 hj
      have hiun := unlisted_of_ready hr
      have hnot : ∀ e ∈ oj.after, Region.binds .any e = true → e.on ≠ i := fun e he hb heq => by
        have h1 := hall e he hb
        rw [heq, hiun] at h1; cases h1
      have hjl : late.contains j = false := by
        cases hc : late.contains j with
        | false => rfl
        | true =>
          have hj2 : (listed.setIfInBounds j true).getD j false = true := by
            have hlt : j < listed.size := by
              rw [hcl.size]; exact (Array.getElem?_eq_some_iff.1 hoj).1
            simp [hlt]
          have h3 := (hcl.set hj).reach _ j i (hr0 j (by simpa using hc)) hj2
          rw [getD_set_ne false hji, hiun] at h3
          cases h3
      have h2 := wpOpX_put hoj (hfree j oj hoj hji hjun hnot) (fun cs b => hsel i oi cs b hi) (fun cs b => hsel j oj cs b hoj) hQ hy h1
      have hfree' : ∀ k ok, ops[k]? = some ok → k ≠ i → (listed.setIfInBounds j true).getD k true = false →
          (∀ e ∈ ok.after, Region.binds .any e = true → e.on ≠ i) → oi.apart ops ok = true := fun k ok hk hki hun hno => by
        refine hfree k ok hk hki ?_ hno
        by_cases hjk : j = k
        · subst hjk; exact hjun
        · rw [getD_set_ne true hjk] at hun; exact hun
      have hil : late.contains i = false := by
        cases hc : late.contains i with
        | false => rfl
        | true =>
          have hi2 : (listed.setIfInBounds i true).getD i false = true := by
            have hlt : i < listed.size := by
              rw [hcl.size]; exact (Array.getElem?_eq_some_iff.1 hi).1
            simp [hlt]
          have h3 := hr0 i (by simpa using hc)
          -- i would wait for itself
          have h4 := hcl.reach ops.size i i h3
          exfalso
          obtain ⟨_, oi', hoi', hall'⟩ := mem_ready.1 hr
          have : ops.size ≠ 0 := by
            have := (Array.getElem?_eq_some_iff.1 hi).1; omega
          obtain ⟨f, hf⟩ : ∃ f, ops.size = f + 1 := ⟨ops.size - 1, by omega⟩
          rw [hf] at h3
          unfold reach at h3
          simp only [hoi', Option.map_some, Option.getD_some] at h3
          obtain ⟨e, he, hb⟩ := Array.any_eq_true'.1 h3
          simp only [Bool.and_eq_true, Bool.or_eq_true, beq_iff_eq] at hb
          have h5 := hall' e he hb.1
          rcases hb.2 with h6 | h6
          · rw [h6, hiun] at h5; cases h5
          · rw [hcl.reach f e.on i h6 h5] at hiun; cases hiun
      have hcj : clean late (listed.setIfInBounds j true) = true := clean_set hclean hjl
      have hcji : clean late ((listed.setIfInBounds i true).setIfInBounds j true) = true := clean_set (clean_set hclean hil) hjl
      refine wpOpX_mono (fun a' w' h3 => ⟨fun _ => h3.2.1 hcji, ih (listed.setIfInBounds j true) a' w' (hcl.set hj) hfree' (ready_mono hr (Ne.symm hji)) h3.1 (h3.2.1 hcji) hcj ?_⟩) h2
      rw [Array.setIfInBounds_comm _ _ hji]
      exact h3.2.2
/-- The same of an operation that yields its value in whatever world. -/
theorem wpAnyCX_firstPure {i : Nat} {oi : Oper} {v : Value} (hi : ops[i]? = some oi) (hsel : ∀ (j : Nat) (o : Oper) cs b, ops[j]? = some o → o.op ≠ .select cs b)
    (hQ : ∀ c a w, Q (.panic c) (a.put oi.dst v) w → Q (.panic c) a w) (hQc : ClsQ Q) (hS' : Stb S) (hil : late.contains i = false) :
    ∀ (fuel : Nat) (listed : Array Bool) (a : Act) (w : World),
      (∀ j oj, ops[j]? = some oj → j ≠ i → listed.getD j true = false → (∀ e ∈ oj.after, Region.binds .any e = true → e.on ≠ i) → oi.apart ops oj = true) →
      i ∈ Region.ready .any ops listed → YieldsS P ops (fun _ => True) oi v a → (clean late listed = true → S (pz w)) →
      wpAnyCX P ops Q S late fuel (listed.setIfInBounds i true) (a.put oi.dst v) w → wpAnyCX P ops Q S late (fuel + 1) listed a w := by
  intro fuel
  induction fuel with
  | zero =>
    intro listed a w _ hr hy hS H
    refine ⟨fun h => (by rw [h] at hr; cases hr), fun j hj => ?_⟩
    by_cases hji : j = i
    · subst hji; exact hy.wpOpX (S := fun _ => True) hi trivial (clsAny hQc hS' _ _ _) ⟨fun hc => hS (clean_of_set hc), H⟩
    · have := ready_mono hj hji
      rw [H.1] at this
      cases this
  | succ fuel ih =>
    intro listed a w hfree hr hy hS H
    refine ⟨fun h => (by rw [h] at hr; cases hr), fun j hj => ?_⟩
    by_cases hji : j = i
    · subst hji; exact hy.wpOpX (S := fun _ => True) hi trivial (clsAny hQc hS' _ _ _) ⟨fun hc => hS (clean_of_set hc), H⟩
    · have h1 := H.2 j (ready_mono hj hji)
      obtain ⟨hjun, oj, hoj, hall⟩ := mem_ready.1 hj
      have hiun := unlisted_of_ready hr
      have hnot : ∀ e ∈ oj.after, Region.binds .any e = true → e.on ≠ i := fun e he hb heq => by
        have h1 := hall e he hb
        rw [heq, hiun] at h1; cases h1
      have h2 := wpOpX_put hoj (hfree j oj hoj hji hjun hnot) (fun cs b => hsel i oi cs b hi) (fun cs b => hsel j oj cs b hoj) hQ hy h1
      have hfree' : ∀ k ok, ops[k]? = some ok → k ≠ i → (listed.setIfInBounds j true).getD k true = false →
          (∀ e ∈ ok.after, Region.binds .any e = true → e.on ≠ i) → oi.apart ops ok = true := fun k ok hk hki hun hno => by
        refine hfree k ok hk hki ?_ hno
        by_cases hjk : j = k
        · subst hjk; exact hjun
        · rw [getD_set_ne true hjk] at hun; exact hun
      refine wpOpX_mono (fun a' w' h3 => ?_) h2
      have hs' : clean late (listed.setIfInBounds j true) = true → S (pz w') := fun hc =>
        h3.2.1 (by rw [Array.setIfInBounds_comm _ _ (Ne.symm hji)]; exact clean_set hc hil)
      refine ⟨hs', ih (listed.setIfInBounds j true) a' w' hfree' (ready_mono hr (Ne.symm hji)) h3.1 hs' ?_⟩
      rw [Array.setIfInBounds_comm _ _ hji]
      exact h3.2.2
end
def lexC (ops : Array Oper) (late : List Nat) : List (Nat × Nat) → Array Bool → Bool
  | [], listed => (Region.ready .any ops listed).isEmpty
  | (i, 0) :: r, listed => (Region.ready .any ops listed).contains i && Region.free .any ops listed i && !late.contains i && lexC ops late r (listed.setIfInBounds i true)
  | (i, 1) :: r, listed => (Region.ready .any ops listed).contains i && Region.free .any ops listed i && late.all (fun m => reach ops ops.size m i) && clean late listed && lexC ops late r (listed.setIfInBounds i true)
  | (i, _ + 2) :: r, listed => (Region.ready .any ops listed) == [i] && lexC ops late r (listed.setIfInBounds i true)
def lexWp (P : Program) [Co P] (ops : Array Oper) (Q : Exit → Act → World → Prop) (S : World → Prop) (late : List Nat) : List (Nat × Nat) → Array Bool → Act → World → Prop
  | [], _, a, w => Q .normal a w
  | (i, 0) :: r, listed, a, w => ∃ o v, ops[i]? = some o ∧ YieldsS P ops (fun _ => True) o v a ∧ lexWp P ops Q S late r (listed.setIfInBounds i true) (a.put o.dst v) w
  | (i, 1) :: r, listed, a, w => ∃ o v, ops[i]? = some o ∧ YieldsS P ops S o v a ∧ lexWp P ops Q S late r (listed.setIfInBounds i true) (a.put o.dst v) w
  | (i, _ + 2) :: r, listed, a, w => wpOpX P ops Q i (fun a' w' => (clean late (listed.setIfInBounds i true) = true → S (pz w')) ∧ lexWp P ops Q S late r (listed.setIfInBounds i true) a' w') a w
theorem lex_sound {ops : Array Oper} {Q : Exit → Act → World → Prop} {S : World → Prop} {late : List Nat} (hQc : ClsQ Q) (hS' : Stb S) (hs : Region.noSelect ops = true)
    (hQ : ∀ c a w, ¬ Q (.panic c) a w) : ∀ (l : List (Nat × Nat)) (listed : Array Bool) (a : Act) (w : World), lexC ops late l listed = true → Closed ops listed →
    (clean late listed = true → S (pz w)) → lexWp P ops Q S late l listed a w → wpAnyCX P ops Q S late l.length listed a w
  | [], listed, a, w, hc, _, _, h => ⟨by simpa [lexC] using hc, h⟩
  | (i, 0) :: r, listed, a, w, hc, hcl, hS, h => by
    simp only [lexC, Bool.and_eq_true, Bool.not_eq_true'] at hc
    obtain ⟨⟨⟨hr, hf⟩, hl⟩, hc'⟩ := hc
    obtain ⟨o, v, ho, hy, h⟩ := h
    have hr' : i ∈ Region.ready .any ops listed := by simpa using hr
    exact wpAnyCX_firstPure ho (Region.noSelect_spec hs) (fun c a w h => (hQ c _ w h).elim) hQc hS' hl r.length listed a w (Region.free_spec ho hf) hr' hy hS
      (lex_sound hQc hS' hs hQ r _ _ _ hc' (hcl.set hr') (fun hc => hS (clean_of_set hc)) h)
  | (i, 1) :: r, listed, a, w, hc, hcl, hS, h => by
    simp only [lexC, Bool.and_eq_true, List.all_eq_true] at hc
    obtain ⟨⟨⟨⟨hr, hf⟩, hl⟩, hcn⟩, hc'⟩ := hc
    obtain ⟨o, v, ho, hy, h⟩ := h
    have hr' : i ∈ Region.ready .any ops listed := by simpa using hr
    exact wpAnyCX_first ho (Region.noSelect_spec hs) (fun c a w h => (hQ c _ w h).elim) hQc hS' hl r.length listed a w hcl (Region.free_spec ho hf) hr' hy (hS hcn) hcn
      (lex_sound hQc hS' hs hQ r _ _ _ hc' (hcl.set hr') (fun hc => hS (clean_of_set hc)) h)
  | (i, k + 2) :: r, listed, a, w, hc, hcl, hS, h => by
    simp only [lexC, Bool.and_eq_true, beq_iff_eq] at hc
    obtain ⟨hr, hc'⟩ := hc
    have hr' : i ∈ Region.ready .any ops listed := by rw [hr]; exact List.mem_singleton.2 rfl
    refine ⟨fun h0 => (by rw [h0] at hr; cases hr), fun j hj => ?_⟩
    rw [hr] at hj
    obtain rfl := List.mem_singleton.1 hj
    exact wpOpX_mono (fun a' w' h' => ⟨h'.1, lex_sound hQc hS' hs hQ r _ _ _ hc' (hcl.set hr') h'.1 h'.2⟩) h
def lexAll (l : List Oper) (late : List Nat) (ord : List (Nat × Nat)) : Bool :=
  Region.noSelect l.toArray && Nat.beq ord.length l.length && lexC l.toArray late ord (Array.replicate l.length false)
/-- The symbolic walk by a listed order. -/
def LW (P : Program) [Co P] (n : Nat) (l : List Oper) (S : World → Prop) (late : List Nat) (ord : List (Nat × Nat)) (listed : Array Bool) (F : Fr) (M : World → Prop) (Q : Po) : Prop :=
  ∀ a w, Fits n F a → Lf M w → lexWp P l.toArray (real n Q) S late ord listed a w
theorem sw_region_lex {id : Nat} {l : List Oper} {F : Fr} {M : World → Prop} {Q : Po} [hM' : Stb M] (S : World → Prop) (late : List Nat) (ord : List (Nat × Nat)) (hm : P.follows .mixedOrders = true)
    (hl : lexAll l late ord = true) (hQ : ∀ c F w, ¬ Q (.panic c) F w) (hMS : ∀ w, M w → S w) (hMd : ∀ w, M w → M { w with drawn := w.drawn + 1 })
    (h : LW P n l S late ord (Array.replicate l.length false) F M Q) (hS' : Stb S := by infer_instance) : SW P n (.region id l.toArray true) F M Q := by
  intro a w hf hw
  simp only [lexAll, Bool.and_eq_true] at hl
  obtain ⟨⟨hs, hlen⟩, hc⟩ := hl
  have hlen' := Nat.eq_of_beq_eq_true hlen
  refine wpX_region_any hm (clsQ_real n Q) fun w₁ h₁ => wpAnyX_of_C (S := S) (late := late) _ _ _ _ ?_
  have := lex_sound (P := P) (Q := real n Q) (S := S) (late := late) (clsQ_real n Q) hS' hs (fun c a w ⟨F', _, v, hq, _⟩ => hQ c F' v hq) ord (Array.replicate l.length false) a w₁ hc
    ⟨by simp, fun j oj _ hl' => by
      rcases Nat.lt_or_ge j l.length with h' | h'
      · simp [h'] at hl'
      · simp [h'] at hl'⟩ (fun _ => hMS _ (hw.rely h₁).here) (h a _ hf (hw.rely h₁))
  rw [hlen'] at this
  simpa using this
section
variable {l : List Oper} {S : World → Prop} {late : List Nat} {listed : Array Bool} {F : Fr} {M : World → Prop} {Q : Po} {r : List (Nat × Nat)} {i : Nat}
  {op : Op} {ty : TypeId} {ps : String} {af : Array Edge}
theorem lw_nil (h : ∀ w, M w → Q .normal F w) : LW P n l S late [] listed F M Q := fun _ w hf hm => ⟨F, hf, hm.mono h⟩
theorem lw_pure {t : Nat} {v : Value} (ho : nth l i = some ⟨some t, op, ty, ps, af, none⟩) (hv : Val P n F (fun _ => True) op ty v) (ht : Nat.blt t n = true)
    (h : LW P n l S late r (listed.setIfInBounds i true) ((t, v) :: F) M Q) (hT : Tame P n F op ty := by infer_instance) : LW P n l S late ((i, 0) :: r) listed F M Q :=
  fun a w hf hm => ⟨_, v, (nth_eq l i).symm.trans ho, .inl ⟨rfl, hT.tame a hf _ _ _ _, fun w _ => hv a w hf trivial _ _ _ _⟩, h _ w (hf.put ht v) hm⟩
theorem lw_held {t : Nat} {v : Value} (ho : nth l i = some ⟨some t, op, ty, ps, af, none⟩) (hv : Val P n F S op ty v) (ht : Nat.blt t n = true)
    (h : LW P n l S late r (listed.setIfInBounds i true) ((t, v) :: F) M Q) (hT : Tame P n F op ty := by infer_instance) : LW P n l S late ((i, 1) :: r) listed F M Q :=
  fun a w hf hm => ⟨_, v, (nth_eq l i).symm.trans ho, .inl ⟨rfl, hT.tame a hf _ _ _ _, fun w hw => hv a w hf hw _ _ _ _⟩, h _ w (hf.put ht v) hm⟩
theorem wpOpX_some {o : Oper} {ops : Array Oper} {Q : Exit → Act → World → Prop} {K : Act → World → Prop} {a : Act} {w : World} (ho : ops[i]? = some o) (hg : o.guard = none) (h : o.wpX P a w K Q) :
    wpOpX P ops Q i K a w := by
  unfold wpOpX
  simp only [ho, Region.wanted, hg, if_true]
  exact h
theorem lw_act {t : Nat} {R : World → Value → World → Prop} [hM' : Stb M] (ho : nth l i = some ⟨some t, op, ty, ps, af, none⟩) (hv : Acts P n F M op ty R) (ht : Nat.blt t n = true)
    (hS : clean late (listed.setIfInBounds i true) = true → ∀ w v w', M w → R w v w' → S w')
    (h : ∀ w v, M w → LW P n l S late r (listed.setIfInBounds i true) ((t, v) :: F) (R w v) Q) (hT : Tame P n F op ty := by infer_instance) (hS' : Stb S := by infer_instance) : LW P n l S late ((i, 2) :: r) listed F M Q := by
  intro a w hf hm
  refine wpOpX_some ((nth_eq l i).symm.trans ho) rfl (opX_value hv hT hf hm fun u x w' hu hl => ?_)
  exact ⟨fun hc => (let ⟨v', h1, h2⟩ := hl; hS'.stb (hS hc u x v' hu h1) h2), h u x hu _ w' (hf.put ht _) hl⟩
theorem lw_do {R : World → World → Prop} [hM' : Stb M] (ho : nth l i = some ⟨none, op, ty, ps, af, none⟩) (hv : Does P n F M op ty R)
    (hS : clean late (listed.setIfInBounds i true) = true → ∀ w w', M w → R w w' → S w')
    (h : ∀ w, M w → LW P n l S late r (listed.setIfInBounds i true) F (R w) Q) (hT : Tame P n F op ty := by infer_instance) (hS' : Stb S := by infer_instance) : LW P n l S late ((i, 2) :: r) listed F M Q := by
  intro a w hf hm
  refine wpOpX_some ((nth_eq l i).symm.trans ho) rfl (opX_skip hv hT hf hm fun u w' hu hl => ?_)
  exact ⟨fun hc => (let ⟨v', h1, h2⟩ := hl; hS'.stb (hS hc u v' hu h1) h2), h u hu _ w' hf hl⟩
theorem lw_call {t : Nat} {f : FuncId} {args : Array Value} (R : World → Value → World → Prop) [hM' : Stb M] (ho : nth l i = some ⟨some t, op, ty, ps, af, none⟩) (hv : CallsTo P n F M op ty f args) (ht : Nat.blt t n = true)
    (hc : ∀ w, M w → CallV P f args w fun e w' => ∃ v, e = .returned v ∧ R w v w')
    (hS : clean late (listed.setIfInBounds i true) = true → ∀ w v w', M w → R w v w' → S w')
    (h : ∀ w v, M w → LW P n l S late r (listed.setIfInBounds i true) ((t, v) :: F) (R w v) Q) (hT : Tame P n F op ty := by infer_instance) (hS' : Stb S := by infer_instance) : LW P n l S late ((i, 2) :: r) listed F M Q := by
  intro a w hf hm
  refine wpOpX_some ((nth_eq l i).symm.trans ho) rfl (opX_call hv hT hc hf hm fun u x w' hu hl => ?_)
  exact ⟨fun hc => (let ⟨v', h1, h2⟩ := hl; hS'.stb (hS hc u x v' hu h1) h2), h u x hu _ w' (hf.put ht _) hl⟩
end
end
end Go.Sx
end
section
namespace Go.Sx
variable [Gnd]
section
variable {P : Program} {n : Nat} {F : Fr} {S : World → Prop} {ty : TypeId}
theorem val_move {x : Operand} {v : Value} (h : ev F x = some v) : Val P n F S (.move x) ty v :=
  fun a w hf _ d ps af g => by simp [execOp, ev_eval hf h]
theorem val_assign {x : Operand} {v : Value} (h : ev F x = some v) : Val P n F S (.assign x) ty v :=
  fun a w hf _ d ps af g => by simp [execOp, ev_eval hf h]
theorem val_pick {c x y : Operand} {b : Bool} {v u : Value} (hc : ev F c = some (.bool b)) (hx : ev F x = some v) (hy : ev F y = some u) : Val P n F S (.pick c x y) ty (bif b then v else u) :=
  fun a w hf _ d ps af g => by
    simp only [execOp, ev_eval hf hc, ev_eval hf hx, ev_eval hf hy, asBool]
    cases b <;> simp
theorem val_pick_true {c x y : Operand} {v : Value} (hc : ev F c = some (.bool true)) (hx : ev F x = some v) : Val P n F S (.pick c x y) ty v :=
  fun a w hf _ d ps af g => by simp [execOp, ev_eval hf hc, ev_eval hf hx, asBool]
theorem val_pick_false {c x y : Operand} {v : Value} (hc : ev F c = some (.bool false)) (hy : ev F y = some v) : Val P n F S (.pick c x y) ty v :=
  fun a w hf _ d ps af g => by simp [execOp, ev_eval hf hc, ev_eval hf hy, asBool]
theorem val_not {x : Operand} {b : Bool} {t : TypeId} (h : ev F x = some (.bool b)) : Val P n F S (.unOp .not t x) ty (.bool (!b)) :=
  fun a w hf _ d ps af g => by simp [execOp, ev_eval hf h, Op.unary]
theorem val_extract {x : Operand} {vs : Array Value} {i : Nat} {v : Value} (h : ev F x = some (.tuple vs)) (hi : vs[i]? = some v) : Val P n F S (.extract x i) ty v :=
  fun a w hf _ d ps af g => by simp [execOp, ev_eval hf h, Instr.extract, hi]
theorem val_makeFunc {fn : Fn} {cap : Array Operand} {vs : Array Value} (h : ∀ a, Fits n F a → cap.map a.eval = vs) : Val P n F S (.makeFunc fn #[] cap) ty (.func fn #[] vs) :=
  fun a w hf _ d ps af g => by simp [execOp, Instr.makeFunc, h a hf]
theorem bin_ok {op : BinOp} {T U : TypeId} {x y : Operand} {u v r : Value} (hx : ev F x = some u) (hy : ev F y = some v)
    (hg : ∀ w, (eqGuard op T x y u v).run P w = .ok () w) (hr : ∀ w, (binOp op T u v).run P w = .ok r w) : Val P n F S (.binOp op T x y U) ty r :=
  fun a w hf _ d ps af g => by
    simp only [execOp, ev_eval hf hx, ev_eval hf hy, Sem.run_bind, hg, hr, Result.andThen_ok, Sem.run_pure]
theorem guard_int {op : BinOp} {T : TypeId} {x y : Operand} {k k' : IntKind} {p q : Int} (w : World) : (eqGuard op T x y (.int k p) (.int k' q)).run P w = .ok () w := by
  cases op <;> simp [eqGuard]
theorem guard_bool {op : BinOp} {T : TypeId} {x y : Operand} {p q : Bool} (w : World) : (eqGuard op T x y (.bool p) (.bool q)).run P w = .ok () w := by
  cases op <;> simp [eqGuard]
theorem guard_ptr {op : BinOp} {T : TypeId} {x y : Operand} {p q : Option Addr} (w : World) : (eqGuard op T x y (.pointer p) (.pointer q)).run P w = .ok () w := by
  cases op <;> simp [eqGuard]
theorem bin_int {op : BinOp} {T U : TypeId} {x y : Operand} {k k' : IntKind} {p q : Int} {r : Value} (hx : ev F x = some (.int k p)) (hy : ev F y = some (.int k' q))
    (hr : ∀ w, (binOp op T (.int k p) (.int k' q)).run P w = .ok r w) : Val P n F S (.binOp op T x y U) ty r :=
  bin_ok hx hy guard_int hr
theorem wrap_i64 (i : Int) (h0 : -9223372036854775808 ≤ i) (h1 : i ≤ 9223372036854775807) : IntKind.i64.wrap i = i := by
  rw [IntKind.wrap_i64]; omega
end
end Go.Sx
end
section
namespace Go.Sx
variable [Gnd]
section
variable {P : Program} {n : Nat} {F : Fr} {S : World → Prop} {ty : TypeId}
theorem val_add_int {T V : TypeId} {x y : Operand} {a b : Int} (r : Int) (hx : ev F x = some (vInt a)) (hy : ev F y = some (vInt b)) (hr : a + b = r) (hb : -9223372036854775808 ≤ r ∧ r ≤ 9223372036854775807) : Val P n F S (.binOp .add T x y V) ty (vInt r) :=
  bin_int hx hy fun w => by
    subst hr
    simp only [binOp, Op.intArith, ne_eq, not_true, if_false, vInt, Sem.run_pure, Result.ok.injEq, Value.int.injEq, true_and, and_true]
    exact wrap_i64 _ hb.1 hb.2
theorem val_rem_int {T V : TypeId} {x y : Operand} {a b : Int} (hx : ev F x = some (vInt a)) (hy : ev F y = some (vInt b)) (hb : b ≠ 0) : Val P n F S (.binOp .rem T x y V) ty (vInt (a.tmod b)) :=
  bin_int hx hy fun w => by
    simp only [binOp, Op.intDiv, ne_eq, not_true, if_false, hb, vInt, Sem.run_pure]
theorem val_eql_int {T V : TypeId} {x y : Operand} {a b : Int} (hx : ev F x = some (vInt a)) (hy : ev F y = some (vInt b)) : Val P n F S (.binOp .eql T x y V) ty (.bool (decide (a = b))) :=
  bin_int hx hy fun w => by
    simp only [binOp, Op.intCmp, ne_eq, not_true, if_false, Sem.run_pure, Result.ok.injEq, Value.bool.injEq, and_true]
    rw [Bool.eq_iff_iff]; simp
theorem val_neq_int {T V : TypeId} {x y : Operand} {a b : Int} (hx : ev F x = some (vInt a)) (hy : ev F y = some (vInt b)) : Val P n F S (.binOp .neq T x y V) ty (.bool (decide (a ≠ b))) :=
  bin_int hx hy fun w => by
    simp only [binOp, Op.intCmp, ne_eq, not_true, if_false, Sem.run_pure, Result.ok.injEq, Value.bool.injEq, and_true]
    rw [Bool.eq_iff_iff]; simp
theorem val_lss_int {T V : TypeId} {x y : Operand} {a b : Int} (hx : ev F x = some (vInt a)) (hy : ev F y = some (vInt b)) : Val P n F S (.binOp .lss T x y V) ty (.bool (decide (a < b))) :=
  bin_int hx hy fun w => by
    simp only [binOp, Op.intCmp, ne_eq, not_true, if_false, Sem.run_pure, Result.ok.injEq, Value.bool.injEq, and_true]
theorem val_leq_int {T V : TypeId} {x y : Operand} {a b : Int} (hx : ev F x = some (vInt a)) (hy : ev F y = some (vInt b)) : Val P n F S (.binOp .leq T x y V) ty (.bool (decide (a ≤ b))) :=
  bin_int hx hy fun w => by
    simp only [binOp, Op.intCmp, ne_eq, not_true, if_false, Sem.run_pure, Result.ok.injEq, Value.bool.injEq, and_true]
theorem val_gtr_int {T V : TypeId} {x y : Operand} {a b : Int} (hx : ev F x = some (vInt a)) (hy : ev F y = some (vInt b)) : Val P n F S (.binOp .gtr T x y V) ty (.bool (decide (b < a))) :=
  bin_int hx hy fun w => by
    simp only [binOp, Op.intCmp, ne_eq, not_true, if_false, Sem.run_pure, Result.ok.injEq, Value.bool.injEq, and_true]
theorem val_geq_int {T V : TypeId} {x y : Operand} {a b : Int} (hx : ev F x = some (vInt a)) (hy : ev F y = some (vInt b)) : Val P n F S (.binOp .geq T x y V) ty (.bool (decide (b ≤ a))) :=
  bin_int hx hy fun w => by
    simp only [binOp, Op.intCmp, ne_eq, not_true, if_false, Sem.run_pure, Result.ok.injEq, Value.bool.injEq, and_true]
theorem eqIn_nilptr {T E : TypeId} (d : Nat) (hT : P.underlying T = some (.pointer E)) (p : Option Addr) (w : World) : (Op.equalIn (d + 1) T (.pointer p) (.pointer none)).run P w = .ok p.isNone w := by
  cases p <;> simp [Op.equalIn, run_underlying hT]
theorem run_eql_of {T : TypeId} {u v : Value} {b : Bool} {w : World} (h : (Op.equal T u v).run P w = .ok b w) (e : binOp .eql T u v = (do pure (.bool (← Op.equal T u v)))) : (binOp .eql T u v).run P w = .ok (.bool b) w := by
  rw [e]; simp only [Sem.run_bind, h, Result.andThen_ok, Sem.run_pure]
theorem run_neq_of {T : TypeId} {u v : Value} {b : Bool} {w : World} (h : (Op.equal T u v).run P w = .ok b w) (e : binOp .neq T u v = (do pure (.bool (!(← Op.equal T u v))))) : (binOp .neq T u v).run P w = .ok (.bool (!b)) w := by
  rw [e]; simp only [Sem.run_bind, h, Result.andThen_ok, Sem.run_pure]
theorem val_neq_bool {T V : TypeId} {x y : Operand} {a b : Bool} (hT : P.underlying T = some .bool) (hx : ev F x = some (.bool a)) (hy : ev F y = some (.bool b)) : Val P n F S (.binOp .neq T x y V) ty (.bool (!(a == b))) :=
  bin_ok hx hy guard_bool fun w => run_neq_of (run_equalIn_bool w 9999 T a b hT) rfl
theorem val_eql_nilptr {T V E : TypeId} {x y : Operand} {p : Option Addr} (hT : P.underlying T = some (.pointer E)) (hx : ev F x = some (.pointer p)) (hy : ev F y = some (.pointer none)) : Val P n F S (.binOp .eql T x y V) ty (.bool p.isNone) :=
  bin_ok hx hy guard_ptr fun w => run_eql_of (eqIn_nilptr 9999 hT p w) rfl
end
end Go.Sx
end
section
namespace Go.Sx
variable [Gnd]
/-- An entry: a block and what it holds, or nothing. -/
abbrev Ent := Option (Nat × Obj)
def keys (l : List Ent) : List Nat := l.filterMap (·.map Prod.fst)
/-- What is known of the memory: blocks below w0's size are as in w0 but for those of olds; the blocks of l hold what l says. -/
structure Mem (w0 : World) (olds : List Nat) (l : List Ent) (w : World) : Prop where
  os : w.os = w0.os
  tape : w.tape = w0.tape
  output : w.output = w0.output
  size : w0.heap.size ≤ w.heap.size
  keep : ∀ k, k < w0.heap.size → k ∉ olds → w.heap[k]? = w0.heap[k]?
  own : ∀ b o, some (b, o) ∈ l → w.heap[b]? = some o
  nodup : (keys l).Nodup
  fresh : ∀ b ∈ keys l, w0.heap.size ≤ b ∨ b ∈ olds
def pick : List Ent → Nat → Ent
  | [], _ => none
  | x :: _, 0 => x
  | _ :: r, i + 1 => pick r i
def upd : List Ent → Nat → Ent → List Ent
  | [], _, _ => []
  | _ :: r, 0, o => o :: r
  | x :: r, i + 1, o => x :: upd r i o
theorem pick_mem : ∀ {l : List Ent} {i : Nat} {x : Nat × Obj}, pick l i = some x → some x ∈ l
  | [], i, x, h => by simp [pick] at h
  | y :: r, 0, x, h => by simp [pick] at h; subst h; exact .head _
  | y :: r, i + 1, x, h => .tail _ (pick_mem (by simpa [pick] using h))
theorem mem_keys {l : List Ent} {b : Nat} {o : Obj} (h : some (b, o) ∈ l) : b ∈ keys l := List.mem_filterMap.2 ⟨_, h, rfl⟩
theorem keys_mem {l : List Ent} {b : Nat} (h : b ∈ keys l) : ∃ o, some (b, o) ∈ l := by
  obtain ⟨e, he, h2⟩ := List.mem_filterMap.1 h
  cases e with
  | none => simp at h2
  | some x => simp at h2; subst h2; exact ⟨x.2, he⟩
theorem keys_cons_none (l : List Ent) : keys (none :: l) = keys l := by simp [keys]
theorem keys_cons_some (x : Nat × Obj) (l : List Ent) : keys (some x :: l) = x.1 :: keys l := by simp [keys]
theorem keys_append (l l' : List Ent) : keys (l ++ l') = keys l ++ keys l' := by simp [keys]
/-- Behind an update of the entry i, which held the block b or nothing: those that are left are of other blocks than b. -/
theorem upd_mem : ∀ {l : List Ent} {i : Nat} {e : Ent}, (keys l).Nodup → ∀ y ∈ upd l i e, y = e ∨ (y ∈ l ∧ ∀ b o b' o', y = some (b, o) → pick l i = some (b', o') → b ≠ b')
  | [], i, e, _, y, hy => by simp [upd] at hy
  | z :: r, 0, e, hn, y, hy => by
    simp only [upd, List.mem_cons] at hy
    rcases hy with rfl | hy
    · exact .inl rfl
    · refine .inr ⟨.tail _ hy, fun b o b' o' e1 e2 eb => ?_⟩
      subst e1; simp only [pick] at e2; subst e2; subst eb
      rw [keys_cons_some, List.nodup_cons] at hn
      exact hn.1 (mem_keys hy)
  | z :: r, i + 1, e, hn, y, hy => by
    simp only [upd, List.mem_cons] at hy
    have hn' : (keys r).Nodup := by
      cases z with
      | none => rwa [keys_cons_none] at hn
      | some x => rw [keys_cons_some, List.nodup_cons] at hn; exact hn.2
    rcases hy with rfl | hy
    · refine .inr ⟨.head _, fun b o b' o' e1 e2 eb => ?_⟩
      subst e1; subst eb
      rw [keys_cons_some, List.nodup_cons] at hn
      exact hn.1 (mem_keys (pick_mem (by simpa [pick] using e2)))
    · rcases upd_mem hn' y hy with h1 | ⟨h1, h2⟩
      · exact .inl h1
      · exact .inr ⟨.tail _ h1, fun b o b' o' e1 e2 => h2 b o b' o' e1 (by simpa [pick] using e2)⟩
/-- The keys behind an update. -/
theorem keys_upd : ∀ (l : List Ent) (i : Nat) (e : Ent), ∀ b ∈ keys (upd l i e), b ∈ keys l ∨ (∃ o, e = some (b, o))
  | [], i, e, b, hb => by simp [upd, keys] at hb
  | z :: r, 0, e, b, hb => by
    obtain ⟨o, ho⟩ := keys_mem hb
    simp only [upd, List.mem_cons] at ho
    rcases ho with h | h
    · exact .inr ⟨o, h.symm⟩
    · exact .inl (mem_keys (List.mem_cons_of_mem _ h))
  | z :: r, i + 1, e, b, hb => by
    obtain ⟨o, ho⟩ := keys_mem hb
    simp only [upd, List.mem_cons] at ho
    rcases ho with h | h
    · exact .inl (mem_keys (by rw [h]; exact .head _))
    · rcases keys_upd r i e b (mem_keys h) with h1 | h1
      · obtain ⟨o', h1⟩ := keys_mem h1; exact .inl (mem_keys (List.mem_cons_of_mem _ h1))
      · exact .inr h1
theorem nodup_upd : ∀ (l : List Ent) (i : Nat) (e : Ent), (keys l).Nodup → (∀ b o, e = some (b, o) → b ∉ keys l ∨ ∃ o', pick l i = some (b, o')) → (keys (upd l i e)).Nodup
  | [], i, e, _, _ => by simp [upd, keys]
  | z :: r, 0, e, hn, he => by
    have hn' : (keys r).Nodup := by
      cases z with
      | none => rwa [keys_cons_none] at hn
      | some x => rw [keys_cons_some, List.nodup_cons] at hn; exact hn.2
    cases e with
    | none => rw [upd, keys_cons_none]; exact hn'
    | some x =>
      rw [upd, keys_cons_some, List.nodup_cons]
      refine ⟨fun hx => ?_, hn'⟩
      rcases he x.1 x.2 rfl with h | ⟨o', h⟩
      · obtain ⟨o, ho⟩ := keys_mem hx
        exact h (mem_keys (List.mem_cons_of_mem _ ho))
      · simp only [pick] at h; subst h
        rw [keys_cons_some, List.nodup_cons] at hn
        exact hn.1 hx
  | z :: r, i + 1, e, hn, he => by
    cases z with
    | none =>
      rw [keys_cons_none] at hn
      rw [upd, keys_cons_none]
      exact nodup_upd r i e hn (fun b o h => by simpa [keys_cons_none, pick] using he b o h)
    | some x =>
      rw [keys_cons_some, List.nodup_cons] at hn
      rw [upd, keys_cons_some, List.nodup_cons]
      refine ⟨fun hx => ?_, nodup_upd r i e hn.2 (fun b o h => ?_)⟩
      · rcases keys_upd r i e _ hx with h1 | ⟨o, h1⟩
        · exact hn.1 h1
        · rcases he _ o h1 with h2 | ⟨o', h2⟩
          · exact h2 (by rw [keys_cons_some]; exact .head _)
          · simp only [pick] at h2; exact hn.1 (mem_keys (pick_mem h2))
      · rcases he b o h with h2 | ⟨o', h2⟩
        · exact .inl (fun hb => h2 (by rw [keys_cons_some]; exact .tail _ hb))
        · exact .inr ⟨o', by simpa [pick] using h2⟩
section
variable {w0 w : World} {olds : List Nat} {l : List Ent}
theorem Mem.refl (w : World) : Mem w [] [] w := ⟨rfl, rfl, rfl, Nat.le_refl _, fun _ _ _ => rfl, (fun _ _ h => nomatch h), by simp [keys], (fun _ h => nomatch h)⟩
theorem Mem.lt (h : Mem w0 olds l w) {b : Nat} (hx : b ∈ keys l) : b < w.heap.size := by
  obtain ⟨o, ho⟩ := keys_mem hx
  exact (Array.getElem?_eq_some_iff.1 (h.own b o ho)).1
theorem Mem.at (h : Mem w0 olds l w) {i b : Nat} {o : Obj} (hp : pick l i = some (b, o)) : w.heap[b]? = some o := h.own b o (pick_mem hp)
/-- Only the draws' count has turned. -/
theorem Mem.drawn (h : Mem w0 olds l w) (k : Nat) : Mem w0 olds l { w with drawn := k } := ⟨h.os, h.tape, h.output, h.size, h.keep, h.own, h.nodup, h.fresh⟩
/-- A world that differs from w in the block b alone, of those that are known; b stood at i. -/
theorem Mem.put (h : Mem w0 olds l w) {i b : Nat} {o o' : Obj} (hp : pick l i = some (b, o)) {w' : World} (hos : w'.os = w.os) (htape : w'.tape = w.tape) (hout : w'.output = w.output)
    (hsize : w.heap.size ≤ w'.heap.size) (hb : w'.heap[b]? = some o') (hoth : ∀ k, k < w.heap.size → k ≠ b → w'.heap[k]? = w.heap[k]?) : Mem w0 olds (upd l i (some (b, o'))) w' := by
  have hm := pick_mem hp
  refine ⟨hos.trans h.os, htape.trans h.tape, hout.trans h.output, Nat.le_trans h.size hsize, fun k hk hko => ?_, fun c x hy => ?_, nodup_upd l i _ h.nodup (fun c x e => ?_), fun c hc => ?_⟩
  · have hkb : k ≠ b := fun e => by
      subst e
      rcases h.fresh _ (mem_keys hm) with h1 | h1
      · omega
      · exact hko h1
    have := h.size
    rw [hoth k (by omega) hkb]; exact h.keep k hk hko
  · rcases upd_mem h.nodup _ hy with e | ⟨h1, h2⟩
    · simp only [Option.some.injEq, Prod.mk.injEq] at e; obtain ⟨rfl, rfl⟩ := e; exact hb
    · rw [hoth _ (h.lt (mem_keys h1)) (h2 c x b o rfl hp)]; exact h.own c x h1
  · simp only [Option.some.injEq, Prod.mk.injEq] at e; obtain ⟨rfl, rfl⟩ := e; exact .inr ⟨o, hp⟩
  · rcases keys_upd l i _ c hc with h1 | ⟨x, e⟩
    · exact h.fresh c h1
    · simp only [Option.some.injEq, Prod.mk.injEq] at e; obtain ⟨rfl, rfl⟩ := e; exact h.fresh _ (mem_keys hm)
/-- A new block in the place of the entry i. -/
theorem Mem.renew (h : Mem w0 olds l w) (i : Nat) {b : Nat} {o' : Obj} {w' : World} (hos : w'.os = w.os) (htape : w'.tape = w.tape) (hout : w'.output = w.output)
    (hsize : w.heap.size ≤ w'.heap.size) (hbn : w.heap.size ≤ b) (hb : w'.heap[b]? = some o') (hoth : ∀ k, k < w.heap.size → w'.heap[k]? = w.heap[k]?) : Mem w0 olds (upd l i (some (b, o'))) w' := by
  refine ⟨hos.trans h.os, htape.trans h.tape, hout.trans h.output, Nat.le_trans h.size hsize, fun k hk hko => ?_, fun c x hy => ?_, nodup_upd l i _ h.nodup (fun c x e => ?_), fun c hc => ?_⟩
  · have := h.size
    rw [hoth k (by omega)]; exact h.keep k hk hko
  · rcases upd_mem h.nodup _ hy with e | ⟨h1, h2⟩
    · simp only [Option.some.injEq, Prod.mk.injEq] at e; obtain ⟨rfl, rfl⟩ := e; exact hb
    · rw [hoth _ (h.lt (mem_keys h1))]; exact h.own c x h1
  · simp only [Option.some.injEq, Prod.mk.injEq] at e; obtain ⟨rfl, rfl⟩ := e
    exact .inl fun hk => by have := h.lt hk; omega
  · rcases keys_upd l i _ c hc with h1 | ⟨x, e⟩
    · exact h.fresh c h1
    · simp only [Option.some.injEq, Prod.mk.injEq] at e; obtain ⟨rfl, rfl⟩ := e; have := h.size; exact .inl (by omega)
/-- A new block. -/
theorem Mem.alloc (h : Mem w0 olds l w) (o : Obj) : Mem w0 olds (some (w.heap.size, o) :: l) (w.alloc o) := by
  refine ⟨h.os, h.tape, h.output, by simp; have := h.size; omega, fun k hk hko => ?_, fun b x hy => ?_, ?_, fun b hb => ?_⟩
  · have := h.size
    rw [RowKit.Below.heap_alloc w o k (by omega)]; exact h.keep k hk hko
  · rcases List.mem_cons.1 hy with e | hy
    · simp only [Option.some.injEq, Prod.mk.injEq] at e; obtain ⟨rfl, rfl⟩ := e; exact heap_alloc_new w _
    · rw [RowKit.Below.heap_alloc w o _ (h.lt (mem_keys hy))]; exact h.own b x hy
  · rw [keys_cons_some, List.nodup_cons]
    exact ⟨fun hm => by have := h.lt hm; simp at this, h.nodup⟩
  · rw [keys_cons_some] at hb
    rcases List.mem_cons.1 hb with rfl | hb
    · exact .inl h.size
    · exact h.fresh b hb
/-- Blocks made anew may be forgotten. -/
theorem Mem.forget {x : Ent} (h : Mem w0 olds (x :: l) w) : Mem w0 olds l w :=
  ⟨h.os, h.tape, h.output, h.size, h.keep, fun b o hy => h.own b o (.tail _ hy), by
    have := h.nodup
    cases x with
    | none => rwa [keys_cons_none] at this
    | some x => rw [keys_cons_some, List.nodup_cons] at this; exact this.2, fun b hb => h.fresh b (by
      obtain ⟨o, ho⟩ := keys_mem hb; exact mem_keys (List.mem_cons_of_mem _ ho))⟩
theorem Mem.forgetAll (h : Mem w0 olds l w) : Mem w0 olds [] w :=
  ⟨h.os, h.tape, h.output, h.size, h.keep, (fun _ _ h => nomatch h), by simp [keys], (fun _ h => nomatch h)⟩
/-- The entries at some places, in their order. -/
theorem Mem.only (h : Mem w0 olds l w) {l' : List Ent} (hs : l'.Sublist l) : Mem w0 olds l' w :=
  ⟨h.os, h.tape, h.output, h.size, h.keep, fun b o hy => h.own b o (hs.subset hy), h.nodup.sublist (List.Sublist.filterMap _ hs), fun b hb => h.fresh b ((List.Sublist.filterMap _ hs).subset hb)⟩
/-- A place for a block that is not there yet. -/
theorem Mem.place (h : Mem w0 olds l w) : Mem w0 olds (none :: l) w :=
  ⟨h.os, h.tape, h.output, h.size, h.keep, fun b o hy => by rcases List.mem_cons.1 hy with e | hy; cases e; exact h.own b o hy, by rw [keys_cons_none]; exact h.nodup, by rw [keys_cons_none]; exact h.fresh⟩
theorem Mem.perm (h : Mem w0 olds l w) {l' : List Ent} (hp : l'.Perm l) : Mem w0 olds l' w :=
  ⟨h.os, h.tape, h.output, h.size, h.keep, fun b o hy => h.own b o (hp.subset hy), (hp.filterMap _).nodup_iff.2 h.nodup, fun b hb => h.fresh b ((hp.filterMap _).subset hb)⟩
/-- A callee that only made memory of its own. -/
theorem Mem.call (h : Mem w0 olds l w) {l' : List Ent} {w' : World} (h' : Mem w [] l' w') : Mem w0 olds (l' ++ l) w' := by
  refine ⟨h'.os.trans h.os, h'.tape.trans h.tape, h'.output.trans h.output, Nat.le_trans h.size h'.size, fun k hk hko => ?_, fun b o hy => ?_, ?_, fun b hb => ?_⟩
  · have := h.size
    rw [h'.keep k (by omega) (by simp)]; exact h.keep k hk hko
  · rcases List.mem_append.1 hy with hy | hy
    · exact h'.own b o hy
    · rw [h'.keep _ (h.lt (mem_keys hy)) (by simp)]; exact h.own b o hy
  · rw [keys_append, List.nodup_append]
    refine ⟨h'.nodup, h.nodup, fun a ha b hb e => ?_⟩
    subst e
    have h1 := h.lt hb
    rcases h'.fresh a ha with h2 | h2
    · omega
    · simp at h2
  · rw [keys_append] at hb
    rcases List.mem_append.1 hb with hb | hb
    · rcases h'.fresh b hb with h2 | h2
      · have := h.size; exact .inl (by omega)
      · simp at h2
    · exact h.fresh b hb
theorem Mem.call0 (h : Mem w0 olds l w) {w' : World} (h' : Mem w [] [] w') : Mem w0 olds l w' := h.call h'
theorem Mem.cell (h : Mem w0 olds l w) {a : Addr} (hk : a.block < w0.heap.size) (ho : a.block ∉ olds) : w.cell? a = w0.cell? a := World.cell?_of_block (h.keep _ hk ho)
theorem Mem.cell_some (h : Mem w0 [] l w) {a : Addr} {v : Value} (ha : w0.cell? a = some v) : w.cell? a = some v :=
  (h.cell (World.block_lt_of_cell? _ _ ha) (by simp)).trans ha
theorem Mem.grow (h : Mem w0 olds l w) {w' : World} (hr : RV w w') : Mem w0 olds l w' :=
  ⟨hr.os.trans h.os, hr.tape.trans h.tape, hr.output.trans h.output, Nat.le_trans h.size hr.size, fun k hk ho => by
    have e := h.keep k hk ho
    have hk' : k < w.heap.size := Nat.lt_of_lt_of_le hk h.size
    have e2 : w.heap[k]? = some w.heap[k] := Array.getElem?_eq_getElem hk'
    rw [hr.heap k _ e2, ← e2]; exact e, fun b o hy => hr.heap b o (h.own b o hy), h.nodup, h.fresh⟩
instance {w0 : World} {olds : List Nat} {l : List Ent} : Stb (Mem w0 olds l) := ⟨fun h hr => Mem.grow h hr⟩
/-- Begin anew from the world at hand: these blocks may be written. -/
theorem Mem.start (h : Mem w0 olds l w) : Mem w (keys l) l w := ⟨rfl, rfl, rfl, Nat.le_refl _, fun _ _ _ => rfl, h.own, h.nodup, fun _ hx => .inr hx⟩
end
/-- A block of cells. -/
def blk (xs : List Value) (T : TypeId) : Obj := .cells xs.toArray T (0, 0)
theorem cell_of_blk {w : World} {b k : Nat} {xs : List Value} {T : TypeId} (h : w.heap[b]? = some (blk xs T)) : w.cell? ⟨b, k, none⟩ = xs[k]? := by
  rw [cell_of_row w b k _ T (0, 0) h]; simp
theorem Mem.cellAt {w0 w : World} {olds : List Nat} {l : List Ent} (h : Mem w0 olds l w) {i b k : Nat} {xs : List Value} {T : TypeId} (hp : pick l i = some (b, blk xs T)) : w.cell? ⟨b, k, none⟩ = xs[k]? :=
  cell_of_blk (h.at hp)
theorem add_none (b o k : Nat) : (⟨b, o, none⟩ : Addr).add k = ⟨b, o + k, none⟩ := by
  unfold Addr.add; split
  · rename_i h; subst h; rfl
  · rfl
section
variable {P : Program} [C : Co P] {n : Nat} {F : Fr} {S : World → Prop} {ty : TypeId}
omit C in
theorem loadVar_one {T : TypeId} {a : Addr} {v : Value} {w : World} (hA : (isAgg T).run P w = .ok false w) (hc : w.cell? a = some v) : (loadVar T a).run P w = .ok v w := by
  simp only [loadVar, Sem.run_bind, hA, Result.andThen_ok, Bool.false_eq_true, if_false, run_load, hc]
omit C in
theorem loadVar_agg {T : TypeId} {b o m : Nat} {cs : List Value} {w : World} (hA : (isAgg T).run P w = .ok true w) (hS : (sizeOf T).run P w = .ok m w)
    (hl : cs.length = m) (hc : ∀ j v, cs[j]? = some v → w.cell? ⟨b, o + j, none⟩ = some v) : (loadVar T ⟨b, o, none⟩).run P w = .ok (.agg cs.toArray) w := by
  have h1 : (loadCells ⟨b, o, none⟩ m).run P w = .ok cs.toArray w := by
    rw [← hl]
    exact run_loadCells_list w _ cs (fun j v hj => by rw [add_none]; exact hc j v hj)
  simp only [loadVar, Sem.run_bind, hA, Result.andThen_ok, if_true, hS, h1, Sem.run_pure]
omit C in
/-- A load of one cell that is known. -/
theorem val_load {T : TypeId} {x : Operand} {a : Addr} {v : Value} (hx : ev F x = some (.pointer (some a))) (hA : ∀ w, (isAgg T).run P w = .ok false w) (hc : ∀ w, S w → w.cell? a = some v) :
    Val P n F S (.load T x) ty v := fun s w hf hs d ps af g => by
  simp only [execOp, ev_eval hf hx, Instr.loadAt, Instr.sureAddr, Sem.run_bind, Sem.run_pure, Result.andThen_ok, loadVar_one (hA w) (hc w hs)]
omit C in
/-- Out of a known block. -/
theorem val_load_at {T U : TypeId} {x : Operand} {b k : Nat} {v : Value} {w0 : World} {olds : List Nat} {l : List Ent} {xs : List Value} (i : Nat) (hx : ev F x = some (.pointer (some ⟨b, k, none⟩)))
    (hp : pick l i = some (b, blk xs U)) (hA : ∀ w, (isAgg T).run P w = .ok false w) (hv : xs[k]? = some v) :
    Val P n F (Mem w0 olds l) (.load T x) ty v := val_load hx hA fun w h => (h.cellAt hp).trans hv
omit C in
theorem val_load_agg {T : TypeId} {x : Operand} {b o m : Nat} {cs : List Value} (hx : ev F x = some (.pointer (some ⟨b, o, none⟩))) (hA : ∀ w, (isAgg T).run P w = .ok true w) (hS : ∀ w, (sizeOf T).run P w = .ok m w)
    (hl : cs.length = m) (hc : ∀ w, S w → ∀ j v, cs[j]? = some v → w.cell? ⟨b, o + j, none⟩ = some v) :
    Val P n F S (.load T x) ty (.agg cs.toArray) := fun s w hf hs d ps af g => by
  simp only [execOp, ev_eval hf hx, Instr.loadAt, Instr.sureAddr, Sem.run_bind, Sem.run_pure, Result.andThen_ok, loadVar_agg (hA w) (hS w) hl (hc w hs)]
omit C in
/-- A part of a known block. -/
theorem val_load_part {T U : TypeId} {x : Operand} {b o m : Nat} {w0 : World} {olds : List Nat} {l : List Ent} {xs cs : List Value} (i : Nat) (hx : ev F x = some (.pointer (some ⟨b, o, none⟩)))
    (hp : pick l i = some (b, blk xs U)) (hA : ∀ w, (isAgg T).run P w = .ok true w) (hS : ∀ w, (sizeOf T).run P w = .ok m w)
    (hl : cs.length = m) (hc : (xs.drop o).take m = cs) : Val P n F (Mem w0 olds l) (.load T x) ty (.agg cs.toArray) :=
  val_load_agg hx hA hS hl fun w h j v hj => by
    rw [h.cellAt hp]
    rw [← hc, List.getElem?_take] at hj
    split at hj
    · rw [List.getElem?_drop] at hj; exact hj
    · cases hj
omit C in
/-- A whole known block. -/
theorem val_load_all {T U : TypeId} {x : Operand} {b m : Nat} {w0 : World} {olds : List Nat} {l : List Ent} {xs : List Value} (i : Nat) (hx : ev F x = some (.pointer (some ⟨b, 0, none⟩)))
    (hp : pick l i = some (b, blk xs U)) (hA : ∀ w, (isAgg T).run P w = .ok true w) (hS : ∀ w, (sizeOf T).run P w = .ok m w)
    (hl : xs.length = m) : Val P n F (Mem w0 olds l) (.load T x) ty (.agg xs.toArray) :=
  val_load_part i hx hp hA hS hl (by simp [← hl])
omit C in
theorem acts_box {T : TypeId} {x : Operand} {v : Value} {w0 : World} {olds : List Nat} {l : List Ent} (hx : ev F x = some v) :
    Acts P n F (Mem w0 olds l) (.box T x) ty (fun w u w' => u = .pointer (some ⟨w.heap.size, 0, none⟩) ∧ Mem w0 olds (some (w.heap.size, blk v.cells.toList T) :: l) w') :=
  fun s w hf hm d ps af g => ⟨_, w.alloc (.cells v.cells T), by simp [execOp, ev_eval hf hx, Instr.box, newVar, newRow], rfl, by have := hm.alloc (blk v.cells.toList T); simpa [blk] using this⟩
omit C in
theorem acts_alloc {T : TypeId} {z : Value} {w0 : World} {olds : List Nat} {l : List Ent} (hz : ∀ w, (zeroValue T).run P w = .ok z w) :
    Acts P n F (Mem w0 olds l) (.alloc T) ty (fun w u w' => u = .pointer (some ⟨w.heap.size, 0, none⟩) ∧ Mem w0 olds (some (w.heap.size, blk z.cells.toList T) :: l) w') :=
  fun s w hf hm d ps af g => ⟨_, w.alloc (.cells z.cells T), by simp [execOp, Instr.alloc, hz, newVar, newRow], rfl, by have := hm.alloc (blk z.cells.toList T); simpa [blk] using this⟩
omit C in
theorem setCell_blk {w : World} {b k : Nat} {xs : List Value} {T : TypeId} {v : Value} (h : w.heap[b]? = some (blk xs T)) : (w.setCell ⟨b, k, none⟩ v).heap[b]? = some (blk (xs.set k v) T) := by
  rw [heap_setCell_same w b k _ T v h]; simp [blk]
omit C in
theorem does_store {T U : TypeId} {x y : Operand} {b k : Nat} {v : Value} {w0 : World} {olds : List Nat} {l : List Ent} {xs : List Value} (i : Nat) (hx : ev F x = some (.pointer (some ⟨b, k, none⟩))) (hy : ev F y = some v)
    (hp : pick l i = some (b, blk xs U)) (h1 : v.oneCell' = true) (hS : ∀ w, (sizeOf T).run P w = .ok 1 w) (hk : k < xs.length) :
    Does P n F (Mem w0 olds l) (.store T x y) ty (fun _ w' => Mem w0 olds (upd l i (some (b, blk (xs.set k v) U))) w') :=
  fun s w hf hm d ps af g => by
    have hb := hm.at hp
    have hc : w.cell? ⟨b, k, none⟩ = some xs[k] := by rw [cell_of_blk hb]; simp [hk]
    have hfz : w.frozen? ⟨b, k, none⟩ = false := frozen_of_row w b k _ U hb
    have hcells : v.cells = #[v] := by cases v <;> first | rfl | simp [Value.oneCell'] at h1
    have hst := run_store P w ⟨b, k, none⟩ v .plain h1
    rw [hc, hfz] at hst
    refine ⟨w.setCell ⟨b, k, none⟩ v, ?_, hm.put hp rfl rfl rfl (by simp) (setCell_blk hb) (fun j _ hj => heap_setCell_other w _ j v hj)⟩
    simp only [execOp, ev_eval hf hx, ev_eval hf hy, Instr.storeAt, Instr.sureAddr, Sem.run_bind, Sem.run_pure, Result.andThen_ok, storeVar, hS, hcells, storeCells, add_none, Nat.add_zero]
    simp [hst]
omit C in
theorem splice_set (xs : List Value) (v : Value) (vs : List Value) (k : Nat) (hk : k < xs.length) :
    xs.take k ++ (v :: vs) ++ xs.drop (k + (vs.length + 1)) = (xs.set k v).take (k + 1) ++ vs ++ (xs.set k v).drop (k + (vs.length + 1)) := by
  have h1 : (xs.set k v).take (k + 1) = xs.take k ++ [v] := by
    rw [List.take_succ_eq_append_getElem (by simpa using hk), List.take_set_of_le (Nat.le_refl k)]
    simp
  have h2 : (xs.set k v).drop (k + (vs.length + 1)) = xs.drop (k + (vs.length + 1)) := by
    apply List.ext_getElem?
    intro j
    simp only [List.getElem?_drop]
    rw [List.getElem?_set_ne (by omega)]
  rw [h1, h2]; simp
omit C in
/-- A whole row of cells. -/
theorem storeCells_blk : ∀ (vs : List Value) (i : Nat) (w : World) {b o : Nat} {xs : List Value} {T : TypeId} (_ : w.heap[b]? = some (blk xs T)) (_ : ∀ v ∈ vs, v.oneCell' = true) (_ : o + i + vs.length ≤ xs.length),
    ∃ w', (storeCells ⟨b, o, none⟩ vs i).run P w = .ok () w' ∧ w'.os = w.os ∧ w'.tape = w.tape ∧ w'.output = w.output ∧ w'.heap.size = w.heap.size ∧
      w'.heap[b]? = some (blk (xs.take (o + i) ++ vs ++ xs.drop (o + i + vs.length)) T) ∧ ∀ k, k ≠ b → w'.heap[k]? = w.heap[k]?
  | [], i, w, b, o, xs, T, hb, _, hl => ⟨w, by simp [storeCells], rfl, rfl, rfl, rfl, by simpa using hb, fun _ _ => rfl⟩
  | v :: vs, i, w, b, o, xs, T, hb, h1, hl => by
    simp only [List.length_cons] at hl
    have hk : o + i < xs.length := by omega
    have hc : w.cell? ⟨b, o + i, none⟩ = some xs[o + i] := by rw [cell_of_blk hb]; simp [hk]
    have hfz : w.frozen? ⟨b, o + i, none⟩ = false := frozen_of_row w b _ _ T hb
    have hst := run_store P w ⟨b, o + i, none⟩ v .plain (h1 v (.head _))
    rw [hc, hfz] at hst
    obtain ⟨w', e, h2, h3, h4, h5, h6, h7⟩ := storeCells_blk vs (i + 1) (w.setCell ⟨b, o + i, none⟩ v) (o := o) (setCell_blk hb) (fun u hu => h1 u (.tail _ hu)) (by simp; omega)
    refine ⟨w', ?_, h2, h3, h4, by rw [h5]; simp, ?_, fun k hk => by rw [h7 k hk]; exact heap_setCell_other w _ k v hk⟩
    · simp only [storeCells, add_none, Sem.run_bind, hst]
      simpa using e
    · rw [h6]
      rw [List.length_cons, splice_set xs v vs (o + i) hk, show o + (i + 1) = o + i + 1 by omega, show o + i + 1 + vs.length = o + i + (vs.length + 1) by omega]
omit C in
theorem does_store_agg {T U : TypeId} {x y : Operand} {b o m : Nat} {cs : List Value} {w0 : World} {olds : List Nat} {l : List Ent} {xs : List Value} (i : Nat) (hx : ev F x = some (.pointer (some ⟨b, o, none⟩))) (hy : ev F y = some (.agg cs.toArray))
    (hp : pick l i = some (b, blk xs U)) (h1 : ∀ v ∈ cs, v.oneCell' = true) (hS : ∀ w, (sizeOf T).run P w = .ok m w) (hl : cs.length = m) (hk : o + m ≤ xs.length) :
    Does P n F (Mem w0 olds l) (.store T x y) ty (fun _ w' => Mem w0 olds (upd l i (some (b, blk (xs.take o ++ cs ++ xs.drop (o + m)) U))) w') :=
  fun s w hf hm d ps af g => by
    have hb := hm.at hp
    obtain ⟨w', e, h2, h3, h4, h5, h6, h7⟩ := storeCells_blk (P := P) cs 0 w (o := o) hb h1 (by omega)
    refine ⟨w', ?_, hm.put hp h2 h3 h4 (by rw [h5]; exact Nat.le_refl _) (by rw [← hl]; simpa using h6) (fun k _ hk => h7 k hk)⟩
    simp only [execOp, ev_eval hf hx, ev_eval hf hy, Instr.storeAt, Instr.sureAddr, Sem.run_bind, Sem.run_pure, Result.andThen_ok, storeVar, hS, Value.cells, List.size_toArray, hl, ne_eq, not_true, if_false, e]
omit C in
theorem val_nilCheck {x : Operand} {a : Addr} (hx : ev F x = some (.pointer (some a))) : Val P n F S (.nilCheck x) ty (.pointer (some a)) :=
  fun s w hf _ d ps af g => by simp [execOp, ev_eval hf hx]
omit C in
theorem val_fieldAddr {T FT : TypeId} {x : Operand} {b o m e : Nat} {fs : Array Field} {f : Nat} {fd : Field} (hx : ev F x = some (.pointer (some ⟨b, o, none⟩))) (hT : P.underlying T = some (.struct fs)) (hf : fs[f]? = some fd)
    (hft : fd.type = FT) (hS : ∀ w, (sizeOf FT).run P w = .ok (m + 1) w) (he : o + fd.offset = e) : Val P n F S (.fieldAddr T x f) ty (.pointer (some ⟨b, e, none⟩)) :=
  fun s w hfit _ d ps af g => by
    subst hft; subst he
    simp [execOp, ev_eval hfit hx, Instr.fieldAt, run_underlying hT, hf, Instr.sureAddr, fieldPlace, hS, add_none]
omit C in
theorem val_indexAddr_slice {T E : TypeId} {x y : Operand} {b o len cap m : Nat} {k' : IntKind} {i : Int} (k e : Nat) (hx : ev F x = some (.slice (some ⟨b, o, none⟩) len cap)) (hy : ev F y = some (.int k' i)) (hT : P.underlying T = some (.slice E))
    (hS : ∀ w, (sizeOf E).run P w = .ok m w) (hi : i = (k : Int)) (hk : k < len) (he : o + k * m = e) : Val P n F S (.indexAddr T x y) ty (.pointer (some ⟨b, e, none⟩)) :=
  fun s w hf _ d ps af g => by
    subst hi; subst he
    simp [execOp, ev_eval hf hx, ev_eval hf hy, Instr.indexAt, asIntOf, run_underlying hT, hS, add_none]
    intro; omega
omit C in
theorem bounds_run {isS : Bool} {len cap : Nat} {lo hi : Option Value} {w : World} {lk hk : IntKind} {lv hv : Option Nat} (hlo : lo = lv.map fun k => .int lk (k : Int)) (hhi : hi = hv.map fun k => .int hk (k : Int))
    (h : lv.getD 0 ≤ hv.getD len ∧ hv.getD len ≤ cap) : (Instr.sliceBounds isS len cap lo hi none).run P w = .ok (lv.getD 0, hv.getD len, cap) w := by
  subst hlo; subst hhi
  cases lv <;> cases hv <;> simp at h <;> simp [Instr.sliceBounds, Instr.sliceBound, asIntOf, h]
omit C in
theorem val_slice {T E : TypeId} {x : Operand} {lo hi : Option Operand} {a : Option Addr} {len cap m : Nat} {lk hk : IntKind} (lv hv : Option Nat) (r : Value) (hx : ev F x = some (.slice a len cap)) (hT : P.underlying T = some (.slice E)) (hS : ∀ w, (sizeOf E).run P w = .ok m w)
    (hlo : ∀ s, Fits n F s → lo.map s.eval = lv.map fun k => .int lk (k : Int)) (hhi : ∀ s, Fits n F s → hi.map s.eval = hv.map fun k => .int hk (k : Int))
    (h : lv.getD 0 ≤ hv.getD len ∧ hv.getD len ≤ cap) (hr : .slice (if cap = lv.getD 0 then a else a.map (·.add (lv.getD 0 * m))) (hv.getD len - lv.getD 0) (cap - lv.getD 0) = r) : Val P n F S (.slice T x lo hi none) ty r :=
  fun s w hf _ d ps af g => by
    have hb := bounds_run (P := P) (w := w) (isS := true) (hlo s hf) (hhi s hf) h
    subst hr
    simp only [execOp, ev_eval hf hx, Instr.sliceAt, Sem.run_bind, run_underlying hT, Result.andThen_ok, Instr.slice, Option.map_none, hb, hS, Sem.run_pure]
omit C in
theorem val_len {x : Operand} {T E : TypeId} {a : Option Addr} {len cap : Nat} (hx : ev F x = some (.slice a len cap)) (hT : P.underlying T = some (.slice E)) :
    Val P n F S (.call { callee := .builtin .len, args := #[x], argTypes := #[T] }) ty (vInt (len : Int)) :=
  fun s w hf _ d ps af g => by
    simp [execOp, resolve, ev_eval hf hx, invoke, builtin, Builtin.len_, run_underlying hT, goInt, vInt]
end
end Go.Sx
end
section
namespace Go.Sx
variable [Gnd]
/-- The elements of a slice, read. -/
def Rd (w : World) (a : Option Addr) (xs : List Value) : Prop := ∀ j x, xs[j]? = some x → ∃ b o, a = some ⟨b, o, none⟩ ∧ w.cell? ⟨b, o + j, none⟩ = some x
theorem Rd.cell {w : World} {b o : Nat} {xs : List Value} (h : Rd w (some ⟨b, o, none⟩) xs) {j : Nat} {x : Value} (hj : xs[j]? = some x) : w.cell? ⟨b, o + j, none⟩ = some x := by
  obtain ⟨b', o', e, hc⟩ := h j x hj
  simp only [Option.some.injEq, Addr.mk.injEq, and_true] at e
  obtain ⟨rfl, rfl⟩ := e
  exact hc
theorem Rd.nil (w : World) (a : Option Addr) : Rd w a [] := fun j x h => by simp at h
theorem Rd.own {w0 w : World} {l : List Ent} {olds : List Nat} {i b o : Nat} {ys xs : List Value} {T : TypeId} (hm : Mem w0 olds l w) (hp : pick l i = some (b, blk ys T)) (hx : (ys.drop o).take xs.length = xs) : Rd w (some ⟨b, o, none⟩) xs :=
  fun j x hj => ⟨b, o, rfl, by
    rw [hm.cellAt hp, ← hj]
    conv => rhs; rw [← hx]
    have : j < xs.length := (List.getElem?_eq_some_iff.1 hj).1
    rw [List.getElem?_take, if_pos this, List.getElem?_drop]⟩
theorem Rd.sub {w : World} {b o : Nat} {xs ys : List Value} (h : Rd w (some ⟨b, o, none⟩) xs) (k : Nat) (hy : (xs.drop k).take ys.length = ys) : Rd w (some ⟨b, o + k, none⟩) ys := fun j x hj => by
  refine ⟨b, o + k, rfl, ?_⟩
  have hl : j < ys.length := (List.getElem?_eq_some_iff.1 hj).1
  have : xs[k + j]? = some x := by rw [← hj]; conv => rhs; rw [← hy]
                                   rw [List.getElem?_take, if_pos hl, List.getElem?_drop]
  have h2 := h.cell this
  rwa [Nat.add_assoc]
/-- The first n elements of a slice of its own: nil, or the head of the block at the entry. -/
def RowE (v : Value) (T : TypeId) (size n : Nat) (xs : List Value) (e : Ent) : Prop :=
  xs.length = n * size ∧ ((v = .slice none 0 0 ∧ n = 0 ∧ e = none) ∨
    ∃ b cap rest, v = .slice (some ⟨b, 0, none⟩) n cap ∧ n ≤ cap ∧ cap ≤ 9223372036854775807 ∧ (xs ++ rest).length = cap * size ∧ e = some (b, blk (xs ++ rest) T))
theorem RowE.nil (T : TypeId) (size : Nat) : RowE (.slice none 0 0) T size 0 [] none := ⟨by simp, .inl ⟨rfl, rfl, rfl⟩⟩
theorem RowE.full {b n : Nat} {T : TypeId} {size : Nat} {xs : List Value} (h : xs.length = n * size) (hn : n ≤ 9223372036854775807) : RowE (.slice (some ⟨b, 0, none⟩) n n) T size n xs (some (b, blk xs T)) :=
  ⟨h, .inr ⟨b, n, [], rfl, Nat.le_refl _, hn, by simpa using h, by simp⟩⟩
theorem RowE.rd {v : Value} {T : TypeId} {size n : Nat} {xs : List Value} {e : Ent} (h : RowE v T size n xs e) {w0 w : World} {olds : List Nat} {l : List Ent} {i : Nat} (hm : Mem w0 olds l w) (hp : pick l i = e) :
    ∃ a cap, v = .slice a n cap ∧ n ≤ cap ∧ Rd w a xs := by
  obtain ⟨hl, ⟨rfl, rfl, rfl⟩ | ⟨b, cap, rest, rfl, hc, _, hr, rfl⟩⟩ := h
  · exact ⟨none, 0, rfl, Nat.le_refl _, by
      have : xs = [] := List.length_eq_zero_iff.1 (by simpa using hl)
      rw [this]; exact Rd.nil _ _⟩
  · exact ⟨_, cap, rfl, hc, Rd.own hm hp (by simp)⟩
section
variable {P : Program} [C : Co P] {n : Nat} {F : Fr} {S : World → Prop} {ty : TypeId}
def evs (F : Fr) : List Operand → Option (List Value)
  | [] => some []
  | x :: r => match ev F x, evs F r with
    | some v, some vs => some (v :: vs)
    | _, _ => none
omit C in
theorem evs_eval {F : Fr} {a : Act} (hf : Fits n F a) : ∀ {xs : List Operand} {vs : List Value}, evs F xs = some vs → xs.map a.eval = vs
  | [], vs, h => by simp [evs] at h; subst h; rfl
  | x :: r, vs, h => by
    simp only [evs] at h
    split at h
    · rename_i v us hv hu
      simp only [Option.some.injEq] at h; subst h
      simp [ev_eval hf hv, evs_eval hf hu]
    · cases h
omit C in
/-- A call of a named function with a Go body. -/
theorem callsTo {f : FuncId} {fn : Func} {xs : List Operand} {vs : List Value} {ts : Array TypeId} (hf : P.funcs[f]? = some fn) {c : Code} (hb : fn.body = some c) (hn : (fn.name == "runtime.NumGoroutine") = false)
    (hv : evs F xs = some vs) : CallsTo P n F S (.call { callee := .value (.func f), args := xs.toArray, argTypes := ts }) ty f vs.toArray :=
  fun a w hfit _ d ps af g => by
    have h1 : (xs.toArray.map a.eval) = vs.toArray := by simp [evs_eval hfit hv]
    have h2 : a.eval (.func f) = .func (.func f) #[] #[] := rfl
    simp only [execOp, resolve, h1, h2, Deferred.ofValue, Sem.run_bind]
    have hn' : ¬ fn.name = "runtime.NumGoroutine" := by simpa using hn
    simp [invoke, callFunc, hf, hn', hb]
/-- A call that hands back a value told beforehand, and only made memory of its own. -/
theorem ow_call_pure {ops : Array Oper} {t : Nat} {op : Op} {ps : String} {af : Array Edge} {rest : List Oper} {Q : Po} {w0 : World} {olds : List Nat} {l : List Ent} {f : FuncId} {args : Array Value} {v : Value}
    (hv : CallsTo P n F (Mem w0 olds l) op ty f args) (ht : Nat.blt t n = true)
    (hc : ∀ w, Mem w0 olds l w → CallV P f args w fun e w' => ∃ u, e = .returned u ∧ u = v ∧ Mem w [] [] w')
    (h : OW P n ops rest ((t, v) :: F) (Mem w0 olds l) Q) (hT : Tame P n F op ty := by infer_instance) : OW P n ops (⟨some t, op, ty, ps, af, none⟩ :: rest) F (Mem w0 olds l) Q :=
  ow_call (hT := hT) (fun w u w' => u = v ∧ Mem w0 olds l w') hv ht (fun w hm => (hc w hm).mono fun e w' ⟨u, he, hu, hm'⟩ => ⟨u, he, hu, hm.call0 hm'⟩)
    (fun w u hm a w' hf ⟨u_, ⟨hu, hm'⟩, hr_⟩ => by subst hu; exact h a w' hf ⟨u_, hm', hr_⟩)
theorem ow_make {ops : Array Oper} {t : Nat} {op : Op} {ps : String} {af : Array Edge} {rest : List Oper} {Q : Po} {w0 : World} {olds : List Nat} {l : List Ent} {o : Obj} {len cap : Nat}
    (hv : Acts P n F (Mem w0 olds l) op ty (fun w u w' => u = .slice (some ⟨w.heap.size, 0, none⟩) len cap ∧ Mem w0 olds (some (w.heap.size, o) :: l) w')) (ht : Nat.blt t n = true)
    (h : ∀ b, w0.heap.size ≤ b → OW P n ops rest ((t, .slice (some ⟨b, 0, none⟩) len cap) :: F) (Mem w0 olds (some (b, o) :: l)) Q) (hT : Tame P n F op ty := by infer_instance) : OW P n ops (⟨some t, op, ty, ps, af, none⟩ :: rest) F (Mem w0 olds l) Q := by
  refine ow_act (hT := hT) hv ht (fun w v hm => ?_)
  rintro a₁ w₁ hf ⟨w', ⟨rfl, hm'⟩, hr_⟩
  exact h w.heap.size hm.size a₁ w₁ hf ⟨w', hm', hr_⟩
omit C in
theorem made_one (z : Value) (n : Nat) : (madeCells #[z] n).toList = List.replicate n z := toList_madeCells_one z n
omit C in
theorem upd_self : ∀ (l : List Ent) (i : Nat), upd l i (pick l i) = l
  | [], _ => rfl
  | x :: r, 0 => rfl
  | x :: r, i + 1 => by simp [upd, pick, upd_self r i]
omit C in
/-- append of whatever slice that is read to a row of its own. -/
theorem acts_append {T E : TypeId} {x y : Operand} {i : TypeInfo} {z v : Value} {size bytes k m c : Nat} {a : Option Addr} {xs ys : List Value} {e : Ent} {w0 : World} {olds : List Nat} {l : List Ent} (idx : Nat)
    (hx : ev F x = some v) (hy : ev F y = some (.slice a m c)) (hp : pick l idx = e) (hrow : RowE v E size k xs e) (hlen : Nat.blt idx l.length = true)
    (hT : P.underlying T = some (.slice E)) (hi : P.info? E = some i) (hz : i.zero = some z) (hs : i.size = size) (hby : i.bytes = bytes) (hzs : z.cells.size = size) (hsz : 0 < size)
    (hrd : ∀ w, Mem w0 olds l w → Rd w a ys) (hyl : ys.length = m * size) (h1 : ∀ u ∈ ys, u.oneCell' = true) (hb : (k + m) * bytes ≤ 140737488355328) (hkm : k + m ≤ 9223372036854775807) :
    Acts P n F (Mem w0 olds l) (.call { callee := .builtin .append, args := #[x, y], argTypes := #[T, T] }) ty
      (fun _ u w' => ∃ e', RowE u E size (k + m) (xs ++ ys) e' ∧ Mem w0 olds (upd l idx e') w') := by
  intro s w hf hm d ps af g
  have hrdw := hrd w hm
  subst hs; subst hby
  have hexec : ∀ (u : Value) (w' : World), (Builtin.append_ #[T, T] ty #[v, .slice a m c]).run P w = .ok u w' →
      (execOp s.eval ⟨d, .call { callee := .builtin .append, args := #[x, y], argTypes := #[T, T] }, ty, ps, af, g⟩).run P w = .ok (.value u) w' := by
    intro u w' h
    simp [execOp, resolve, ev_eval hf hx, ev_eval hf hy, invoke, builtin, h]
  have hidx : idx < l.length := by simpa [Nat.blt, Nat.succ_le_iff] using hlen
  cases a with
  | none =>
    -- nothing is appended
    have hys : ys = [] := by
      cases ys with
      | nil => rfl
      | cons q r => obtain ⟨b, o, e, _⟩ := hrdw 0 q rfl; cases e
    subst hys
    have hm0 : m = 0 := by
      rcases Nat.eq_zero_or_pos m with h | h
      · exact h
      · have := Nat.mul_pos h hsz; simp at hyl; omega
    subst hm0
    refine ⟨v, w, hexec v w ?_, e, by simpa using hrow, ?_⟩
    · rcases hrow.2 with ⟨rfl, rfl, _⟩ | ⟨b, cap, rest, rfl, hc, _⟩
      · simp [Builtin.append_, run_underlying hT, sizeOf, typeInfo, hi, Builtin.lenOf, Builtin.firstCells]
      · simp [Builtin.append_, run_underlying hT, sizeOf, typeInfo, hi, Builtin.lenOf, Builtin.firstCells, hc, storeCells]
    · rw [← hp, upd_self]; exact hm
  | some ad =>
    have hnews : ∀ j u, ys[j]? = some u → w.cell? (ad.add j) = some u := fun j u hj => by
      obtain ⟨b, o, e, hc⟩ := hrdw j u hj
      simp only [Option.some.injEq] at e; subst e
      rw [add_none]; exact hc
    have hcap := grownCap_ge w (k + m)
    -- behind a growth
    have grown : ∀ (old : Nat), Mem w0 olds (upd l idx (some (w.heap.size, blk (xs ++ ys ++ (Builtin.zeroCells z.cells (grownCap w (k + m) old E - (k + m))).toList) E)))
        (w.drew.alloc (.cells (xs.toArray ++ ys.toArray ++ Builtin.zeroCells z.cells (grownCap w (k + m) old E - (k + m))) E)) := fun old =>
      hm.renew idx rfl rfl rfl (by simp) (Nat.le_refl _) (by
        have := heap_alloc_new w.drew (.cells (xs.toArray ++ ys.toArray ++ Builtin.zeroCells z.cells (grownCap w (k + m) old E - (k + m))) E)
        simp only [blk]
        refine this.trans ?_
        congr 2
        apply Array.ext'
        simp) (fun j hj => RowKit.Below.heap_alloc w.drew _ j hj)
    have growE : ∀ (old : Nat), RowE (.slice (some ⟨w.heap.size, 0, none⟩) (k + m) (grownCap w (k + m) old E)) E i.size (k + m) (xs ++ ys)
        (some (w.heap.size, blk (xs ++ ys ++ (Builtin.zeroCells z.cells (grownCap w (k + m) old E - (k + m))).toList) E)) := fun old => by
      have hge := grownCap_ge w (k + m) old E
      have hml := grownCap_le_maxLen w (k + m) old E (by simpa [maxLen] using hkm)
      refine ⟨by rw [List.length_append, hrow.1, hyl, Nat.add_mul], .inr ⟨_, _, _, rfl, hge, by simpa [maxLen] using hml, ?_, rfl⟩⟩
      simp only [List.length_append, Array.length_toList, size_zeroCells, hzs, hrow.1, hyl, ← Nat.add_mul]
      congr 1; omega
    rcases hrow.2 with ⟨rfl, rfl, rfl⟩ | ⟨b, cap, rest, rfl, hc, hcm, hcl, rfl⟩
    · have hxs : xs = [] := List.length_eq_zero_iff.1 (by simpa using hrow.1)
      subst hxs
      rcases Nat.eq_zero_or_pos m with rfl | hpos
      · have hys : ys = [] := List.length_eq_zero_iff.1 (by simpa using hyl)
        subst hys
        refine ⟨.slice none 0 0, w, hexec _ w ?_, none, RowE.nil E i.size, by rw [← hp, upd_self]; exact hm⟩
        simp [Builtin.append_, run_underlying hT, sizeOf, typeInfo, hi, Builtin.lenOf, Builtin.firstCells, loadCells, loadCellsFrom]
      · have hr := run_append_nil (P := P) w T ty E i z hT hi hz ad m c ys hyl hnews hpos (by omega) (by simp only [Nat.zero_add] at hb; omega)
        have g1 := grown 0; have g2 := growE 0
        simp only [Nat.zero_add, List.nil_append, Array.empty_append] at g1 g2 ⊢
        exact ⟨_, _, hexec _ _ hr, _, g2, g1⟩
    · have hbk := hm.at hp
      by_cases hroom : k + m ≤ cap
      · have hfit : k * i.size + ys.length ≤ (xs ++ rest).toArray.size := by
          simp only [List.size_toArray, hcl, hyl, ← Nat.add_mul]; exact Nat.mul_le_mul_right _ hroom
        have hr := run_append_room (P := P) w T ty E i hT hi b k cap _ hbk ad m c ys hyl hnews h1 hroom hfit
        have hx1 : (xs ++ rest).take (k * i.size) = xs := by rw [← hrow.1]; exact List.take_left
        have hx2 : (xs ++ rest).drop (k * i.size + ys.length) = rest.drop ys.length := by rw [← hrow.1, ← List.drop_drop, List.drop_left]
        simp only [hx1, hx2] at hr
        refine ⟨_, _, hexec _ _ hr, some (b, blk (xs ++ ys ++ rest.drop ys.length) E), ⟨by rw [List.length_append, hrow.1, hyl, Nat.add_mul], .inr ⟨b, cap, rest.drop ys.length, rfl, hroom, hcm, ?_, rfl⟩⟩, ?_⟩
        · simp only [List.size_toArray] at hfit
          simp only [List.length_append, List.length_drop] at hcl hfit ⊢
          have := hrow.1
          omega
        · refine hm.put hp rfl rfl rfl (by simp) ?_ (fun j _ hj => setRow_other w b j _ hj)
          exact setRow_heap w b _ _ E _ hbk
      · have holds : ∀ j u, xs[j]? = some u → w.cell? ((⟨b, 0, none⟩ : Addr).add j) = some u := fun j u hj => by
          rw [add_none, Nat.zero_add, hm.cellAt hp, List.getElem?_append_left (List.getElem?_eq_some_iff.1 hj).1]; exact hj
        have hr := run_append_grow (P := P) w T ty E i z hT hi hz ⟨b, 0, none⟩ k cap xs hrow.1 holds ad m c ys hyl hnews (by omega) (by omega) (growslice_fits (by omega) hb)
        exact ⟨_, _, hexec _ _ hr, _, growE cap, grown cap⟩
end
end Go.Sx
end
section
namespace Go.Sx
variable [Gnd]
section
variable {P : Program}
variable {n : Nat} {F : Fr} {S : World → Prop} {ty : TypeId}
theorem val_neq_agg {T V : TypeId} {x y : Operand} {xs ys : Array Value} {b : Bool} (hx : ev F x = some (.agg xs)) (hy : ev F y = some (.agg ys)) (hg : P.eqGuardType P.depth T = false)
    (he : ∀ w, (Op.equalIn (9999 + 1) T (.agg xs) (.agg ys)).run P w = .ok b w) : Val P n F S (.binOp .neq T x y V) ty (.bool (!b)) :=
  bin_ok hx hy (fun w => run_eqGuard_agg w .neq T x y xs ys hg) fun w => by rw [run_neq_struct]; rw [show (10000 : Nat) = 9999 + 1 from rfl, he w]; rfl
theorem val_build {T : TypeId} {parts : Array (Nat × Operand)} {vs : List (Nat × Value)} {cells : Array Value} (hv : ∀ a, Fits n F a → (parts.map fun (i, x) => (i, a.eval x)) = vs.toArray)
    (hb : P.built T vs = some cells) : Val P n F S (.build T parts) ty (.agg cells) :=
  fun s w hf _ d ps af g => by
    have h1 := run_build (P := P) w T vs.toArray cells hb
    simp only [execOp, hv s hf, Sem.run_bind, h1, Result.andThen_ok, Sem.run_pure]
def evp (F : Fr) : List (Nat × Operand) → Option (List (Nat × Value))
  | [] => some []
  | (i, x) :: r => match ev F x, evp F r with
    | some v, some vs => some ((i, v) :: vs)
    | _, _ => none
theorem evp_eval {F : Fr} {a : Act} (hf : Fits n F a) : ∀ {xs : List (Nat × Operand)} {vs : List (Nat × Value)}, evp F xs = some vs → xs.map (fun p => (p.1, a.eval p.2)) = vs
  | [], vs, h => by simp [evp] at h; subst h; rfl
  | (i, x) :: r, vs, h => by
    simp only [evp] at h
    split at h
    · rename_i v us hv hu
      simp only [Option.some.injEq] at h; subst h
      simp [ev_eval hf hv, evp_eval hf hu]
    · cases h
theorem acts_buildSlice {T E : TypeId} {len size : Nat} {parts : List (Nat × Operand)} {vs : List (Nat × Value)} {z : Value} {cs : List Value} {w0 : World} {olds : List Nat} {l : List Ent} (hT : P.underlying T = some (.slice E)) (hS : ∀ w, (sizeOf E).run P w = .ok size w)
    (hz : ∀ w, (zeroValue E).run P w = .ok z w) (hv : evp F parts = some vs) (hsm : Nat.ble (len * size) 16777216 = true)
    (hfill : Instr.fill (fun i => some (i * size, size)) ((Array.range (len * size)).map ((if len * size = 0 then #[] else z.cells)[· % (if len * size = 0 then #[] else z.cells).size]!)) vs = some cs.toArray) :
    Acts P n F (Mem w0 olds l) (.buildSlice T len parts.toArray) ty (fun w u w' => u = .slice (some ⟨w.heap.size, 0, none⟩) len len ∧ Mem w0 olds (some (w.heap.size, blk cs E) :: l) w') :=
  fun s w hf hm d ps af g => by
    have h1 : ¬ (len * size > 2 ^ 24) := by have := Nat.le_of_ble_eq_true hsm; omega
    have h2 : (parts.toArray.map fun (i, x) => (i, s.eval x)).toList = vs := by
      have := evp_eval hf hv
      simpa using this
    refine ⟨_, w.alloc (.cells cs.toArray E), ?_, rfl, by have := hm.alloc (blk cs E); simpa [blk] using this⟩
    by_cases h0 : len * size = 0
    · simp only [h0, if_true] at hfill
      simp only [execOp, Instr.buildSlice, Sem.run_bind, run_underlying hT, hS, Result.andThen_ok, h1, if_false]
      simp only [h0, if_true, pure_bind]
      rw [h2, hfill]
      simp [newRow]
    · simp only [h0, if_false] at hfill
      simp only [execOp, Instr.buildSlice, Sem.run_bind, run_underlying hT, hS, Result.andThen_ok, h1, if_false]
      simp only [h0, if_false, bind_assoc, pure_bind, Sem.run_bind, hz, Result.andThen_ok]
      rw [h2, hfill]
      simp [newRow]
end
end Go.Sx
end
section
namespace Go.Sx
variable [Gnd]
section
variable {P : Program} [C : Co P] {n : Nat} {F : Fr} {S : World → Prop} {ty : TypeId}
theorem lw_call_pure {l : List Oper} {late : List Nat} {listed : Array Bool} {Q : Po} {r : List (Nat × Nat)} {i t : Nat} {op : Op} {ps : String} {af : Array Edge} {w0 : World} {olds : List Nat} {m : List Ent} {f : FuncId} {args : Array Value} {v : Value}
    (ho : nth l i = some ⟨some t, op, ty, ps, af, none⟩) (hv : CallsTo P n F (Mem w0 olds m) op ty f args) (ht : Nat.blt t n = true)
    (hc : ∀ w, Mem w0 olds m w → CallV P f args w fun e w' => ∃ u, e = .returned u ∧ u = v ∧ Mem w [] [] w')
    (h : LW P n l (Mem w0 olds m) late r (listed.setIfInBounds i true) ((t, v) :: F) (Mem w0 olds m) Q) (hT : Tame P n F op ty := by infer_instance) : LW P n l (Mem w0 olds m) late ((i, 2) :: r) listed F (Mem w0 olds m) Q :=
  lw_call (hT := hT) (fun _ u w' => u = v ∧ Mem w0 olds m w') ho hv ht (fun _ hm => (hc _ hm).mono fun _ _ ⟨u, he, hu, hm'⟩ => ⟨u, he, hu, hm.call0 hm'⟩) (fun _ _ _ _ _ hr => hr.2)
    (fun _ u hm a w' hf ⟨u_, ⟨hu, hm'⟩, hr_⟩ => by subst hu; exact h a w' hf ⟨u_, hm', hr_⟩)
omit C in
/-- A literal of a struct or an array. -/
theorem val_build' {T : TypeId} {parts : List (Nat × Operand)} {vs : List (Nat × Value)} {cs : List Value} (hv : evp F parts = some vs) (hb : P.built T vs = some cs.toArray) : Val P n F S (.build T parts.toArray) ty (.agg cs.toArray) :=
  val_build (fun a hf => by have := evp_eval hf hv; simp only [List.map_toArray]; rw [← this]) hb
end
end Go.Sx
end
section
namespace Go.Sx
variable [Gnd]
open Go.Conc Go.Proofs
def Cel (a : Addr) (x : Value) (v : World) : Prop := v.cell? a = some x
instance (a : Addr) (x : Value) : Stb (Cel a x) := ⟨fun {v v₁} h hr => by
  unfold Cel World.cell? at *
  cases hb : v.heap[a.block]? with
  | none => rw [hb] at h; cases h
  | some o => rw [hr.heap _ o hb]; rw [hb] at h; exact h⟩
def vEnded : Value := .iface 95 (.agg #[])
theorem OkF.of {P : Program} {t ft : TypeId} {fs : Array Field} {f : Field} {i m : Nat} (h : P.underlying t = some (.struct fs)) (hf : fs[i]? = some f) (ht : f.type = ft) (hs : ∀ w, (sizeOf ft).run P w = .ok (m + 1) w) : OkF P t i :=
  ⟨fun fs' f' h' hf' x' hx' h0 => by
    rw [h] at h'; cases h'; rw [hf] at hf'; cases hf'; rw [ht] at hx'
    have := hs (default : World)
    have e : (sizeOf ft).run P (default : World) = .ok x'.size default := by
      show Sem.run P (((match P.info? ft with | some i => pure i | none => stuck "no such type" : Sem TypeInfo) >>= fun i => pure i.size)) _ = _
      rw [hx']; rfl
    rw [e, h0] at this
    cases this⟩
instance : OkF Try.prog 48 2 := OkF.of Try.underlying48 rfl rfl Try.sizeOf3
set_option maxRecDepth 100000 in
theorem wait_rest [Co Try.prog] {b : Nat} {k : Int} {F : Fr} {M : World → Prop} [Stb M] (h0 : look F 0 = some (.pointer (some ⟨b, 0, none⟩))) (hM : ∀ v, M v → Cel ⟨b, 2, none⟩ (vInt k) v) :
    SW Try.prog 17 Go.Bt.rest27 F M (fun e _ w => match e with
      | .normal => k ≠ -1 ∧ M w
      | .panic ch => k = -1 ∧ ch = [{ v := vEnded, recovered := false }] ∧ M w
      | _ => False) := by
  show SW Try.prog 17 (Code.seq (Code.region 1 _ false) (Code.cond (.tmp 14) (Code.region 2 _ false) .skip)) F _ _
  refine sw_seq ?_
  refine sw_region ?_
  refine ow_val (val_move (v := .pointer (some ⟨b, 0, none⟩)) (by exact h0)) rfl ?_
  refine ow_val (val_nilCheck (a := ⟨b, 0, none⟩) rfl) rfl ?_ (tame_nilCheck rfl)
  refine ow_val (val_fieldAddr (b := b) (o := 0) rfl Try.underlying48 rfl rfl Try.sizeOf3 rfl) rfl ?_
  refine ow_val (val_load rfl Try.isAgg3 (v := vInt k) (fun w h => hM w h)) rfl ?_
  refine ow_val (val_eql_int rfl rfl) rfl ?_ (tame_int rfl rfl)
  refine ow_nil fun w hw => ?_
  show SW _ _ _ _ _ _
  refine SW.weaken (M' := M) (G := [(14, .bool (decide (k = -1)))]) ⟨rfl, trivial⟩ (fun v hv => hv ▸ hw) ?_
  refine sw_if rfl (fun hk => ?_) (fun hk => sw_skip fun v hv => ⟨hk, hv⟩)
  refine sw_region ?_
  refine ow_val (v := .agg #[]) (val_build' (parts := []) (vs := []) (cs := []) rfl (by kernel_rfl)) rfl ?_
  refine ow_val (v := vEnded) (fun a w hf _ d ps af g => ?_) rfl ?_
  · have := ev_eval hf (x := .tmp 15) (v := .agg #[]) rfl
    unfold execOp
    simp only [this]
    simp [go_sem, vEnded]
  exact ow_panic (panics_panic rfl) (tame_panic rfl) fun v hv => ⟨hk, rfl, hv⟩
instance stb_rv (v0 : World) : Stb (fun v => RV v0 v) := ⟨fun h hr => h.trans hr⟩
end Go.Sx
end
section
namespace Go.Bt
variable [Gnd]
open Go.Conc Go.ConcN Go.RowKit Go.Proofs
open Go.Sx (Rly RV pz pzo pz_heap spec isWg Gud Co Cel vEnded wait_rest Fits Lf re_go re_back stepG_fall res_none DD)
theorem RS.refl (w : World) : RS w w := fun _ _ h _ => h
theorem tr_pz {e : Ent} {y : Value} {w : World} (h : TR e y w) : Cel ⟨e.T, 2, none⟩ y (pz w) := by
  unfold Cel World.cell?
  rw [pz_heap, show w.heap[e.T]? = _ from h]
  rfl
/-- Behind the store: it returns, or unwinds. -/
theorem wait_re [C : Co Try.prog] {e : Ent} {k' : Int} {c : Frame} {cs : List Frame} {w : World} (hT : TR e (vI k') w)
    (hn : k' ≠ -1 → ∀ w₁, RV (pz w) (pz w₁) → C.Re (G (c.finish (.tuple #[])) cs) w₁) (hg : k' = -1 → ∀ w₁, RV (pz w) (pz w₁) → C.Re (G (c.raise [{ v := vEnded, recovered := false }]) cs) w₁) : C.Re (wrec2 e k' c cs) w := by
  unfold wrec2
  refine re_go rfl (fun _ => stepG_region_end) ?_
  have hf : Fits 17 [(0, .pointer (some ⟨e.T, 0, none⟩))] (⟨#[vPtr e.T, undef, vPtr e.T, vPtr e.T, vPtr e.T, .pointer (some ⟨e.T, 0, none⟩), vCh e.gr, vI k', vPtr e.T, .pointer (some ⟨e.T, 2, none⟩), undef, undef, undef, undef, undef, undef, undef], []⟩ : Act) :=
    ⟨rfl, rfl, fun t v h => by
      simp only [Go.Sx.look] at h
      cases t with
      | zero => simpa [vPtr] using h
      | succ t => cases h⟩
  refine wait_rest (b := e.T) (k := k') (M := fun v => RV (pz w) v) rfl (fun v hv => Go.Sx.Stb.stb (tr_pz hT) hv) _ w hf ⟨_, RV.refl _, RV.refl _⟩ (base 27) [] (c :: cs) (by decide) ?_
  rintro ex a' w₁ ⟨F', hf', v, hq, hr⟩
  cases ex with
  | normal =>
    obtain ⟨h1, h2⟩ := hq
    refine re_go rfl (fun _ => stepG_end) (re_back (v := .tuple #[]) Try.func27 rfl hf'.defers (fun w₂ _ => ⟨#[], by rw [res_none rfl]; rfl, DD.good (Go.Sx.Gud.refl _)⟩) (hn h1 w₁ (h2.trans hr)))
  | panic ch =>
    obtain ⟨h1, h3, h2⟩ := hq
    subst h3
    exact fun todo => re_go rfl (fun w => stepG_fall Try.func27 hf'.defers) (hg h1 w₁ (h2.trans hr))
  | _ => exact hq.elim
/-- ████ WHERE IT GOES ON BEHIND A WAIT. ████ -/
theorem wait_home {Wg : Nat} {c : Cl} {i : Nat} {e : Ent} {bo : Nat} {k : Int} {v : World} (cc : Frame) (cs : List Frame)
    (hn : ∀ (kn : Nat) (w' w'' : World), Own e bo w'' → Rsm c i k v kn (pz w') → RV ((pz w').setCell (cT e 2) (vI kn)) (pz w'') → RSx e w' w'' → TR e (vI kn) w'' → (∃ y, TR e y w') → ∀ w₁, RV (pz w'') (pz w₁) → (coAct Try.prog Wg c i e bo ((kn : Int), w'')).Re (G (cc.finish (.tuple #[])) cs) w₁)
    (hg : ∀ (w' w'' : World), Own e bo w'' → Kept c v (pz w') → RV ((pz w').setCell (cT e 2) (vI (-1))) (pz w'') → RSx e w' w'' → TR e (vI (-1)) w'' → ∀ w₁, RV (pz w'') (pz w₁) → (coAct Try.prog Wg c i e bo (-1, w'')).Re (G (cc.raise [{ v := vEnded, recovered := false }]) cs) w₁) :
    Home Try.prog c i e bo (JJ Try.prog Wg c i e bo) k v (wrec e cc cs) := fun k' w' hR hT hS hP => by
  refine wait_back e cc cs hT (fun w'' h1 h2 h3 => ?_)
  have hO2 : Own e bo w'' := let ⟨y, hy⟩ := hT; Own.of hS hP hy h2 h3
  have := @wait_re _ (coAct Try.prog Wg c i e bo (k', w'')) e k' cc cs w'' h3 (fun hk w₁ hr => ?_) (fun hk w₁ hr => ?_)
  · exact this w'' (Rly.refl _) (RS.refl _) hO2
  · rcases hR.2 with h4 | ⟨kn, rfl, h4⟩
    · exact absurd h4 hk
    · exact hn kn w' w'' hO2 hR h1 h2 h3 hT w₁ hr
  · subst hk
    exact hg w' w'' hO2 hR.1 h1 h2 h3 w₁ hr
end Go.Bt
end
