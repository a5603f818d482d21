/- A PLAY OF THE BATON: what the row rests on. -/
import Derived.Test.YtjiajflhfnmkmaaOAlone
set_option linter.unusedVariables false
set_option linter.unusedSimpArgs false
set_option linter.unusedSectionVars false
section
namespace Go.Bt
variable [Gnd]
open Go.Conc Go.ConcN Go.RowKit Go.Proofs
def stillN (mv : Nat → Bool) : Nat → Nat
  | 0 => 0
  | j + 1 => if mv j then 0 else stillN mv j + 1
def mvC (mv : Nat → Bool) : Nat → Nat
  | 0 => 0
  | j + 1 => mvC mv j + (if mv j then 1 else 0)
def cl0 (mv : Nat → Bool) : Cl := { n := 0, K := 0, who := fun _ => 0, over := fun _ _ => false, moved := mv, Sh := fun _ _ => True, foot := fun _ _ => False, Rt := fun _ => True, n0 := 0 }
theorem calm_still (mv : Nat → Bool) : ∀ j, calmQ (cl0 mv) 0 j = stillN mv j
  | 0 => rfl
  | j + 1 => by
    show (if mv (0 + j) then 0 else calmQ (cl0 mv) 0 j + 1) = _
    rw [Nat.zero_add, calm_still mv j]; rfl
theorem stop_still (mv : Nat → Bool) (n f : Nat) (hf : f = 100000) : (∀ i, i < stopJ mv n f 0 0 → stillN mv i < n) ∧ ¬ (stopJ mv n f 0 0 < 100000 ∧ stillN mv (stopJ mv n f 0 0) < n) := by
  obtain ⟨h1, h2, _⟩ := stop_all mv n 0 (cl0 mv) (fun j => by rw [Nat.zero_add]; rfl) f hf
  refine ⟨fun i hi => ?_, fun h => h2 ⟨h.1, ?_⟩⟩
  · rw [← calm_still]; exact (h1 i hi).2
  · rw [calm_still]; exact h.2
theorem still_le (mv : Nat → Bool) : ∀ j, stillN mv j ≤ j
  | 0 => Nat.le_refl _
  | j + 1 => by
    have := still_le mv j
    simp only [stillN]; split <;> omega
theorem still_bound {mv : Nat → Bool} {n : Nat} : ∀ j, (∀ i, i < j → stillN mv i < n) → j ≤ n * mvC mv j + stillN mv j
  | 0, _ => Nat.zero_le _
  | j + 1, h => by
    have h1 := still_bound j fun i hi => h i (by omega)
    have h2 := h j (by omega)
    simp only [stillN, mvC]
    cases mv j with
    | true => simp only [if_true]; rw [Nat.mul_add]; omega
    | false => simp only [Bool.false_eq_true, if_false, Nat.add_zero]; omega
theorem still_last {mv : Nat → Bool} : ∀ (j i : Nat), j ≤ i + stillN mv j → i < j → mv i = false
  | 0, i, _, h => by omega
  | j + 1, i, h1, h2 => by
    simp only [stillN] at h1
    cases e : mv j with
    | true => rw [e] at h1; simp only [if_true] at h1; omega
    | false =>
      rw [e] at h1; simp only [Bool.false_eq_true, if_false] at h1
      by_cases hij : i = j
      · rw [hij]; exact e
      · exact still_last j i (by omega) (by omega)
/-- How far an actor is from its end. -/
def pot (L : Nat) (c : Ac) : Nat := if c.over = true then 0 else if c.pl < 0 then L + 1 else if c.waits = true then L - c.pl.toNat else L + 1 - c.pl.toNat
theorem runL_pot (a k : Int) : ∀ (l : List Ins) (j : Nat) (B : Bd), pot (j + l.length) (runL a k l j B).1 ≤ l.length
  | [], j, B => by simp [runL, pot]
  | o :: r, j, B => by
    have hr : ∀ B', pot (j + (o :: r).length) (runL a k r (j + 1) B').1 ≤ (o :: r).length := fun B' => by
      have := runL_pot a k r (j + 1) B'
      rw [show j + 1 + r.length = j + (o :: r).length by simp only [List.length_cons]; omega] at this
      simp only [List.length_cons] at this ⊢; omega
    have hj : ¬ ((j : Int) < 0) := by omega
    have hj1 : ¬ ((j : Int) + 1 < 0) := by omega
    have e1 : ((j : Int) + 1).toNat = j + 1 := by omega
    unfold runL
    split
    · exact hr _
    split
    · exact hr _
    split
    · simp only [pot, Bool.false_eq_true, if_false, if_neg hj1, e1, List.length_cons]; omega
    split
    · split
      · simp only [pot, Bool.false_eq_true, if_false, if_neg hj, if_true, Int.toNat_natCast, List.length_cons]; omega
      · simp [pot]
      · exact hr _
    split
    · simp [pot]
    · exact hr _
theorem runL_pot' (a k : Int) {p : List Ins} {j : Nat} (hj : j ≤ p.length) (B : Bd) : pot p.length (runL a k (p.drop j) j B).1 ≤ p.length - j := by
  have h := runL_pot a k (p.drop j) j B
  rw [List.length_drop, show j + (p.length - j) = p.length by omega] at h
  exact h
theorem acPick_pot (a k : Int) {p : List Ins} {c : Ac} (B : Bd) (h : AcOk p c) : pot p.length (acPick a k p c B).1 ≤ pot p.length c ∧ ((acPick a k p c B).2.2 = true → pot p.length (acPick a k p c B).1 + 1 ≤ pot p.length c) := by
  unfold acPick
  split
  · exact ⟨Nat.le_refl _, fun h => by cases h⟩
  rename_i ho
  split
  · rename_i hp
    have := runL_pot' a k (p := p) (Nat.zero_le _) B
    rw [List.drop_zero] at this
    rw [show pot p.length c = p.length + 1 from by unfold pot; rw [if_neg ho, if_pos hp]]
    exact ⟨by show pot _ (runL a k p 0 B).1 ≤ _; omega, fun _ => by show pot _ (runL a k p 0 B).1 + 1 ≤ _; omega⟩
  rename_i hp
  have hle := h.le
  split
  · rename_i hw
    have hpc : pot p.length c = p.length - c.pl.toNat := by unfold pot; rw [if_neg ho, if_neg hp, if_pos hw]
    have hlt := h.waits hw (by simpa using ho)
    split
    · exact ⟨Nat.le_refl _, fun h => by cases h⟩
    · rename_i o hgo
      cases e : rdyA a k o B with
      | no => exact ⟨Nat.le_refl _, fun h => by cases h⟩
      | broken => rw [hpc]; simp only [pot, if_true]; omega
      | yes =>
        have := runL_pot' a k (p := p) (j := c.pl.toNat + 1) (by omega) (rdyB a k o B)
        rw [hpc]
        exact ⟨by show pot _ (runL a k _ _ _).1 ≤ _; omega, fun _ => by show pot _ (runL a k _ _ _).1 + 1 ≤ _; omega⟩
  · rename_i hw
    have hpc : pot p.length c = p.length + 1 - c.pl.toNat := by unfold pot; rw [if_neg ho, if_neg hp, if_neg hw]
    have := runL_pot' a k (p := p) (j := c.pl.toNat) (by omega) B
    rw [hpc]
    exact ⟨by show pot _ (runL a k _ _ _).1 ≤ _; omega, fun _ => by show pot _ (runL a k _ _ _).1 + 1 ≤ _; omega⟩
def sumTo (f : Nat → Nat) : Nat → Nat
  | 0 => 0
  | n + 1 => sumTo f n + f n
theorem sumTo_le {f g : Nat → Nat} : ∀ n, (∀ i, i < n → g i ≤ f i) → sumTo g n ≤ sumTo f n
  | 0, _ => Nat.le_refl _
  | n + 1, h => by
    have := sumTo_le n fun i hi => h i (by omega)
    have := h n (by omega)
    simp only [sumTo]; omega
theorem sumTo_one {f g : Nat → Nat} {a d : Nat} : ∀ n, a < n → (∀ i, i < n → i ≠ a → g i ≤ f i) → g a + d ≤ f a → sumTo g n + d ≤ sumTo f n
  | 0, h, _, _ => by omega
  | n + 1, h, h1, h2 => by
    simp only [sumTo]
    by_cases ha : a = n
    · subst ha
      have := sumTo_le a fun i hi => h1 i (by omega) (by omega)
      omega
    · have := sumTo_one n (by omega) (fun i hi => h1 i (by omega)) h2
      have := h1 n (by omega) (fun h => ha h.symm)
      omega
theorem sumTo_range (f : Nat → Nat) : ∀ n, sumTo f n = ((List.range n).map f).sum
  | 0 => rfl
  | n + 1 => by rw [List.range_succ, List.map_append, List.sum_append, ← sumTo_range f n]; simp [sumTo]
theorem sumTo_list (ps : List (List Ins)) : sumTo (fun i => (ps.getD i []).length) ps.length = (ps.map List.length).sum := by
  rw [sumTo_range]
  congr 1
  apply List.ext_getElem
  · simp
  · intro i h1 h2
    simp only [List.length_map, List.length_range] at h1
    simp [List.getD_eq_getElem?_getD, h1]
theorem sumTo_add (f : Nat → Nat) (d : Nat) : ∀ n, sumTo (fun i => f i + d) n = sumTo f n + n * d
  | 0 => by simp [sumTo]
  | n + 1 => by rw [sumTo, sumTo, sumTo_add f d n, Nat.succ_mul]; omega
section
variable {ps : List (List Ins)} {qs : List Int}
def potN (ps : List (List Ins)) (qs : List Int) (k : Nat) : Nat := sumTo (fun i => pot (ps.getD i []).length (acN ps qs i k)) ps.length
theorem acN_ok (hn : 0 < ps.length) {i : Nat} (hi : i < ps.length) (k : Nat) : AcOk (ps.getD i []) (acN ps qs i k) := by
  have h := mac_ok (qs := qs) hn k
  have hlt : i < (macN ps qs k).acs.length := by rw [(mac_len hn k).1]; exact hi
  have e : (macN ps qs k).acs[i]? = some (acN ps qs i k) := by unfold acN; rw [List.getElem?_eq_getElem hlt]; rfl
  exact ⟨h.fresh i _ e, h.le i _ e, h.waits i _ e⟩
theorem phi_step (hn : 0 < ps.length) (k : Nat) : potN ps qs (k + 1) + (if movedN ps qs k then 1 else 0) ≤ potN ps qs k := by
  have hw := whoOf_lt hn qs k
  refine sumTo_one (a := whoOf ps.length qs k) ps.length hw (fun i hi hne => ?_) ?_
  · show pot _ (acN ps qs i (k + 1)) ≤ _
    rw [ac_other hn (fun h => hne h.symm)]; exact Nat.le_refl _
  · show pot _ (acN ps qs _ (k + 1)) + _ ≤ _
    rw [ac_step hn k]
    obtain ⟨h1, h2⟩ := acPick_pot (whoOf ps.length qs k) k (macN ps qs k).bd (acN_ok (qs := qs) hn hw k)
    cases e : movedN ps qs k with
    | false => simpa using h1
    | true => simpa using h2 e
theorem phi_zero (ps : List (List Ins)) (qs : List Int) : potN ps qs 0 ≤ (ps.map List.length).sum + ps.length := by
  rw [← sumTo_list, show sumTo (fun i => (ps.getD i []).length) ps.length + ps.length = sumTo (fun i => (ps.getD i []).length + 1) ps.length by rw [sumTo_add]; omega]
  refine sumTo_le _ fun i _ => ?_
  show pot _ (acN ps qs i 0) ≤ _
  rw [ac_zero]; simp [pot]
theorem phi_calm (hn : 0 < ps.length) (len : Nat) : ∀ j, potN ps qs (len + j) + mvC (fun j => movedN ps qs (len + j)) j ≤ potN ps qs len
  | 0 => by simp [mvC]
  | j + 1 => by
    have h1 := phi_calm hn len j
    have h2 := phi_step (qs := qs) hn (len + j)
    simp only [mvC]
    rw [show len + (j + 1) = len + j + 1 from rfl]
    omega
theorem phi_le (hn : 0 < ps.length) : ∀ k, potN ps qs k ≤ (ps.map List.length).sum + ps.length
  | 0 => phi_zero ps qs
  | k + 1 => by
    have := phi_le hn k
    have := phi_step (qs := qs) hn k
    omega
/-- Where calm ends. -/
theorem calm_end (hF : Fit ps qs) (hn : 0 < ps.length) : (∀ i, i < calmJ ps qs true → stillN (fun j => movedN ps qs (qs.length + j)) i < ps.length) ∧ stillN (fun j => movedN ps qs (qs.length + j)) (calmJ ps qs true) = ps.length ∧ ps.length ≤ calmJ ps qs true := by
  obtain ⟨h1, h2⟩ := stop_still (fun j => movedN ps qs (qs.length + j)) ps.length _ rfl
  have e : calmJ ps qs true = stopJ (fun j => movedN ps qs (qs.length + j)) ps.length 100000 0 0 := by unfold calmJ; rw [if_pos rfl]
  rw [← e] at h1 h2
  have h3 := still_bound _ h1
  have h4 := phi_calm (qs := qs) hn qs.length (calmJ ps qs true)
  have h5 := phi_le (qs := qs) hn qs.length
  have h6 : stillN (fun j => movedN ps qs (qs.length + j)) (calmJ ps qs true) ≤ ps.length := by
    cases eJ : calmJ ps qs true with
    | zero => exact Nat.zero_le _
    | succ J =>
      have := h1 J (by omega)
      simp only [stillN]; split <;> omega
  have h7 := still_le (fun j => movedN ps qs (qs.length + j)) (calmJ ps qs true)
  have h8 : ps.length * mvC (fun j => movedN ps qs (qs.length + j)) (calmJ ps qs true) ≤ 40 * 2040 := Nat.mul_le_mul hF.n (by have := hF.s; have := hF.n; omega)
  have hn40 := hF.n
  have h9 : ¬ stillN (fun j => movedN ps qs (qs.length + j)) (calmJ ps qs true) < ps.length := fun h => h2 ⟨by omega, h⟩
  exact ⟨h1, by omega, by omega⟩
end
end Go.Bt
end
section
namespace Go.Bt
variable [Gnd]
open Go.Conc Go.ConcN Go.RowKit Go.Proofs
def insFree (o : Ins) : Bool := o.1 == 1 || o.1 == 9 || o.1 == 2 || o.1 == 5
def insW (o : Ins) : Nat := if o.1 = 1 ∨ o.1 = 9 then 1 else 0
def wants : List Ins → Nat
  | [] => 0
  | o :: r => insW o + wants r
def remN (p : List Ins) (c : Ac) : Nat := if c.over = true then 0 else if c.pl < 0 then wants p else wants (p.drop c.pl.toNat)
theorem wrote_note (B : Bd) (a x k i : Int) : wroteN (B.note a x k).notes i = wroteN B.notes i + (if a = i then 1 else 0) := by
  unfold wroteN Bd.note
  rw [List.filter_append, List.length_append]
  by_cases h : a = i
  · subst h; simp
  · simp [h]
theorem runL_free (a k : Int) {p : List Ins} : ∀ (l : List Ins) (j : Nat) (B : Bd), p.drop j = l → (l.all insFree = true) →
    remN p (runL a k l j B).1 + wroteN (runL a k l j B).2.notes a = wants l + wroteN B.notes a ∧ (runL a k l j B).1.waits = false
  | [], j, B, _, _ => by simp [runL, remN, wants]
  | o :: r, j, B, hl, hf => by
    have hr : p.drop (j + 1) = r := by rw [← List.drop_drop, hl]; rfl
    rw [List.all_cons, Bool.and_eq_true] at hf
    have hj1 : ¬ ((j : Int) + 1 < 0) := by omega
    have e1 : ((j : Int) + 1).toNat = j + 1 := by omega
    have hfo := hf.1
    unfold insFree at hfo
    simp only [Bool.or_eq_true, beq_iff_eq] at hfo
    unfold runL
    split
    · rename_i h
      obtain ⟨i1, i2⟩ := runL_free a k r (j + 1) (B.note a o.2 k) hr hf.2
      rw [wrote_note, if_pos rfl] at i1
      refine ⟨?_, i2⟩
      rw [i1, wants, insW, if_pos (Or.inl h)]; omega
    split
    · rename_i h
      obtain ⟨i1, i2⟩ := runL_free a k r (j + 1) (B.note a k k) hr hf.2
      rw [wrote_note, if_pos rfl] at i1
      refine ⟨?_, i2⟩
      rw [i1, wants, insW, if_pos (Or.inr h)]; omega
    have hw0 : insW o = 0 := by unfold insW; rw [if_neg]; rintro (h | h) <;> contradiction
    split
    · refine ⟨?_, rfl⟩
      simp only [remN, Bool.false_eq_true, if_false, if_neg hj1, e1, hr, wants, hw0]; omega
    have h5 : o.1 = 5 := by
      rcases hfo with ((h | h) | h) | h <;> first | contradiction | exact h
    have hu : isUntil o.1 = true := by rw [h5]; rfl
    have hy : rdyA a k o B = .yes := by unfold rdyA; rw [h5]; rfl
    have hb : rdyB a k o B = B := by unfold rdyB; rw [h5]; rfl
    rw [if_pos hu, hy, hb]
    obtain ⟨i1, i2⟩ := runL_free a k r (j + 1) B hr hf.2
    exact ⟨by rw [show (remN p (runL a k r (j + 1) B).1 + wroteN (runL a k r (j + 1) B).2.notes a) = _ from i1, wants, hw0]; omega, i2⟩
theorem rdyB_other (a k : Int) (o : Ins) (B : Bd) {i : Int} (h : a ≠ i) : wroteN (rdyB a k o B).notes i = wroteN B.notes i := by
  unfold rdyB; split
  · rw [wrote_note, if_neg h]; rfl
  · rfl
theorem runL_other (a k : Int) {i : Int} (h : a ≠ i) : ∀ (l : List Ins) (j : Nat) (B : Bd), wroteN (runL a k l j B).2.notes i = wroteN B.notes i
  | [], j, B => rfl
  | o :: r, j, B => by
    unfold runL
    split
    · rw [runL_other a k h, wrote_note, if_neg h]; rfl
    split
    · rw [runL_other a k h, wrote_note, if_neg h]; rfl
    split
    · rfl
    split
    · split
      · exact rdyB_other a k o B h
      · exact rdyB_other a k o B h
      · rw [runL_other a k h]; exact rdyB_other a k o B h
    split
    · rfl
    · exact runL_other a k h _ _ _
theorem acPick_other (a k : Int) {i : Int} (h : a ≠ i) (p : List Ins) (c : Ac) (B : Bd) : wroteN (acPick a k p c B).2.1.notes i = wroteN B.notes i := by
  unfold acPick
  split
  · rfl
  split
  · exact runL_other a k h _ _ _
  split
  · split
    · rfl
    · split
      · exact rdyB_other a k _ B h
      · exact rdyB_other a k _ B h
      · show wroteN (runL a k _ _ _).2.notes i = _
        rw [runL_other a k h]; exact rdyB_other a k _ B h
  · exact runL_other a k h _ _ _
theorem acPick_free (a k : Int) {p : List Ins} {c : Ac} (B : Bd) (hf : p.all insFree = true) (hw : c.waits = false) :
    remN p (acPick a k p c B).1 + wroteN (acPick a k p c B).2.1.notes a = remN p c + wroteN B.notes a ∧ (acPick a k p c B).1.waits = false ∧ ((acPick a k p c B).2.2 = false → c.over = true) := by
  unfold acPick
  split
  · rename_i h; exact ⟨rfl, hw, fun _ => h⟩
  rename_i ho
  split
  · rename_i hp
    obtain ⟨i1, i2⟩ := runL_free a k (p := p) p 0 B rfl hf
    refine ⟨?_, i2, fun h => by cases h⟩
    show remN p (runL a k p 0 B).1 + wroteN (runL a k p 0 B).2.notes a = _
    rw [i1]; unfold remN; rw [if_neg ho, if_pos hp]
  rename_i hp
  rw [if_neg (by rw [hw]; simp)]
  obtain ⟨i1, i2⟩ := runL_free a k (p := p) (p.drop c.pl.toNat) c.pl.toNat B rfl (by rw [List.all_eq_true] at hf ⊢; exact fun x hx => hf x (List.mem_of_mem_drop hx))
  refine ⟨?_, i2, fun h => by cases h⟩
  show remN p (runL a k _ _ B).1 + wroteN (runL a k _ _ B).2.notes a = _
  rw [i1]; unfold remN; rw [if_neg ho, if_neg hp]
section
variable {ps : List (List Ins)} {qs : List Int}
theorem mac_free (hn : 0 < ps.length) {i : Nat} (hi : i < ps.length) (hf : (ps.getD i []).all insFree = true) : ∀ k, remN (ps.getD i []) (acN ps qs i k) + wroteN (macN ps qs k).bd.notes (i : Int) = wants (ps.getD i []) ∧ (acN ps qs i k).waits = false
  | 0 => by rw [ac_zero]; simp [remN, macN, mac0, wroteN]
  | k + 1 => by
    obtain ⟨h1, h2⟩ := mac_free hn hi hf k
    rw [bd_step hn k]
    by_cases hw : whoOf ps.length qs k = i
    · have hs := ac_step (qs := qs) hn k
      rw [hw] at hs ⊢
      rw [hs]
      obtain ⟨e1, e2, _⟩ := acPick_free (i : Int) (k : Int) (macN ps qs k).bd hf h2
      exact ⟨by rw [e1]; exact h1, e2⟩
    · rw [ac_other hn hw, acPick_other _ _ (by omega)]
      exact ⟨h1, h2⟩
theorem over_stays (hn : 0 < ps.length) {i k : Nat} (h : (acN ps qs i k).over = true) : ∀ d, (acN ps qs i (k + d)).over = true
  | 0 => h
  | d + 1 => by
    have ih := over_stays hn h d
    rw [show k + (d + 1) = k + d + 1 from rfl]
    by_cases hw : whoOf ps.length qs (k + d) = i
    · have hs := ac_step (qs := qs) hn (k + d)
      rw [hw] at hs
      rw [hs, pick_over ih]; exact ih
    · rw [ac_other hn hw]; exact ih
/-- What BatonEnds asks of each actor. -/
theorem ends_at (hF : Fit ps qs) {i : Nat} (hi : i < ps.length) (hf : (ps.getD i []).all insFree = true) : wroteN (finM ps qs true).bd.notes (i : Int) = wants (ps.getD i []) := by
  have hn : 0 < ps.length := by omega
  obtain ⟨_, hst, hle⟩ := calm_end hF hn
  have hlast := fun j h1 h2 => still_last (mv := fun j => movedN ps qs (qs.length + j)) (calmJ ps qs true) j h1 h2
  rw [hst] at hlast
  obtain ⟨h1, h2⟩ := mac_free (qs := qs) hn hi hf (qs.length + calmJ ps qs true)
  unfold finM
  generalize calmJ ps qs true = J at *
  generalize hs : J - ps.length = s at *
  have hm := Nat.mod_lt (i + ps.length - s % ps.length) hn
  have hmod : (s + (i + ps.length - s % ps.length) % ps.length) % ps.length = i := by
    rw [Nat.add_mod_mod]
    have h3 := Nat.mod_add_div s ps.length
    have h4 := Nat.mod_lt s hn
    rw [show s + (i + ps.length - s % ps.length) = i + ps.length + ps.length * (s / ps.length) by omega, Nat.add_mul_mod_self_left, Nat.add_mod_right, Nat.mod_eq_of_lt hi]
  generalize hj : s + (i + ps.length - s % ps.length) % ps.length = j at *
  have hmv := hlast j (by omega) (by omega)
  have hwho : whoOf ps.length qs (qs.length + j) = i := by
    unfold whoOf
    rw [List.getElem?_eq_none (by omega)]
    simp [hmod]
  have hov : (acN ps qs i (qs.length + j)).over = true := by
    have hmv : movedN ps qs (qs.length + j) = false := hmv
    unfold movedN at hmv
    rw [hwho] at hmv
    exact (acPick_free (i : Int) ((qs.length + j : Nat) : Int) (macN ps qs (qs.length + j)).bd hf (mac_free hn hi hf (qs.length + j)).2).2.2 hmv
  have hov2 := over_stays hn hov (J - j)
  rw [show qs.length + j + (J - j) = qs.length + J by omega] at hov2
  unfold remN at h1
  rw [if_pos hov2, Nat.zero_add] at h1
  exact h1
end
end Go.Bt
end
section
namespace Go.Bt
variable [Gnd]
open Go.Conc Go.ConcN Go.RowKit Go.Proofs
open Go.Sx (Rly RV pz pzo pz_heap spec isWg Gud Co blk RowE Rd Mem CallV vInt CallI SW Sub Stb Pt callV_of_callI callI_of_pt pt_seq pt_sw pt_true pt_false pt_cond pt_if pt_skip pt_region pt_regionEnd pt_val pt_call pt_act pt_do pt_ret pt_block pt_inBlock pt_exit pt_loop_inv val_assign val_move val_load val_load_at val_load_all val_load_elem val_build' val_len val_not val_extract val_nilCheck val_fieldAddr val_indexAddr_slice val_eql_int val_lss_int val_geq_int val_neq_int val_add_int val_gtr_int val_pick_true val_pick_false tame_nilCheck tame_int acts_box acts_alloc acts_buildSlice does_store_all callsTo ev_eval res_two res_slot Fits sw_region sw_region_lex ow_val ow_nil ow_make ow_call_pure ow_guard_yes ow_guard_no ow_guard_none lw_pure lw_held lw_nil lw_call_pure lwg_pure lwg_held lwg_call_pure lwg_no mem_of_rv pick wg)
noncomputable def c10 : Code := Try.f10.body.getD .skip
noncomputable def r10a : Code := match c10 with
  | .seq _ (.seq _ (.seq _ (.seq _ (.seq (.seq _ (.block _ (.loop (.seq _ (.seq _ (.seq (.block _ (.seq _ (.seq _ (.seq _ (.seq c _))))) _)))))) _)))) => c
  | _ => .skip
noncomputable def r10b : Code := match c10 with
  | .seq _ (.seq _ (.seq _ (.seq _ (.seq _ (.seq c _))))) => c
  | _ => .skip
theorem wants_append (l r : List Ins) : wants (l ++ r) = wants l + wants r := by
  induction l with
  | nil => simp [wants]
  | cons a l ih => simp only [List.cons_append, wants, ih]; omega
theorem wants_take {p : List Ins} {k : Nat} {y : Ins} (h : p[k]? = some y) : wants (p.take (k + 1)) = wants (p.take k) + insW y ∧ (p.take (k + 1)).all insFree = ((p.take k).all insFree && insFree y) := by
  rw [List.take_add_one, h, wants_append, List.all_append]
  simp [wants]
theorem wants_le (p : List Ins) : wants p ≤ p.length := by
  induction p with
  | nil => simp [wants]
  | cons a l ih =>
    have : insW a ≤ 1 := by unfold insW; split <;> omega
    simp only [wants, List.length_cons]; omega
section
variable {v : World} {pv : Value} {ps : List (List Ins)} {qs : List Int} {Post : Value → World → Prop}
set_option maxRecDepth 100000 in
set_option maxHeartbeats 4000000 in
theorem sw_10_3 [C : Co Try.prog] {qa : Option Addr} {cap : Nat} (hfit : ∀ w, Mem v [] [] w → CallV Try.prog 13 #[pv, .slice qa qs.length cap] w (fun r u => r = .returned (.bool (isFit ps qs)) ∧ RV w u)) (hend : ∀ w, Mem v [] [] w → CallV Try.prog 14 #[pv] w (fun r u => r = .returned (.bool (isEndless ps)) ∧ RV w u)) :
    SW Try.prog 78 (cL (cL (cR (cR c10)))) [(0, pv), (1, .slice qa qs.length cap)] (Mem v [] []) (fun ex F' w => ex = .normal ∧ Sub ((22, .bool (!isFit ps qs || isEndless ps)) :: [(0, pv), (1, .slice qa qs.length cap)]) F' ∧ Mem v [] [] w) := by
  show SW Try.prog 78 (Code.region 3 _ false) _ _ _
  refine sw_region ?_
  refine ow_val (val_move (v := pv) rfl) rfl ?_
  refine ow_val (val_move (v := .slice qa qs.length cap) rfl) rfl ?_
  refine ow_call_pure (v := .bool (isFit ps qs)) (callsTo Try.func13 rfl (by kernel_rfl) rfl) rfl (fun w hm => (hfit w hm).mono fun e u hu => ⟨_, hu.1, rfl, mem_of_rv hu.2⟩) ?_
  refine ow_val (val_not rfl) rfl ?_
  refine ow_val (val_move (v := .bool (!isFit ps qs)) rfl) rfl ?_
  generalize isFit ps qs = b1
  cases b1 with
  | false =>
    refine ow_guard_no (t := 19) rfl rfl rfl rfl rfl ?_
    refine ow_guard_no (t := 19) rfl rfl rfl rfl rfl ?_
    refine ow_val (val_pick_true (v := .bool true) rfl rfl) rfl ?_
    exact ow_nil fun w hw => ⟨rfl, ⟨rfl, rfl, rfl, trivial⟩, hw⟩
  | true =>
    refine ow_guard_yes (t := 19) rfl rfl rfl (ow_val (val_move (v := pv) rfl) rfl ?_)
    refine ow_guard_yes (t := 19) rfl rfl rfl (ow_call_pure (v := .bool (isEndless ps)) (callsTo Try.func14 rfl (by kernel_rfl) rfl) rfl (fun w hm => (hend w hm).mono fun e u hu => ⟨_, hu.1, rfl, mem_of_rv hu.2⟩) ?_)
    refine ow_val (val_pick_false (v := .bool (isEndless ps)) rfl rfl) rfl ?_
    exact ow_nil fun w hw => ⟨rfl, ⟨rfl, rfl, rfl, trivial⟩, hw⟩
set_option maxRecDepth 100000 in
set_option maxHeartbeats 4000000 in
theorem sw_10_21 [C : Co Try.prog] {sb j W N c1 : Nat} {a1 : Option Addr} {fr : Bool} {x0 x1 x6 x29 x30 : Value} (hc : v.cell? ⟨sb, 1, none⟩ = some (.slice a1 N c1)) (hcall : fr = true → ∀ w, Mem v [] [] w → CallV Try.prog 24 #[.slice a1 N c1, vI (j : Int)] w (fun r u => r = .returned (vInt W) ∧ RV w u)) :
    SW Try.prog 78 r10a [(0, x0), (1, x1), (5, vPtr sb), (6, x6), (7, vInt j), (9, vInt W), (10, .bool fr), (29, x29), (30, x30), (31, vInt j)] (Mem v [] []) (fun ex F' w => ex = .normal ∧ Sub [(63, .bool false), (0, x0), (1, x1), (5, vPtr sb), (6, x6), (29, x29), (30, x30), (31, vInt j)] F' ∧ RV v w) := by
  show SW Try.prog 78 (Code.region 21 _ false) _ _ _
  refine sw_region ?_
  refine ow_val (val_move (v := .bool fr) rfl) rfl ?_
  refine ow_val (val_move (v := .bool fr) rfl) rfl ?_
  cases fr with
  | false =>
    refine ow_guard_no (t := 54) rfl rfl rfl rfl rfl ?_
    refine ow_guard_no (t := 54) rfl rfl rfl rfl rfl ?_
    refine ow_guard_no (t := 54) rfl rfl rfl rfl rfl ?_
    refine ow_guard_no (t := 54) rfl rfl rfl rfl rfl ?_
    refine ow_guard_no (t := 54) rfl rfl rfl rfl rfl ?_
    refine ow_guard_no (t := 54) rfl rfl rfl rfl rfl ?_
    refine ow_guard_no (t := 54) rfl rfl rfl rfl rfl ?_
    refine ow_guard_no (t := 54) rfl rfl rfl rfl rfl ?_
    refine ow_val (val_pick_false (v := .bool false) rfl rfl) rfl ?_
    exact ow_nil fun w hw => ⟨rfl, ⟨rfl, rfl, rfl, rfl, rfl, rfl, rfl, rfl, trivial⟩, Mem.rv hw⟩
  | true =>
    refine ow_guard_yes (t := 54) rfl rfl rfl (ow_val (val_move (v := vPtr sb) rfl) rfl ?_)
    refine ow_guard_yes (t := 54) rfl rfl rfl (ow_val (val_nilCheck (a := ⟨sb, 0, none⟩) rfl) rfl ?_ (tame_nilCheck rfl))
    refine ow_guard_yes (t := 54) rfl rfl rfl (ow_val (val_fieldAddr (b := sb) (o := 0) (e := 1) rfl Try.underlying40 rfl rfl Try.sizeOf32 rfl) rfl ?_)
    refine ow_guard_yes (t := 54) rfl rfl rfl (ow_val (val_load rfl Try.isAgg32 (v := .slice a1 N c1) (fun w h => cell_rv' hc (Mem.rv h))) rfl ?_)
    refine ow_guard_yes (t := 54) rfl rfl rfl (ow_val (val_move (v := vInt j) rfl) rfl ?_)
    refine ow_guard_yes (t := 54) rfl rfl rfl (ow_call_pure (v := vInt W) (callsTo Try.func24 rfl (by kernel_rfl) rfl) rfl (fun w hm => (hcall rfl w hm).mono fun e u hu => ⟨_, hu.1, rfl, mem_of_rv hu.2⟩) ?_)
    refine ow_guard_yes (t := 54) rfl rfl rfl (ow_val (val_move (v := vInt W) rfl) rfl ?_)
    refine ow_guard_yes (t := 54) rfl rfl rfl (ow_val (val_neq_int (a := (W : Int)) (b := (W : Int)) rfl rfl) rfl ?_ (tame_int rfl rfl))
    rw [decide_eq_false (show ¬ (W : Int) ≠ (W : Int) from fun h => h rfl)]
    refine ow_val (val_pick_true (v := .bool false) rfl rfl) rfl ?_
    exact ow_nil fun w hw => ⟨rfl, ⟨rfl, rfl, rfl, rfl, rfl, rfl, rfl, rfl, trivial⟩, Mem.rv hw⟩
set_option maxRecDepth 100000 in
set_option maxHeartbeats 4000000 in
theorem sw_10_24 [C : Co Try.prog] {M c2 n pc q cap : Nat} {a2 pa qa : Option Addr} (hq : q ≤ 4000) (hn : n ≤ 40) (h : q + n ≤ M ∨ n = 0) :
    SW Try.prog 78 r10b [(0, .slice pa n pc), (1, .slice qa q cap), (6, .slice a2 M c2)] (Mem v [] []) (fun ex F' w => ex = .normal ∧ Sub [(4, .bool true)] F' ∧ RV v w) := by
  show SW Try.prog 78 (Code.region 24 _ false) _ _ _
  refine sw_region ?_
  refine ow_val (val_move (v := .slice a2 M c2) rfl) rfl ?_
  refine ow_val (val_len (len := M) rfl Try.underlying28) rfl ?_
  refine ow_val (val_move (v := .slice qa q cap) rfl) rfl ?_
  refine ow_val (val_len (len := q) rfl Try.underlying23) rfl ?_
  refine ow_val (val_move (v := .slice pa n pc) rfl) rfl ?_
  refine ow_val (val_len (len := n) rfl Try.underlying22) rfl ?_
  refine ow_val (val_add_int (a := (q : Int)) (b := (n : Int)) _ rfl rfl rfl (by omega)) rfl ?_ (tame_int rfl rfl)
  refine ow_val (val_geq_int (a := (M : Int)) (b := (q : Int) + n) rfl rfl) rfl ?_ (tame_int rfl rfl)
  refine ow_val (val_move (v := .bool (decide ((M : Int) ≥ (q : Int) + n))) rfl) rfl ?_
  by_cases hb : (M : Int) ≥ (q : Int) + n
  · rw [decide_eq_true hb]
    refine ow_guard_no (t := 73) rfl rfl rfl rfl rfl ?_
    refine ow_guard_no (t := 73) rfl rfl rfl rfl rfl ?_
    refine ow_guard_no (t := 73) rfl rfl rfl rfl rfl ?_
    refine ow_val (val_pick_true (v := .bool true) rfl rfl) rfl ?_
    refine ow_val (val_assign (v := .bool true) rfl) rfl ?_
    exact ow_nil fun w hw => ⟨rfl, ⟨rfl, trivial⟩, Mem.rv hw⟩
  · rw [decide_eq_false hb]
    have h0 : n = 0 := by omega
    subst h0
    refine ow_guard_yes (t := 73) rfl rfl rfl (ow_val (val_move (v := .slice pa 0 pc) rfl) rfl ?_)
    refine ow_guard_yes (t := 73) rfl rfl rfl (ow_val (val_len (len := 0) rfl Try.underlying22) rfl ?_)
    refine ow_guard_yes (t := 73) rfl rfl rfl (ow_val (val_eql_int (a := 0) (b := 0) rfl rfl) rfl ?_ (tame_int rfl rfl))
    rw [decide_eq_true (show (0 : Int) = 0 from rfl)]
    refine ow_val (val_pick_false (v := .bool true) rfl rfl) rfl ?_
    refine ow_val (val_assign (v := .bool true) rfl) rfl ?_
    exact ow_nil fun w hw => ⟨rfl, ⟨rfl, trivial⟩, Mem.rv hw⟩
set_option maxRecDepth 100000 in
set_option maxHeartbeats 8000000 in
theorem ends_p {S : List Frame} (hy : ∀ (F : Go.Sx.Fr) (t : List Item), Sub [(4, .bool true)] F → Pt (fun _ : Unit => coLaw Try.prog Post) 78 (Go.Sx.fr0 10) S () (.code .ret :: t) F (fun w => RV v w)) {qa : Option Addr} {cap : Nat} (hG : PrgV v pv ps) (hsum : (ps.map List.length).sum ≤ 4611686018427387904) (hlen : ps.length ≤ 4611686018427387904) (hQ : QV v qa qs) :
    Pt (fun _ : Unit => coLaw Try.prog Post) 78 (Go.Sx.fr0 10) S () [.code c10] (Go.Sx.slots 0 [pv, .slice qa qs.length cap]) (· = v) := by
  letI C : Co Try.prog := coLaw Try.prog Post
  obtain ⟨pa, pc, hpv, _⟩ := hG.ex
  have hone : pv.oneCell' = true := by rw [hpv]; rfl
  have hyes : ∀ (M : World → Prop) (hM : ∀ w, M w → RV v w) (F : Go.Sx.Fr) (t : List Item), Sub [(4, .bool true)] F → Pt (fun _ : Unit => C) 78 (Go.Sx.fr0 10) S () (.code .ret :: t) F M := fun M hM F t hF => Pt.imp hM (hy F t hF)
  refine Pt.imp (M' := fun w => RV v w) (fun w hw => hw ▸ RV.refl _) (pt_seq (pt_region ?_))
  refine pt_val (by decide) rfl (val_assign (v := .bool false) rfl) rfl ?_
  refine pt_regionEnd (pt_seq (pt_seq (pt_region ?_)))
  refine pt_call (T := fun w r _ u => r = .returned (.bool true) ∧ RV w u) (by decide) rfl (callsTo (xs := []) (vs := []) Try.func12 rfl (by decide) rfl) (by infer_instance) (fun w hw => callI_of_v (awake_v (Post := Post))) (fun t' ht => by cases ht; rfl) (fun w r x' hw => ?_) (fun w ch x' hw a w' hf hl => ?_)
  rotate_left
  · obtain ⟨z, ⟨hz, _⟩, _⟩ := hl; cases hz
  refine Pt.world fun z hz => ?_
  obtain ⟨hr, hz⟩ := hz
  obtain rfl : r = .bool true := by cases hr; rfl
  replace hz := RV.trans hw hz
  clear hr hw
  have hGz := hG.grow hz
  refine Pt.imp (M' := Mem z [] []) (fun u hu => hu ▸ Mem.refl z) ?_
  refine pt_val (by decide) rfl (val_not rfl) rfl (pt_regionEnd (pt_false rfl (pt_skip (pt_seq (pt_seq ?_)))))
  refine Pt.weaken (F' := [(0, pv), (1, .slice qa qs.length cap)]) ⟨rfl, rfl, trivial⟩ (fun _ h => h) ?_
  refine pt_sw (by decide) (sw_10_3 (fun w hw => fit_v (hGz.grow (Mem.rv hw)) hsum hlen) (fun w hw => endless_v (hGz.grow (Mem.rv hw)) hlen)) (fun F' y hq => ?_) (fun ex F' y hne hq => hne hq.1)
  obtain ⟨-, hF, hy⟩ := hq
  refine Pt.weaken hF (M' := Mem z [] []) (fun w hw => hw ▸ hy) (pt_cond rfl (fun hs => ?_) (fun hs => pt_skip ?_))
  · refine pt_seq (pt_region (pt_val (by decide) rfl (val_assign (v := .bool true) rfl) rfl (pt_regionEnd ?_)))
    exact hyes _ (fun w hw => hz.trans (Mem.rv hw)) _ _ ⟨rfl, trivial⟩
  clear hF hy
  have hFit : Fit ps qs := fit_iff.1 (by simpa using (Bool.or_eq_false_iff.1 hs).1)
  obtain ⟨hl1, hl2⟩ := fin_small (calm := true) hFit
  refine pt_seq (pt_region ?_)
  refine pt_val (by decide) rfl (val_move (v := pv) rfl) rfl ?_
  refine pt_val (by decide) rfl (val_move (v := .slice qa qs.length cap) rfl) rfl ?_
  refine pt_call (T := fun w r _ u => ∃ sb mv, r = .returned (.tuple #[vPtr sb, mv]) ∧ PlayU pv w sb mv (finM ps qs true) u) (by decide) rfl (callsTo (xs := [.tmp 24, .tmp 25, .const (.bool true)]) (vs := [pv, .slice qa qs.length cap, .bool true]) Try.func15 rfl (by decide) rfl) (by infer_instance) (fun w hw => callI_of_v (plU_v (Post := Post) hFit (hGz.grow (Mem.rv hw)) (hQ.grow (hz.trans (Mem.rv hw))))) (fun t' ht => by cases ht; rfl) (fun w r x' hw => ?_) (fun w ch x' hw a w' hf hl => ?_)
  rotate_left
  · obtain ⟨z, ⟨_, _, hz, _⟩, _⟩ := hl; cases hz
  refine Pt.world fun z2 hz2 => ?_
  obtain ⟨sb, mv, hr, hU⟩ := hz2
  obtain rfl : r = .tuple #[vPtr sb, mv] := by cases hr; rfl
  obtain ⟨a1, c1, a2, c2, a3, c3', hst, r1, r3, rfl, r2, hv2⟩ := hU.facts
  replace hv2 := hz.trans ((Mem.rv hw).trans hv2)
  clear hr hw hU
  refine Pt.imp (M' := fun w => RV z2 w) (fun u hu => hu ▸ RV.refl z2) ?_
  refine pt_val (by decide) rfl (val_move (v := .tuple #[vPtr sb, .slice a2 (finM ps qs true).moves.length c2]) rfl) rfl ?_
  refine pt_val (by decide) rfl (val_extract (v := vPtr sb) rfl rfl) rfl ?_
  refine pt_val (by decide) rfl (val_extract (v := .slice a2 (finM ps qs true).moves.length c2) rfl rfl) rfl ?_
  refine pt_val (by decide) rfl (val_assign (v := vPtr sb) rfl) rfl ?_
  refine pt_val (by decide) rfl (val_assign (v := .slice a2 (finM ps qs true).moves.length c2) rfl) rfl ?_
  refine pt_regionEnd ?_
  refine pt_seq (pt_seq (pt_region ?_))
  have hN : (finM ps qs true).bd.notes.length ≤ 8796093022208 := by
    rcases Nat.eq_zero_or_pos ps.length with h0 | hn
    · obtain rfl : ps = [] := List.length_eq_zero_iff.1 h0
      unfold finM; rw [mac_nil]; exact Nat.zero_le _
    · have hJ := calmJ_le ps qs true
      have hq := hFit.q
      have h1 := hFit.notes hn (k := qs.length + calmJ ps qs true) (by omega)
      unfold finM; omega
  have hc1 : z2.cell? ⟨sb, 1, none⟩ = some (.slice a1 (finM ps qs true).bd.notes.length c1) := by rw [Go.Sx.cell_of_blk hst]; rfl
  have hG2 := hG.grow hv2
  have hl2 := hG2.len
  obtain ⟨pa', pc', hpe, hp⟩ := hG2.ex
  obtain ⟨rfl, -, rfl⟩ : pa = pa' ∧ ps.length = ps.length ∧ pc = pc' := by rw [hpv] at hpe; cases hpe; exact ⟨rfl, rfl, rfl⟩
  subst hpv
  refine pt_val (by decide) rfl (val_move (v := .slice pa ps.length pc) rfl) rfl ?_
  refine pt_val (by decide) rfl (val_len (len := ps.length) rfl Try.underlying22) rfl ?_
  refine pt_val (by decide) rfl (val_move (v := vInt (0 : Nat)) rfl) rfl ?_
  refine pt_regionEnd (pt_block ?_)
  refine pt_loop_inv (fun j : Nat => j ≤ ps.length) (fun j => [(0, .slice pa ps.length pc), (1, .slice qa qs.length cap), (5, vPtr sb), (6, .slice a2 (finM ps qs true).moves.length c2), (29, .slice pa ps.length pc), (30, vInt ps.length), (31, vInt j)]) (fun _ => ()) (fun _ z => RV z2 z) (fun j => ps.length - j) 0 (Nat.zero_le _) ⟨rfl, rfl, rfl, rfl, rfl, rfl, rfl, trivial⟩ rfl (fun _ h => h) ?_
  rintro j hle hloop
  refine pt_seq (pt_region ?_)
  refine pt_val (by decide) rfl (val_lss_int (a := (j : Int)) (b := (ps.length : Int)) rfl rfl) rfl ?_ (tame_int rfl rfl)
  refine pt_regionEnd (pt_seq (pt_if rfl (fun hlt => ?_) (fun hge => ?_)))
  · have hj : j < ps.length := by omega
    have hpj : ps[j]? = some (ps.getD j []) := by rw [List.getD_eq_getElem?_getD, List.getElem?_eq_getElem hj]; rfl
    obtain ⟨b, o, a, c, rfl, hc, hrd⟩ := prog_at hp hj
    have hpl := hl2 _ (List.mem_of_getElem? hpj)
    have hat := fun hf => ends_at hFit (qs := qs) hj hf
    have hp20 := hFit.pl j
    generalize ps.getD j [] = p at hpj hc hrd hpl hat hp20
    refine pt_skip (pt_seq (pt_block (pt_seq (pt_region ?_))))
    refine pt_val (by decide) rfl (val_move (v := vInt j) rfl) rfl ?_
    refine pt_val (by decide) rfl (val_indexAddr_slice (m := 1) j (o + j) rfl rfl Try.underlying22 Try.sizeOf58 rfl hj (by omega)) rfl ?_
    refine pt_val (by decide) rfl (val_load rfl Try.isAgg58 (v := .slice a p.length c) (fun w h => cell_rv' hc h)) rfl ?_
    refine pt_val (by decide) rfl (val_assign (v := vInt j) rfl) rfl ?_
    refine pt_val (by decide) rfl (val_assign (v := .slice a p.length c) rfl) rfl ?_
    refine pt_regionEnd (pt_seq (pt_region ?_))
    refine pt_val (by decide) rfl (val_assign (v := vInt (0 : Nat)) rfl) rfl ?_
    refine pt_val (by decide) rfl (val_assign (v := .bool true) rfl) rfl ?_
    refine pt_regionEnd (pt_seq (pt_seq (pt_region ?_)))
    refine pt_val (by decide) rfl (val_move (v := .slice a p.length c) rfl) rfl ?_
    refine pt_val (by decide) rfl (val_len (len := p.length) rfl Try.underlying58) rfl ?_
    refine pt_val (by decide) rfl (val_move (v := vInt (0 : Nat)) rfl) rfl ?_
    refine pt_regionEnd (pt_block ?_)
    refine pt_loop_inv (fun k : Nat => k ≤ p.length) (fun k => [(0, .slice (some ⟨b, o, none⟩) ps.length pc), (1, .slice qa qs.length cap), (5, vPtr sb), (6, .slice a2 (finM ps qs true).moves.length c2), (7, vInt j), (9, vInt (wants (p.take k) : Nat)), (10, .bool ((p.take k).all insFree)), (29, .slice (some ⟨b, o, none⟩) ps.length pc), (30, vInt ps.length), (31, vInt j), (36, .slice a p.length c), (37, vInt p.length), (38, vInt k)]) (fun _ => ()) (fun _ z => RV z2 z) (fun k => p.length - k) 0 (Nat.zero_le _) ⟨rfl, rfl, rfl, rfl, rfl, rfl, rfl, rfl, rfl, rfl, rfl, rfl, rfl, trivial⟩ rfl (fun _ h => h) ?_
    rintro k hle2 hloop2
    refine pt_seq (pt_region ?_)
    refine pt_val (by decide) rfl (val_lss_int (a := (k : Int)) (b := (p.length : Int)) rfl rfl) rfl ?_ (tame_int rfl rfl)
    refine pt_regionEnd (pt_seq (pt_if rfl (fun hlt2 => ?_) (fun hge2 => ?_)))
    · have hk : k < p.length := by omega
      have hgo := get_getD hk
      obtain ⟨b', o', rfl, _⟩ := hrd (2 * k) _ (flatB_get hgo).1
      refine pt_skip (pt_seq (pt_block (pt_seq (Pt.world fun z5 hz5 => ?_))))
      refine Pt.imp (M' := Mem z5 [] []) (fun w hw => hw ▸ Mem.refl z5) (pt_region ?_)
      refine pt_val (by decide) rfl (val_indexAddr_slice (m := 2) k (o' + k * 2) rfl rfl Try.underlying58 Try.sizeOf61 rfl hk rfl) rfl ?_
      refine pt_val (by decide) rfl (val_load_elem (cells := fun y : Int × Int => [vI y.1, vI y.2]) (l := p) (o := o') (i := k) rfl Try.isAgg61 Try.sizeOf61 (fun _ _ => rfl) hk rfl (fun w hw => (fun k y hy => let ⟨b1, o1, e1, e2, _⟩ := hrd k y hy; ⟨b1, o1, e1, cell_rv' e2 (RV.trans hz5 (Mem.rv hw))⟩))) rfl ?_
      generalize p.getD k default = y at hgo
      obtain ⟨hT1, hT2⟩ := wants_take hgo
      have hwl : wants (p.take k) ≤ 2000 := Nat.le_trans (wants_le _) (by rw [List.length_take]; omega)
      refine pt_new (by decide) rfl (acts_alloc Try.zeroValue61) rfl fun t12 ht12 => ?_
      refine pt_do (by decide) rfl (does_store_all 0 (cs := [vI y.1, vI y.2]) rfl rfl rfl (by intro x hx; simp only [List.mem_cons, List.not_mem_nil, or_false] at hx; rcases hx with rfl | rfl <;> rfl) Try.sizeOf61 rfl rfl) fun _ _ => ?_
      refine pt_regionEnd (pt_seq (pt_region ?_))
      refine pt_val (by decide) rfl (val_fieldAddr (b := t12) (o := 0) (e := 0) rfl Try.underlying61 rfl rfl Try.sizeOf3 rfl) rfl ?_
      refine pt_val (by decide) rfl (val_load_at (l := [some (t12, blk [vI y.1, vI y.2] 61)]) (v := vI y.1) 0 rfl rfl Try.isAgg3 rfl) rfl ?_
      refine Pt.imp (M' := fun w => RV z2 w) (fun w hw => RV.trans hz5 (Mem.rv hw)) (pt_regionEnd (pt_block (pt_seq (pt_seq (pt_region ?_)))))
      refine pt_val (by decide) rfl (val_eql_int (a := y.1) (b := 1) rfl rfl) rfl ?_ (tame_int rfl rfl)
      refine pt_val (by decide) rfl (val_assign (v := .bool (decide (y.1 = 1))) rfl) rfl (pt_regionEnd ?_)
      refine pt_if rfl (fun heq => pt_skip (pt_if rfl (fun _ => ?_) (fun h => absurd heq h))) (fun ne1 => ?_)
      · have hins : insW y = 1 := by unfold insW; rw [if_pos (by omega)]
        have hfr : insFree y = true := by unfold insFree; simp [heq]
        refine pt_region ?_
        refine pt_val (by decide) rfl (val_move (v := vInt (wants (p.take k) : Nat)) rfl) rfl ?_
        refine pt_val (by decide) rfl (val_add_int (a := (wants (p.take k) : Nat)) (b := 1) _ rfl rfl rfl (by omega)) rfl ?_ (tame_int rfl rfl)
        refine pt_val (by decide) rfl (val_assign (v := vInt (wants (p.take k) + 1 : Nat)) rfl) rfl ?_
        refine pt_regionEnd ?_
        refine pt_inBlock (pt_inBlock (pt_region ?_))
        refine pt_val (by decide) rfl (val_add_int (a := (k : Int)) (b := 1) _ rfl rfl rfl (by omega)) rfl ?_ (tame_int rfl rfl)
        refine pt_val (by decide) rfl (val_move (v := vInt (k + 1 : Nat)) rfl) rfl ?_
        refine pt_regionEnd (Pt.weaken ?_ (fun _ h => h) (hloop2 (k + 1) hk (by omega)))
        rw [hfr] at hT2
        rw [hins] at hT1
        exact ⟨rfl, rfl, rfl, rfl, rfl, by rw [hT1]; rfl, by rw [hT2, Bool.and_true]; rfl, rfl, rfl, rfl, rfl, rfl, rfl, trivial⟩
      refine pt_region ?_
      refine pt_val (by decide) rfl (val_eql_int (a := y.1) (b := 9) rfl rfl) rfl ?_ (tame_int rfl rfl)
      refine pt_val (by decide) rfl (val_assign (v := .bool (decide (y.1 = 9))) rfl) rfl (pt_regionEnd ?_)
      refine pt_if rfl (fun heq => ?_) (fun ne9 => ?_)
      · have hins : insW y = 1 := by unfold insW; rw [if_pos (by omega)]
        have hfr : insFree y = true := by unfold insFree; simp [heq]
        refine pt_region ?_
        refine pt_val (by decide) rfl (val_move (v := vInt (wants (p.take k) : Nat)) rfl) rfl ?_
        refine pt_val (by decide) rfl (val_add_int (a := (wants (p.take k) : Nat)) (b := 1) _ rfl rfl rfl (by omega)) rfl ?_ (tame_int rfl rfl)
        refine pt_val (by decide) rfl (val_assign (v := vInt (wants (p.take k) + 1 : Nat)) rfl) rfl ?_
        refine pt_regionEnd ?_
        refine pt_inBlock (pt_inBlock (pt_region ?_))
        refine pt_val (by decide) rfl (val_add_int (a := (k : Int)) (b := 1) _ rfl rfl rfl (by omega)) rfl ?_ (tame_int rfl rfl)
        refine pt_val (by decide) rfl (val_move (v := vInt (k + 1 : Nat)) rfl) rfl ?_
        refine pt_regionEnd (Pt.weaken ?_ (fun _ h => h) (hloop2 (k + 1) hk (by omega)))
        rw [hfr] at hT2
        rw [hins] at hT1
        exact ⟨rfl, rfl, rfl, rfl, rfl, by rw [hT1]; rfl, by rw [hT2, Bool.and_true]; rfl, rfl, rfl, rfl, rfl, rfl, rfl, trivial⟩
      refine pt_seq (pt_seq (pt_region ?_))
      refine pt_val (by decide) rfl (val_eql_int (a := y.1) (b := 2) rfl rfl) rfl ?_ (tame_int rfl rfl)
      refine pt_val (by decide) rfl (val_assign (v := .bool (decide (y.1 = 2))) rfl) rfl (pt_regionEnd ?_)
      refine pt_if rfl (fun heq => pt_skip (pt_if rfl (fun _ => ?_) (fun h => absurd heq h))) (fun ne2 => ?_)
      · have hins : insW y = 0 := by unfold insW; rw [if_neg (by omega)]
        have hfr : insFree y = true := by unfold insFree; simp [heq]
        refine pt_skip ?_
        refine pt_inBlock (pt_inBlock (pt_region ?_))
        refine pt_val (by decide) rfl (val_add_int (a := (k : Int)) (b := 1) _ rfl rfl rfl (by omega)) rfl ?_ (tame_int rfl rfl)
        refine pt_val (by decide) rfl (val_move (v := vInt (k + 1 : Nat)) rfl) rfl ?_
        refine pt_regionEnd (Pt.weaken ?_ (fun _ h => h) (hloop2 (k + 1) hk (by omega)))
        rw [hfr] at hT2
        rw [hins] at hT1
        exact ⟨rfl, rfl, rfl, rfl, rfl, by rw [hT1]; rfl, by rw [hT2, Bool.and_true]; rfl, rfl, rfl, rfl, rfl, rfl, rfl, trivial⟩
      refine pt_region ?_
      refine pt_val (by decide) rfl (val_eql_int (a := y.1) (b := 5) rfl rfl) rfl ?_ (tame_int rfl rfl)
      refine pt_val (by decide) rfl (val_assign (v := .bool (decide (y.1 = 5))) rfl) rfl (pt_regionEnd ?_)
      refine pt_if rfl (fun heq => ?_) (fun ne5 => ?_)
      · have hins : insW y = 0 := by unfold insW; rw [if_neg (by omega)]
        have hfr : insFree y = true := by unfold insFree; simp [heq]
        refine pt_skip ?_
        refine pt_inBlock (pt_inBlock (pt_region ?_))
        refine pt_val (by decide) rfl (val_add_int (a := (k : Int)) (b := 1) _ rfl rfl rfl (by omega)) rfl ?_ (tame_int rfl rfl)
        refine pt_val (by decide) rfl (val_move (v := vInt (k + 1 : Nat)) rfl) rfl ?_
        refine pt_regionEnd (Pt.weaken ?_ (fun _ h => h) (hloop2 (k + 1) hk (by omega)))
        rw [hfr] at hT2
        rw [hins] at hT1
        exact ⟨rfl, rfl, rfl, rfl, rfl, by rw [hT1]; rfl, by rw [hT2, Bool.and_true]; rfl, rfl, rfl, rfl, rfl, rfl, rfl, trivial⟩
      have hins : insW y = 0 := by unfold insW; rw [if_neg (by omega)]
      have hfr : insFree y = false := by unfold insFree; simp [ne1, ne9, ne2, ne5]
      refine pt_region ?_
      refine pt_val (by decide) rfl (val_assign (v := .bool false) rfl) rfl ?_
      refine pt_regionEnd ?_
      refine pt_inBlock (pt_inBlock (pt_region ?_))
      refine pt_val (by decide) rfl (val_add_int (a := (k : Int)) (b := 1) _ rfl rfl rfl (by omega)) rfl ?_ (tame_int rfl rfl)
      refine pt_val (by decide) rfl (val_move (v := vInt (k + 1 : Nat)) rfl) rfl ?_
      refine pt_regionEnd (Pt.weaken ?_ (fun _ h => h) (hloop2 (k + 1) hk (by omega)))
      rw [hfr] at hT2
      rw [hins] at hT1
      exact ⟨rfl, rfl, rfl, rfl, rfl, by rw [hT1]; rfl, by rw [hT2, Bool.and_false]; rfl, rfl, rfl, rfl, rfl, rfl, rfl, trivial⟩
    · have hkn : k = p.length := by omega
      subst hkn
      rw [List.take_of_length_le (Nat.le_refl _)]
      refine pt_exit rfl (pt_seq (Pt.world fun z5 hz5 => ?_))
      refine Pt.weaken (F' := [(0, .slice (some ⟨b, o, none⟩) ps.length pc), (1, .slice qa qs.length cap), (5, vPtr sb), (6, .slice a2 (finM ps qs true).moves.length c2), (7, vInt j), (9, vInt (wants p)), (10, .bool (p.all insFree)), (29, .slice (some ⟨b, o, none⟩) ps.length pc), (30, vInt ps.length), (31, vInt j)]) ⟨rfl, rfl, rfl, rfl, rfl, rfl, rfl, rfl, rfl, rfl, trivial⟩ (M' := Mem z5 [] []) (fun w hw => hw ▸ Mem.refl z5) ?_
      refine pt_sw (by decide) (sw_10_21 (cell_rv' hc1 hz5) (fun hfr w hw => ?_)) (fun F' q hq => ?_) (fun ex F' q hne hq => hne hq.1)
      · have hw2 := wrote_v (v := w) (c := c1) (x := (j : Int)) (r1.rv (hz5.trans (Mem.rv hw))) hN
        rw [hat hfr] at hw2
        exact hw2
      obtain ⟨-, hF', hq⟩ := hq
      refine Pt.weaken hF' (M' := fun w => RV z2 w) (fun w hw => hw ▸ hz5.trans hq) (pt_false rfl (pt_skip (pt_inBlock (pt_region ?_))))
      refine pt_val (by decide) rfl (val_add_int (a := (j : Int)) (b := 1) _ rfl rfl rfl (by have := hFit.n; omega)) rfl ?_ (tame_int rfl rfl)
      refine pt_val (by decide) rfl (val_move (v := vInt (j + 1 : Nat)) rfl) rfl ?_
      refine pt_regionEnd (Pt.weaken ?_ (fun _ h => h) (hloop (j + 1) hj (by omega)))
      exact ⟨rfl, rfl, rfl, rfl, rfl, rfl, rfl, trivial⟩
  · refine pt_exit rfl (pt_seq (Pt.world fun z5 hz5 => ?_))
    refine Pt.weaken (F' := [(0, .slice pa ps.length pc), (1, .slice qa qs.length cap), (6, .slice a2 (finM ps qs true).moves.length c2)]) ⟨rfl, rfl, rfl, trivial⟩ (M' := Mem z5 [] []) (fun w hw => hw ▸ Mem.refl z5) ?_
    refine pt_sw (by decide) (sw_10_24 hFit.q hFit.n ?_) (fun F' q hq => ?_) (fun ex F' q hne hq => hne hq.1)
    · rcases Nat.eq_zero_or_pos ps.length with h0 | hn
      · exact Or.inr h0
      · left
        have h1 := (calm_end hFit hn).2.2
        have h2 := (mac_len (qs := qs) hn (qs.length + calmJ ps qs true)).2
        unfold finM; omega
    obtain ⟨-, hF', hq⟩ := hq
    exact hyes (fun w => w = q) (fun w hw => hw ▸ hv2.trans (hz5.trans hq)) _ _ hF'
end
end Go.Bt
end
