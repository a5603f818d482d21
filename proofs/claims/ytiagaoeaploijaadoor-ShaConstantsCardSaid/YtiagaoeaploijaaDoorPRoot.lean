import Derived.Test.YtiagaoeaploijaaDoorPSha
set_option linter.unusedVariables false
set_option linter.unusedSimpArgs false
namespace Go.Ps

/-- The number that a list of digits means, lowest first. -/
def vl : List UInt64 → Nat
  | [] => 0
  | x :: r => x.toNat + 524288 * vl r
def sm (l : List UInt64) : Prop := ∀ t, t < l.length → (l.getD t default).toNat < 524288
theorem sm_cons {x : UInt64} {r : List UInt64} (h : sm (x :: r)) : x.toNat < 524288 ∧ sm r := ⟨h 0 (by simp), fun t ht => h (t + 1) (by simpa using ht)⟩
theorem vl_set : ∀ (l : List UInt64) (t : Nat) (v : UInt64), t < l.length → vl (l.set t v) + (l.getD t default).toNat * 524288 ^ t = vl l + v.toNat * 524288 ^ t
  | [], t, _, h => by simp at h
  | x :: r, 0, v, _ => by
    show v.toNat + 524288 * vl r + x.toNat * 524288 ^ 0 = x.toNat + 524288 * vl r + v.toNat * 524288 ^ 0
    rw [Nat.pow_zero]; omega
  | x :: r, t + 1, v, h => by
    have ih := vl_set r t v (by simpa using h)
    show x.toNat + 524288 * vl (r.set t v) + (r.getD t default).toNat * 524288 ^ (t + 1) = x.toNat + 524288 * vl r + v.toNat * 524288 ^ (t + 1)
    have e1 : (r.getD t default).toNat * 524288 ^ (t + 1) = 524288 * ((r.getD t default).toNat * 524288 ^ t) := by rw [Nat.pow_succ]; rw [Nat.mul_comm 524288, Nat.mul_assoc]
    have e2 : v.toNat * 524288 ^ (t + 1) = 524288 * (v.toNat * 524288 ^ t) := by rw [Nat.pow_succ]; rw [Nat.mul_comm 524288, Nat.mul_assoc]
    rw [e1, e2, Nat.add_assoc, ← Nat.mul_add, ih, Nat.mul_add, Nat.add_assoc]
theorem vl_append : ∀ (l m : List UInt64), vl (l ++ m) = vl l + 524288 ^ l.length * vl m
  | [], m => by simp [vl]
  | x :: r, m => by
    have ih := vl_append r m
    show x.toNat + 524288 * vl (r ++ m) = x.toNat + 524288 * vl r + 524288 ^ (r.length + 1) * vl m
    rw [ih, Nat.mul_add, ← Nat.add_assoc, Nat.pow_succ, Nat.mul_comm (524288 ^ r.length) 524288, Nat.mul_assoc]
theorem vl_zeros : ∀ n, vl (List.replicate n 0) = 0
  | 0 => rfl
  | n + 1 => by rw [List.replicate_succ]; show 0 + 524288 * vl (List.replicate n 0) = 0; rw [vl_zeros n, Nat.mul_zero]
theorem vl_lt : ∀ {l : List UInt64}, sm l → vl l < 524288 ^ l.length
  | [], _ => by simp [vl]
  | x :: r, h => by
    obtain ⟨h1, h2⟩ := sm_cons h
    have ih := vl_lt h2
    show x.toNat + 524288 * vl r < 524288 ^ (r.length + 1)
    rw [Nat.pow_succ, Nat.mul_comm (524288 ^ r.length)]
    have : 524288 * (vl r + 1) ≤ 524288 * 524288 ^ r.length := Nat.mul_le_mul_left _ ih
    omega
theorem vl_ge : ∀ (l : List UInt64) (t : Nat), t < l.length → (l.getD t default).toNat * 524288 ^ t ≤ vl l
  | [], t, h => by simp at h
  | x :: r, 0, _ => by show x.toNat * 524288 ^ 0 ≤ x.toNat + 524288 * vl r; rw [Nat.pow_zero]; omega
  | x :: r, t + 1, h => by
    have ih := vl_ge r t (by simpa using h)
    show (r.getD t default).toNat * 524288 ^ (t + 1) ≤ x.toNat + 524288 * vl r
    have e1 : (r.getD t default).toNat * 524288 ^ (t + 1) = 524288 * ((r.getD t default).toNat * 524288 ^ t) := by rw [Nat.pow_succ, Nat.mul_comm 524288, Nat.mul_assoc]
    rw [e1]
    have := Nat.mul_le_mul_left 524288 ih
    omega
theorem take_succ_vl {l : List UInt64} {j : Nat} (h : j < l.length) : vl (l.take (j + 1)) = vl (l.take j) + (l.getD j default).toNat * 524288 ^ j := by
  rw [List.take_succ_eq_append_getElem h, vl_append, List.length_take, Nat.min_eq_left (Nat.le_of_lt h)]
  show vl (l.take j) + 524288 ^ j * (l[j].toNat + 524288 * 0) = _
  rw [List.getD_eq_getElem?_getD, List.getElem?_eq_getElem h, Nat.mul_zero, Nat.add_zero, Nat.mul_comm]; rfl
theorem sm_take {l : List UInt64} (h : sm l) (j : Nat) : sm (l.take j) := fun t ht => by
  rw [List.length_take] at ht
  have e : (l.take j).getD t default = l.getD t default := by
    rw [List.getD_eq_getElem?_getD, List.getD_eq_getElem?_getD, List.getElem?_take_of_lt (by omega)]
  rw [e]; exact h t (by omega)
theorem getD_set (l : List UInt64) (p t : Nat) (v : UInt64) (hp : p < l.length) : (l.set p v).getD t default = if p = t then v else l.getD t default := by
  rw [List.getD_eq_getElem?_getD, List.getElem?_set]
  by_cases h : p = t
  · rw [if_pos h, if_pos h, if_pos hp]; rfl
  · rw [if_neg h, if_neg h, List.getD_eq_getElem?_getD]
/-- One step of the product: u times v at the place p, and what is carried. -/
def mstep (c : List UInt64) (p : Nat) (u v : UInt64) : List UInt64 :=
  let c1 := c.set p (c.getD p default + u * v)
  let c2 := c1.set (p + 1) (c1.getD (p + 1) default + c1.getD p default / 524288)
  c2.set p (c2.getD p default % 524288)
/-- All digits below the base, but the one at p, which is below four times it. -/
def sm4 (c : List UInt64) (p : Nat) : Prop := ∀ t, t < c.length → (c.getD t default).toNat < if t = p then 4 * 524288 else 524288
theorem mstep_len (c : List UInt64) (p : Nat) (u v : UInt64) : (mstep c p u v).length = c.length := by simp only [mstep, List.length_set]
theorem mstep_ok {c : List UInt64} {p : Nat} {u v : UInt64} (hp : p + 1 < c.length) (hu : u.toNat < 524288) (hv : v.toNat < 524288) (hc : sm4 c p) :
    vl (mstep c p u v) = vl c + u.toNat * v.toNat * 524288 ^ p ∧ sm4 (mstep c p u v) (p + 1) := by
  have hcp := hc p (by omega)
  rw [if_pos rfl] at hcp
  have hcq := hc (p + 1) hp
  rw [if_neg (by omega)] at hcq
  have huv : u.toNat * v.toNat ≤ 524287 * 524287 := Nat.mul_le_mul (by omega) (by omega)
  obtain ⟨x, hx⟩ : ∃ x, c.getD p default + u * v = x := ⟨_, rfl⟩
  have hxn : x.toNat = (c.getD p default).toNat + u.toNat * v.toNat := by
    rw [← hx, UInt64.toNat_add, UInt64.toNat_mul, Nat.mod_eq_of_lt (show u.toNat * v.toNat < 2 ^ 64 by omega), Nat.mod_eq_of_lt (by omega)]
  obtain ⟨c1, h1⟩ : ∃ c1, c.set p x = c1 := ⟨_, rfl⟩
  have l1 : c1.length = c.length := by rw [← h1, List.length_set]
  have g1p : c1.getD p default = x := by rw [← h1, getD_set _ _ _ _ (by omega), if_pos rfl]
  have g1q : c1.getD (p + 1) default = c.getD (p + 1) default := by rw [← h1, getD_set _ _ _ _ (by omega), if_neg (by omega)]
  obtain ⟨y, hy⟩ : ∃ y, c1.getD (p + 1) default + c1.getD p default / 524288 = y := ⟨_, rfl⟩
  have hyn : y.toNat = (c.getD (p + 1) default).toNat + x.toNat / 524288 := by
    rw [← hy, g1p, g1q, UInt64.toNat_add, UInt64.toNat_div, show (524288 : UInt64).toNat = 524288 from rfl, Nat.mod_eq_of_lt (by omega)]
  obtain ⟨c2, h2⟩ : ∃ c2, c1.set (p + 1) y = c2 := ⟨_, rfl⟩
  have l2 : c2.length = c.length := by rw [← h2, List.length_set, l1]
  have g2p : c2.getD p default = x := by rw [← h2, getD_set _ _ _ _ (by omega), if_neg (by omega), g1p]
  have e : mstep c p u v = c2.set p (x % 524288) := by
    show (((c.set p (c.getD p default + u * v)).set (p + 1) ((c.set p (c.getD p default + u * v)).getD (p + 1) default + (c.set p (c.getD p default + u * v)).getD p default / 524288)).set p _) = _
    rw [hx, h1, hy, h2, g2p]
  have hz : (x % 524288).toNat = x.toNat % 524288 := by rw [UInt64.toNat_mod]; rfl
  rw [e]
  constructor
  · have v1 := vl_set c p x (by omega)
    rw [h1] at v1
    have v2 := vl_set c1 (p + 1) y (by omega)
    rw [h2, g1q, hyn, Nat.add_mul] at v2
    have v3 := vl_set c2 p (x % 524288) (by omega)
    rw [g2p, hz] at v3
    rw [hxn, Nat.add_mul] at v1
    have hs : x.toNat * 524288 ^ p = x.toNat / 524288 * 524288 ^ (p + 1) + x.toNat % 524288 * 524288 ^ p := by
      conv => lhs; rw [← Nat.div_add_mod x.toNat 524288]
      rw [Nat.add_mul, Nat.pow_succ, Nat.mul_comm 524288, Nat.mul_assoc, Nat.mul_comm 524288]
    omega
  · intro t ht
    rw [List.length_set] at ht
    rw [getD_set _ _ _ _ (by omega)]
    by_cases ep : p = t
    · rw [if_pos ep, if_neg (by omega), hz]; exact Nat.mod_lt _ (by decide)
    · rw [if_neg ep, ← h2, getD_set _ _ _ _ (by omega)]
      by_cases eq : p + 1 = t
      · rw [if_pos eq, if_pos eq.symm, hyn]; omega
      · rw [if_neg eq, if_neg (fun h => eq h.symm), ← h1, getD_set _ _ _ _ (by omega), if_neg ep]
        have := hc t (by omega)
        rw [if_neg (fun h => ep h.symm)] at this; exact this
/-- A row of the product is done. -/
theorem row_end {a b c : List UInt64} {i : Nat} (ha : sm a) (hb : sm b) (hi : i < a.length) (hl : c.length = a.length + b.length) (hc : sm4 c (i + b.length)) (hv : vl c = vl (a.take (i + 1)) * vl b) : sm c := by
  intro t ht
  by_cases e : t = i + b.length
  · subst e
    have h1 := vl_ge c (i + b.length) ht
    have h2 := vl_lt (sm_take ha (i + 1))
    rw [List.length_take, Nat.min_eq_left (by omega)] at h2
    have h3 := vl_lt hb
    have h4 : vl c < 524288 ^ (i + 1) * 524288 ^ b.length := by rw [hv]; exact Nat.mul_lt_mul'' h2 h3
    rw [← Nat.pow_add, show i + 1 + b.length = i + b.length + 1 by omega, Nat.pow_succ, Nat.mul_comm (524288 ^ (i + b.length))] at h4
    exact Nat.lt_of_mul_lt_mul_right (Nat.lt_of_le_of_lt h1 h4)
  · have := hc t ht
    rwa [if_neg e] at this
theorem sm_four {c : List UInt64} (h : sm c) (p : Nat) : sm4 c p := fun t ht => by have := h t ht; split <;> omega
/-- Compared from the top. -/
theorem cmp_top : ∀ (a b : List UInt64) (j : Nat), a.length = b.length → sm a → sm b → j < a.length → a.drop (j + 1) = b.drop (j + 1) → a.getD j default ≠ b.getD j default → (vl b < vl a ↔ (b.getD j default).toNat < (a.getD j default).toNat) := by
  intro a b j hl ha hb hj hd hne
  have split : ∀ l : List UInt64, j < l.length → vl l = vl (l.take j) + 524288 ^ j * ((l.getD j default).toNat + 524288 * vl (l.drop (j + 1))) := fun l h => by
    conv => lhs; rw [← List.take_append_drop j l]
    rw [vl_append, List.length_take, Nat.min_eq_left (by omega), List.drop_eq_getElem_cons h]
    show _ + 524288 ^ j * (l[j].toNat + 524288 * vl (l.drop (j + 1))) = _
    rw [List.getD_eq_getElem?_getD, List.getElem?_eq_getElem h]; rfl
  have h1 := vl_lt (sm_take ha j)
  have h2 := vl_lt (sm_take hb j)
  rw [List.length_take, Nat.min_eq_left (by omega)] at h1 h2
  rw [split a hj, split b (by omega), hd]
  obtain ⟨X, hX⟩ : ∃ X, 524288 ^ j = X := ⟨_, rfl⟩
  obtain ⟨p, hp⟩ : ∃ p, (a.getD j default).toNat = p := ⟨_, rfl⟩
  obtain ⟨q, hq⟩ : ∃ q, (b.getD j default).toNat = q := ⟨_, rfl⟩
  obtain ⟨Z, hZ⟩ : ∃ Z, 524288 * vl (b.drop (j + 1)) = Z := ⟨_, rfl⟩
  have hpq : p ≠ q := fun h => hne (UInt64.toNat.inj (by rw [hp, hq, h]))
  rw [hX] at h1 h2 ⊢
  rw [hp, hq, hZ]
  have key : ∀ s t u v : Nat, s < t → u < X → X * (s + Z) + u < X * (t + Z) + v := fun s t u v h hu => by
    have : X * (s + Z + 1) ≤ X * (t + Z) := Nat.mul_le_mul_left _ (by omega)
    rw [Nat.mul_add] at this
    omega
  constructor
  · intro h
    rcases Nat.lt_trichotomy q p with h3 | h3 | h3
    · exact h3
    · exact absurd h3.symm hpq
    · have := key p q (vl (a.take j)) (vl (b.take j)) h3 h1; omega
  · intro h
    have := key q p (vl (b.take j)) (vl (a.take j)) h h2; omega
/-- Halving. -/
def srch (f : Nat → Bool) : Nat → Nat → Nat → Nat
  | 0, lo, _ => lo
  | s + 1, lo, hi => if 1 < hi - lo then (if f ((lo + hi) / 2) then srch f s lo ((lo + hi) / 2) else srch f s ((lo + hi) / 2) hi) else lo
theorem srch_end {f : Nat → Bool} {s lo hi : Nat} (h : ¬ 1 < hi - lo) : srch f s lo hi = lo := by
  cases s with
  | zero => rfl
  | succ s => rw [srch, if_neg h]
def aboveF (x k p : Nat) : Bool := decide (p * 65536 ^ (2 * k) < x ^ k)
def rootF (p k : Nat) : Nat := srch (fun x => aboveF x k p) 38 0 274877906944
def primeB (n : Nat) : Bool := decide (1 < n) && (List.range n).all fun d => decide (d < 2) || decide (n < d * d) || decide (n % d ≠ 0)
def cntP : Nat → Nat
  | 0 => 0
  | q + 1 => cntP q + if primeB q = true then 1 else 0
theorem cntP_mono : ∀ {q r : Nat}, q ≤ r → cntP q ≤ cntP r
  | q, 0, h => by obtain rfl : q = 0 := by omega
                  exact Nat.le_refl _
  | q, r + 1, h => by
    by_cases e : q = r + 1
    · subst e; exact Nat.le_refl _
    · have := cntP_mono (q := q) (r := r) (by omega)
      rw [cntP]; omega
theorem prime_no {n d : Nat} (h2 : 2 ≤ d) (hd : d * d ≤ n) (h : n % d = 0) : primeB n = false := by
  have hn : d < n := by
    have : d * 2 ≤ d * d := Nat.mul_le_mul_left _ h2
    omega
  rw [primeB, Bool.and_eq_false_iff]
  refine .inr ?_
  rw [List.all_eq_false]
  refine ⟨d, List.mem_range.2 hn, ?_⟩
  simp [h]; omega
theorem prime_yes {n d : Nat} (h : ∀ e, 2 ≤ e → e < d → n % e ≠ 0) (hd : n < d * d) : primeB n = decide (1 < n) := by
  rw [primeB]
  have : ((List.range n).all fun d => decide (d < 2) || decide (n < d * d) || decide (n % d ≠ 0)) = true := by
    rw [List.all_eq_true]
    intro e _
    by_cases h1 : e < 2
    · simp [h1]
    · by_cases h2 : e < d
      · have := h e (by omega) h2; simp [this]
      · have : d * d ≤ e * e := Nat.mul_le_mul (by omega) (by omega)
        have : n < e * e := by omega
        simp [this]
  rw [this, Bool.and_true]
def tabOk (q : Nat) : Bool := !primeB q || (decide (cntP q < 64) && decide ((UInt64.ofNat (rootF q 3)).toUInt32 = KT.getD (cntP q) default) && (decide (8 ≤ cntP q) || decide ((UInt64.ofNat (rootF q 2)).toUInt32 = H0.getD (cntP q) default)))
end Go.Ps
namespace Go.Ps
/-- Primes below a number, found once each. -/
def tabGo : Nat → Nat → Nat → Bool
  | 0, _, _ => true
  | s + 1, q, c => if primeB q = true then decide (c < 64) && decide ((UInt64.ofNat (rootF q 3)).toUInt32 = KT.getD c default) && (decide (8 ≤ c) || decide ((UInt64.ofNat (rootF q 2)).toUInt32 = H0.getD c default)) && tabGo s (q + 1) (c + 1) else tabGo s (q + 1) c
theorem tabGo_ok : ∀ (s q : Nat), tabGo s q (cntP q) = true → ∀ r, q ≤ r → r < q + s → tabOk r = true
  | 0, q, _, r, h1, h2 => by omega
  | s + 1, q, h, r, h1, h2 => by
    rw [tabGo] at h
    by_cases e : primeB q = true
    · rw [if_pos e, Bool.and_eq_true, Bool.and_eq_true, Bool.and_eq_true] at h
      by_cases er : r = q
      · subst er; rw [tabOk, e, h.1.1.1, h.1.1.2, h.1.2]; rfl
      · refine tabGo_ok s (q + 1) ?_ r (by omega) (by omega)
        rw [cntP, if_pos e]; exact h.2
    · rw [if_neg e] at h
      by_cases er : r = q
      · subst er; rw [Bool.not_eq_true] at e; rw [tabOk, e]; rfl
      · refine tabGo_ok s (q + 1) ?_ r (by omega) (by omega)
        rw [cntP, if_neg e, Nat.add_zero]; exact h
theorem tab_run : tabGo 310 2 0 = true := by decide +kernel
theorem tab_all {r : Nat} (h1 : 2 ≤ r) (h2 : r < 312) : tabOk r = true := by
  have h3 : cntP 2 = 0 := by decide
  exact tabGo_ok 310 2 (by rw [h3]; exact tab_run) r h1 h2
def cntGo : Nat → Nat → Nat → Nat
  | 0, _, c => c
  | s + 1, q, c => cntGo s (q + 1) (if primeB q = true then c + 1 else c)
theorem cntGo_eq : ∀ s q, cntGo s q (cntP q) = cntP (q + s)
  | 0, q => rfl
  | s + 1, q => by
    rw [cntGo, show q + (s + 1) = (q + 1) + s by omega, ← cntGo_eq s (q + 1), cntP]
    by_cases e : primeB q = true
    · rw [if_pos e, if_pos e]
    · rw [if_neg e, if_neg e]; rfl
theorem cnt_312 : cntP 312 = 64 := by
  have h := cntGo_eq 312 0
  rw [show 0 + 312 = 312 from rfl] at h
  rw [← h]; decide +kernel
end Go.Ps
