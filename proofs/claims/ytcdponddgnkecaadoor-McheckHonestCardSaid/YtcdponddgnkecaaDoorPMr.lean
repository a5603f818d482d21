import Derived.Test.YtcdponddgnkecaaDoorPMck
set_option linter.unusedVariables false
set_option linter.unusedSimpArgs false
namespace Go.Ps
open Go.Sx
/-! The plain law of layer 11's Since: a consistency proof read by the bits of two sizes. -/
theorem pw_odd {f : Nat} (h : f % 2 = 1) : (f + 1) &&& f = 0 ↔ (f / 2 + 1) &&& (f / 2) = 0 := by
  have h1 : ((f + 1) &&& f) / 2 = (f / 2 + 1) &&& (f / 2) := by rw [Nat.and_div_two, show (f + 1) / 2 = f / 2 + 1 by omega]
  have h2 : ¬ ((f + 1) &&& f) % 2 = 1 := fun h3 => by have := (Nat.and_mod_two_eq_one.1 h3).1; omega
  rw [← h1]; omega
theorem pw_even {f : Nat} (h : f % 2 = 0) : (f + 1) &&& f = 0 ↔ f = 0 := by
  have h1 : ((f + 1) &&& f) / 2 = f / 2 := by rw [Nat.and_div_two, show (f + 1) / 2 = f / 2 by omega, Nat.and_self]
  constructor
  · intro h2; rw [h2] at h1; omega
  · intro h2; subst h2; rfl
theorem upL_takeD (k : Nat) {l : List (List UInt8)} {j : Nat} (h : 2 * j ≤ l.length) : (upL k l).take j = upL k (l.take (2 * j)) := by
  have h1 := upL_app k (l.take (2 * j)) (l.drop (2 * j)) (by rw [List.length_take]; omega)
  rw [List.take_append_drop] at h1
  rw [h1, List.take_left' (by rw [upL_len, List.length_take]; omega)]
theorem conL_up (k : Nat) : ∀ (n : Nat) {l : List (List UInt8)} {m : Nat} {b : Bool}, l.length ≤ n → m % 2 = 0 → 2 ≤ m → m ≤ l.length → conL k l m b = conL k (upL k l) (m / 2) b := by
  intro n
  induction n with
  | zero => intro l m b hn h0 h1 h2; omega
  | succ n ih =>
    intro l m b hn h0 h1 h2
    have hul := upL_len k l
    by_cases he : m = l.length
    · rw [conL_end he, conL_end (by omega), lg_up k _ (Nat.le_refl _) (fun h => by rw [h] at h2; simp at h2; omega)]
    · obtain ⟨s, hs⟩ : ∃ s, splitN l.length = s := ⟨_, rfl⟩
      obtain ⟨e1, e2, e3⟩ := splitN_even (n := l.length) (by omega)
      have e4 := splitN_lt (n := l.length) (by omega)
      have t1 := upL_take k (l := l) (by omega)
      rw [hs] at e1 e2 e3 e4 t1
      have hd : (l.drop s).length = l.length - s := List.length_drop
      have ht : (l.take s).length = s := by rw [List.length_take]; omega
      by_cases hm : m ≤ s
      · rw [conL_left he (by omega) hs hm, conL_left (l := upL k l) (by omega) (by omega) (s := s / 2) (by rw [hul]; exact e2) (by omega), t1.1, t1.2, ih (by omega) h0 h1 (by omega), lg_up k _ (Nat.le_refl _) (fun h => by rw [h] at hd; simp at hd; omega)]
      · rw [conL_right he (by omega) hs hm, conL_right (l := upL k l) (by omega) (by omega) (s := s / 2) (by rw [hul]; exact e2) (by omega), t1.1, t1.2, ih (by omega) (by omega) (by omega) (by omega), lg_up k _ (Nat.le_refl _) (fun h => by rw [h] at ht; simp at ht; omega), show m / 2 - s / 2 = (m - s) / 2 by omega]
theorem splitN_two : splitN 2 = 1 := by decide +kernel
theorem conL_odd (k : Nat) : ∀ (n : Nat) {l : List (List UInt8)} {m : Nat} {b : Bool}, l.length ≤ n → m % 2 = 1 → (m < l.length ∨ m = 1) → m ≤ l.length → conL k l m b = (if m = 1 ∧ b = true then [] else [l.getD (m - 1) default]) ++ incL k l (m - 1) := by
  intro n
  induction n with
  | zero => intro l m b hn h0 h1 h2; omega
  | succ n ih =>
    intro l m b hn h0 h1 h2
    by_cases he : m = l.length
    · obtain rfl : m = 1 := by omega
      obtain ⟨z, rfl⟩ : ∃ z, l = [z] := by
        match l, he with
        | [z], _ => exact ⟨z, rfl⟩
      rw [conL_end (l := [z]) (m := 1) rfl, incL_one (by simp), lg_one]
      cases b <;> simp
    · obtain ⟨s, hs⟩ : ∃ s, splitN l.length = s := ⟨_, rfl⟩
      have e4 := splitN_lt (n := l.length) (by omega)
      have e5 := splitN_pos l.length
      have e6 : s % 2 = 0 ∨ (l.length = 2 ∧ s = 1) := by
        rcases Nat.lt_or_ge l.length 3 with h3 | h3
        · have h4 : l.length = 2 := by omega
          right; refine ⟨h4, ?_⟩; rw [← hs, h4]; exact splitN_two
        · left; rw [← hs]; exact (splitN_even h3).1
      rw [hs] at e4 e5
      have hd : (l.drop s).length = l.length - s := List.length_drop
      have ht : (l.take s).length = s := by rw [List.length_take]; omega
      by_cases hm : m ≤ s
      · rw [conL_left he (by omega) hs hm, incL_left (by omega) hs (by omega), ih (l := l.take s) (by omega) h0 (by omega) (by omega), getD_take' (by omega), List.append_assoc]
      · rw [conL_right he (by omega) hs hm, incL_right (by omega) hs (by omega), ih (l := l.drop s) (by omega) (by omega) (by omega) (by omega), getD_drop', List.append_assoc, if_neg (by simp), if_neg (by omega), show s + (m - s - 1) = m - 1 by omega, show m - 1 - s = m - s - 1 by omega]
theorem conL_ne {k m : Nat} {l : List (List UInt8)} {b : Bool} (h1 : 2 ≤ l.length) (h : m ≠ l.length) : conL k l m b ≠ [] := by
  by_cases hm : m ≤ splitN l.length
  · rw [conL_left h h1 rfl hm]; simp
  · rw [conL_right h h1 rfl hm]; simp
theorem incL_ne {k i : Nat} {l : List (List UInt8)} (h1 : 2 ≤ l.length) : incL k l i ≠ [] := by
  by_cases hm : i < splitN l.length
  · rw [incL_left h1 rfl hm]; simp
  · rw [incL_right h1 rfl hm]; simp
theorem drop_cons' {α : Type} [Inhabited α] {P : List α} {q : Nat} {z : α} {r : List α} (h : P.drop q = z :: r) : q < P.length ∧ P.getD q default = z ∧ P.drop (q + 1) = r := by
  have hq : q < P.length := by
    rcases Nat.lt_or_ge q P.length with h1 | h1
    · exact h1
    · rw [List.drop_eq_nil_of_le h1] at h; cases h
  rw [List.drop_eq_getElem_cons hq] at h
  injection h with ha hb
  refine ⟨hq, ?_, hb⟩
  rw [List.getD_eq_getElem?_getD, List.getElem?_eq_getElem hq, Option.getD_some, ha]
theorem upL_ok {k : Nat} (h1 : 1 ≤ k) (h2 : k ≤ 32) : ∀ l : List (List UInt8), (∀ d ∈ l, d.length = 32) → (∀ d ∈ l, fm (k : Int) d = true) → (∀ d ∈ upL k l, d.length = 32) ∧ ∀ d ∈ upL k l, fm (k : Int) d = true
  | [], h, h' => by simp [upL]
  | [a], h, h' => by simpa [upL] using And.intro (h a (by simp)) (h' a (by simp))
  | a :: b :: r, h, h' => by
    have ih := upL_ok h1 h2 r (fun d hd => h d (by simp [hd])) (fun d hd => h' d (by simp [hd]))
    rw [upL]
    exact ⟨fun d hd => (List.mem_cons.1 hd).elim (fun e => by rw [e]; exact nd_len _ _ _ h2) (ih.1 d), fun d hd => (List.mem_cons.1 hd).elim (fun e => by rw [e]; exact fm_nd h1 h2 _ _) (ih.2 d)⟩
/-- Two lists of one level: the new tree's, and the old one's, unlike in its last digest only. -/
structure Two (k : Nat) (r o : List UInt8) (R : List (List UInt8)) (q : Nat) (Lv Ov : List (List UInt8)) (f s : Nat) : Prop where
  lv : Lv.length = s + 1
  ov : Ov.length = f + 1
  le : f ≤ s
  tk : Ov.take f = Lv.take f
  dr : R.drop q = incL k Lv f
  lr : lg k Lv = r
  lo : lg k Ov = o
  ld : ∀ d ∈ Lv, d.length = 32
  lf : ∀ d ∈ Lv, fm (k : Int) d = true
  od : ∀ d ∈ Ov, d.length = 32
  og : ∀ d ∈ Ov, fm (k : Int) d = true
  qP : q ≤ R.length
theorem ne_len {l : List (List UInt8)} {n : Nat} (h : l.length = n + 1) : l ≠ [] := fun h1 => by rw [h1] at h; simp at h
theorem Two.next {k : Nat} (h1 : 1 ≤ k) (h2 : k ≤ 32) {r o : List UInt8} {R Lv Ov : List (List UInt8)} {q q' f s : Nat} (h : Two k r o R q Lv Ov f s) (hd : R.drop q' = incL k (upL k Lv) (f / 2)) (hq : q' ≤ R.length) (hf : f % 2 = 0 → f = s ∨ f < s) : Two k r o R q' (upL k Lv) (upL k Ov) (f / 2) (s / 2) := by
  have a := upL_ok h1 h2 Lv h.ld h.lf
  have b := upL_ok h1 h2 Ov h.od h.og
  have e1 := h.lv; have e2 := h.ov; have e3 := h.le
  refine ⟨by rw [upL_len]; omega, by rw [upL_len]; omega, by omega, ?_, hd, by rw [lg_up k _ (Nat.le_refl _) (ne_len e1)]; exact h.lr, by rw [lg_up k _ (Nat.le_refl _) (ne_len e2)]; exact h.lo, a.1, a.2, b.1, b.2, hq⟩
  rw [upL_takeD k (by omega), upL_takeD k (by omega)]
  congr 1
  have t := h.tk
  rw [show Ov.take (2 * (f / 2)) = (Ov.take f).take (2 * (f / 2)) by rw [List.take_take, Nat.min_eq_left (by omega)], t, List.take_take, Nat.min_eq_left (by omega)]
theorem Two.skip {k : Nat} (h1 : 1 ≤ k) (h2 : k ≤ 32) {r o : List UInt8} {R Lv Ov : List (List UInt8)} {q f s : Nat} (h : Two k r o R q Lv Ov f s) (hf : f % 2 = 0) (he : f = s) (h0 : 0 < f) :
    Two k r o R q (upL k Lv) (upL k Ov) (f / 2) (s / 2) ∧ (upL k Lv).getD (f / 2) default = Lv.getD f default ∧ (upL k Ov).getD (f / 2) default = Ov.getD f default := by
  have e1 := h.lv; have e2 := h.ov
  have hu := incL_up k _ (Nat.le_refl _) (l := Lv) (i := f) (by omega) (by omega)
  rw [fst', if_neg (by unfold bro; omega), List.nil_append] at hu
  exact ⟨h.next h1 h2 (h.dr.trans hu) h.qP (fun _ => .inl he), (upL_last k Lv (f / 2) (by omega)).trans (by rw [show 2 * (f / 2) = f by omega]), (upL_last k Ov (f / 2) (by omega)).trans (by rw [show 2 * (f / 2) = f by omega])⟩
theorem Two.odd {k : Nat} (h1 : 1 ≤ k) (h2 : k ≤ 32) {r o : List UInt8} {R Lv Ov : List (List UInt8)} {q f s : Nat} (h : Two k r o R q Lv Ov f s) (hf : f % 2 = 1) :
    Two k r o R (q + 1) (upL k Lv) (upL k Ov) (f / 2) (s / 2) ∧ (upL k Lv).getD (f / 2) default = nd k (R.getD q default) (Lv.getD f default) ∧ (upL k Ov).getD (f / 2) default = nd k (R.getD q default) (Ov.getD f default) := by
  have e1 := h.lv; have e2 := h.ov; have e3 := h.le
  have hu := incL_up k _ (Nat.le_refl _) (l := Lv) (i := f) (by omega) (by omega)
  rw [fst', if_pos (by unfold bro; omega), show bro f = f - 1 by unfold bro; omega, List.singleton_append] at hu
  obtain ⟨q1, q2, q3⟩ := drop_cons' (h.dr.trans hu)
  have t : Ov.getD (f - 1) default = Lv.getD (f - 1) default := by
    rw [← getD_take' (l := Ov) (s := f) (by omega), h.tk, getD_take' (by omega)]
  exact ⟨h.next h1 h2 q3 (by omega) (fun h9 => by omega), (upL_two k Lv (f / 2) (by omega)).trans (by rw [q2, show 2 * (f / 2) + 1 = f by omega, show 2 * (f / 2) = f - 1 by omega]), (upL_two k Ov (f / 2) (by omega)).trans (by rw [q2, ← t, show 2 * (f / 2) + 1 = f by omega, show 2 * (f / 2) = f - 1 by omega])⟩
theorem Two.even {k : Nat} (h1 : 1 ≤ k) (h2 : k ≤ 32) {r o : List UInt8} {R Lv Ov : List (List UInt8)} {q f s : Nat} (h : Two k r o R q Lv Ov f s) (hf : f % 2 = 0) (he : f < s) :
    Two k r o R (q + 1) (upL k Lv) (upL k Ov) (f / 2) (s / 2) ∧ (upL k Lv).getD (f / 2) default = nd k (Lv.getD f default) (R.getD q default) ∧ (upL k Ov).getD (f / 2) default = Ov.getD f default := by
  have e1 := h.lv; have e2 := h.ov; have e3 := h.le
  have hu := incL_up k _ (Nat.le_refl _) (l := Lv) (i := f) (by omega) (by omega)
  rw [fst', if_pos (by unfold bro; omega), show bro f = f + 1 by unfold bro; omega, List.singleton_append] at hu
  obtain ⟨q1, q2, q3⟩ := drop_cons' (h.dr.trans hu)
  exact ⟨h.next h1 h2 q3 (by omega) (fun h9 => .inr he), (upL_two k Lv (f / 2) (by omega)).trans (by rw [q2, show 2 * (f / 2) = f by omega]), (upL_last k Ov (f / 2) (by omega)).trans (by rw [show 2 * (f / 2) = f by omega])⟩
theorem Two.pos {k : Nat} {r o : List UInt8} {R Lv Ov : List (List UInt8)} {q f s : Nat} (h : Two k r o R q Lv Ov f s) (hq : q < R.length) : 0 < s := by
  rcases Nat.eq_zero_or_pos s with h0 | h0
  · have e1 := h.lv
    have h2 := h.dr
    rw [incL_one (by omega), List.drop_eq_nil_iff] at h2; omega
  · exact h0
theorem Two.fin {k : Nat} {r o : List UInt8} {R Lv Ov : List (List UInt8)} {q f s : Nat} (h : Two k r o R q Lv Ov f s) (hq : ¬ q < R.length) : s = 0 ∧ Lv.getD f default = r ∧ Ov.getD f default = o := by
  have e1 := h.lv; have e2 := h.ov; have e3 := h.le
  have h0 : s = 0 := by
    rcases Nat.eq_zero_or_pos s with h0 | h0
    · exact h0
    · have h2 := h.dr
      rw [List.drop_eq_nil_of_le (by omega)] at h2
      exact absurd h2.symm (incL_ne (by omega))
  obtain rfl : f = 0 := by omega
  have one : ∀ l : List (List UInt8), l.length = 1 → l.getD 0 default = lg k l := fun l hl => by
    match l, hl with
    | [z], _ => rw [lg_one]; rfl
  exact ⟨h0, by rw [one Lv (by omega)]; exact h.lr, by rw [one Ov (by omega)]; exact h.lo⟩
/-- The lists while the ones at the end of a size are taken off. -/
structure One (k : Nat) (S : List (List UInt8)) (m : Nat) (Lv : List (List UInt8)) (f s : Nat) : Prop where
  lv : Lv.length = s + 1
  lt : f < s
  cn : conL k S m true = conL k Lv (f + 1) true
  lr : lg k Lv = lg k S
  lo : lg k (Lv.take (f + 1)) = lg k (S.take m)
  pw : (f + 1) &&& f = 0 ↔ m &&& (m - 1) = 0
  ld : ∀ d ∈ Lv, d.length = 32
  lf : ∀ d ∈ Lv, fm (k : Int) d = true
theorem One.start {k m n : Nat} {S : List (List UInt8)} (hS : S.length = n) (h0 : 1 ≤ m) (hm : m < n) (hd : ∀ d ∈ S, d.length = 32) (hf : ∀ d ∈ S, fm (k : Int) d = true) : One k S m S (m - 1) (n - 1) := by
  have e : m - 1 + 1 = m := by omega
  exact ⟨by omega, by omega, by rw [e], rfl, by rw [e], by rw [e], hd, hf⟩
theorem One.step {k : Nat} (h1 : 1 ≤ k) (h2 : k ≤ 32) {S Lv : List (List UInt8)} {m f s : Nat} (h : One k S m Lv f s) (hf : f % 2 = 1) : One k S m (upL k Lv) (f / 2) (s / 2) := by
  have e1 := h.lv; have e2 := h.lt
  have a := upL_ok h1 h2 Lv h.ld h.lf
  have e : (f + 1) / 2 = f / 2 + 1 := by omega
  refine ⟨by rw [upL_len]; omega, by omega, ?_, by rw [lg_up k _ (Nat.le_refl _) (ne_len e1)]; exact h.lr, ?_, (pw_odd hf).symm.trans h.pw, a.1, a.2⟩
  · rw [h.cn, conL_up k _ (Nat.le_refl _) (by omega) (by omega) (by omega), e]
  · have hn : Lv.take (f + 1) ≠ [] := ne_len (n := f) (by rw [List.length_take]; omega)
    rw [upL_takeD k (by omega), show 2 * (f / 2 + 1) = f + 1 by omega, lg_up k _ (Nat.le_refl _) hn]; exact h.lo
theorem One.two {k : Nat} {S Lv : List (List UInt8)} {m f s : Nat} (h : One k S m Lv f s) (hf : f % 2 = 0) : Two k (lg k S) (lg k (S.take m)) (incL k Lv f) 0 Lv (Lv.take (f + 1)) f s := by
  have e1 := h.lv; have e2 := h.lt
  exact ⟨h.lv, by rw [List.length_take]; omega, by omega, by rw [List.take_take, Nat.min_eq_left (by omega)], List.drop_zero, h.lr, h.lo, h.ld, h.lf, fun d hd => h.ld d (List.mem_of_mem_take hd), fun d hd => h.lf d (List.mem_of_mem_take hd), Nat.zero_le _⟩
theorem One.no {k : Nat} {S Lv : List (List UInt8)} {m f s : Nat} (h : One k S m Lv f s) (hf : f % 2 = 0) (hp : ¬ m &&& (m - 1) = 0) : conL k S m true = Lv.getD f default :: incL k Lv f := by
  have e1 := h.lv; have e2 := h.lt
  have h0 : f ≠ 0 := fun h9 => hp (h.pw.1 ((pw_even hf).2 h9))
  rw [h.cn, conL_odd k _ (Nat.le_refl _) (by omega) (by omega) (by omega), if_neg (by omega)]; rfl
theorem One.yes {k : Nat} {S Lv : List (List UInt8)} {m f s : Nat} (h : One k S m Lv f s) (hf : f % 2 = 0) (hp : m &&& (m - 1) = 0) : [lg k (S.take m)] ++ conL k S m true = Lv.getD f default :: incL k Lv f := by
  have e1 := h.lv; have e2 := h.lt
  obtain rfl : f = 0 := (pw_even hf).1 (h.pw.2 hp)
  have one : lg k (Lv.take 1) = Lv.getD 0 default := by
    match Lv, e1 with
    | z :: r, _ => rw [List.take_succ_cons, List.take_zero, lg_one]; rfl
  rw [h.cn, conL_odd k _ (Nat.le_refl _) (by omega) (by omega) (by omega), if_pos ⟨rfl, rfl⟩, List.nil_append, ← h.lo, one]; rfl
end Go.Ps
