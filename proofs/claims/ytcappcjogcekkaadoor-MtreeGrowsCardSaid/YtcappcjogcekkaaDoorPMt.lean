/- Plain law of layer 10: the digest of a list of leaves; whole subtrees, the greatest first. -/
import Derived.Test.YtcappcjogcekkaaDoorPShow
set_option linter.unusedVariables false
set_option linter.unusedSimpArgs false
namespace Go.Ps

/-- The digest of a list of leaves' digests. -/
def lg (k : Nat) (l : List (List UInt8)) : List UInt8 :=
  if h : 2 ≤ l.length then nd k (lg k (l.take (splitN l.length))) (lg k (l.drop (splitN l.length))) else
  match l with
  | [] => dig k []
  | d :: _ => d
termination_by l.length
decreasing_by
  · rw [List.length_take]; have := splitN_lt h; omega
  · rw [List.length_drop]; have := splitN_pos l.length; omega
theorem lg_nil (k : Nat) : lg k [] = dig k [] := by rw [lg, dif_neg (by decide)]
theorem lg_one (k : Nat) (d : List UInt8) : lg k [d] = d := by rw [lg, dif_neg (by simp)]
theorem lg_two (k : Nat) {l : List (List UInt8)} (h : 2 ≤ l.length) : lg k l = nd k (lg k (l.take (splitN l.length))) (lg k (l.drop (splitN l.length))) := by rw [lg, dif_pos h]
theorem splitN_pow' {p : Nat} : splitN (2 ^ (p + 1)) = 2 ^ p := splitN_eq rfl (by rw [Nat.pow_succ]; have := Nat.one_le_two_pow (n := p); omega) (by rw [Nat.pow_succ]; omega)
theorem lg_join (k : Nat) {l r : List (List UInt8)} {p : Nat} (hl : l.length = 2 ^ p) (hr : r.length = 2 ^ p) : lg k (l ++ r) = nd k (lg k l) (lg k r) := by
  have hp := Nat.one_le_two_pow (n := p)
  have hlen : (l ++ r).length = 2 ^ (p + 1) := by rw [List.length_append, hl, hr, Nat.pow_succ]; omega
  rw [lg_two k (by omega), hlen, splitN_pow', List.take_left' hl, List.drop_left' hl]
theorem lg_len {k : Nat} (h2 : k ≤ 32) : ∀ (n : Nat) {l : List (List UInt8)}, l.length = n → (∀ d ∈ l, d.length = 32) → (lg k l).length = 32
  | n, l, hn, h => by
    by_cases h3 : 2 ≤ l.length
    · rw [lg_two k h3]; exact nd_len _ _ _ h2
    · match l, h3, h with
      | [], _, _ => rw [lg_nil]; exact dig_len _ h2
      | [d], _, h => rw [lg_one]; exact h d (by simp)
      | _ :: _ :: _, h3, _ => exact absurd (by simp) h3
theorem lg_fm {k : Nat} (h1 : 1 ≤ k) (h2 : k ≤ 32) {l : List (List UInt8)} (h : ∀ d ∈ l, fm (k : Int) d = true) : fm (k : Int) (lg k l) = true := by
  by_cases h3 : 2 ≤ l.length
  · rw [lg_two k h3]; exact fm_nd h1 h2 _ _
  · match l, h3, h with
    | [], _, _ => rw [lg_nil]; exact fm_dig h1 h2 _
    | [d], _, h => rw [lg_one]; exact h d (by simp)
    | _ :: _ :: _, h3, _ => exact absurd (by simp) h3

/-- A whole subtree: where its root stands, of which power of two it is, its leaves. -/
structure Pk where
  b : Nat
  p : Nat
  seg : List (List UInt8)
def segs (ps : List Pk) : List (List UInt8) := ps.flatMap (·.seg)
/-- The whole subtrees into which a list of leaves falls. -/
structure Peaks (ps : List Pk) (l : List (List UInt8)) : Prop where
  cat : segs ps = l
  len : ∀ x ∈ ps, x.seg.length = 2 ^ x.p
  down : ps.Pairwise fun x y => y.p < x.p
theorem Peaks.nil : Peaks [] [] := ⟨rfl, fun x h => (by cases h), .nil⟩
/-- A leaf behind the others: carried up while the last subtree is as great. -/
structure Carry (ps : List Pk) (x : Pk) (l : List (List UInt8)) : Prop where
  cat : segs ps ++ x.seg = l
  len : ∀ y ∈ ps, y.seg.length = 2 ^ y.p
  lenx : x.seg.length = 2 ^ x.p
  down : ps.Pairwise fun x y => y.p < x.p
  low : ∀ y ∈ ps, x.p ≤ y.p
theorem Peaks.carry {ps : List Pk} {l : List (List UInt8)} (h : Peaks ps l) (b : Nat) (d : List UInt8) : Carry ps ⟨b, 0, [d]⟩ (l ++ [d]) :=
  ⟨by rw [h.cat], h.len, rfl, h.down, fun _ _ => Nat.zero_le _⟩
theorem segs_app (ps qs : List Pk) : segs (ps ++ qs) = segs ps ++ segs qs := by simp [segs, List.flatMap_append]
theorem Carry.step {ps : List Pk} {x y : Pk} {l : List (List UInt8)} (h : Carry (ps ++ [y]) x l) (he : y.p = x.p) (b : Nat) : Carry ps ⟨b, x.p + 1, y.seg ++ x.seg⟩ l := by
  have hd := List.pairwise_append.1 h.down
  refine ⟨?_, fun z hz => h.len z (by simp [hz]), ?_, hd.1, fun z hz => ?_⟩
  · have := h.cat
    rw [segs_app] at this
    rw [← this]
    simp [segs, List.append_assoc]
  · have h1 := h.len y (by simp)
    have h2 := h.lenx
    show (y.seg ++ x.seg).length = 2 ^ (x.p + 1)
    rw [List.length_append, h1, h2, he, Nat.pow_succ]; omega
  · have := hd.2.2 z hz y (by simp)
    show x.p + 1 ≤ z.p
    omega
theorem Carry.done {ps : List Pk} {x : Pk} {l : List (List UInt8)} (h : Carry ps x l) (hn : ∀ y ∈ ps.getLast?, y.p ≠ x.p) : Peaks (ps ++ [x]) l := by
  refine ⟨by rw [segs_app, ← h.cat]; simp [segs], fun y hy => ?_, List.pairwise_append.2 ⟨h.down, List.pairwise_singleton _ _, fun y hy z hz => ?_⟩⟩
  · rcases List.mem_append.1 hy with hy | hy
    · exact h.len y hy
    · rw [List.mem_singleton.1 hy]; exact h.lenx
  · rw [List.mem_singleton.1 hz]
    have hne : ps ≠ [] := fun h0 => by rw [h0] at hy; cases hy
    have hl : ps.getLast hne ∈ ps.getLast? := by rw [List.getLast?_eq_some_getLast hne]; rfl
    have h1 := hn _ hl
    have h2 := h.low _ (List.getLast_mem hne)
    have h3 : (ps.getLast hne).p ≤ y.p := by
      have hdl := List.dropLast_concat_getLast hne
      have hd := h.down
      rw [← hdl] at hd hy
      rcases List.mem_append.1 hy with hy | hy
      · exact Nat.le_of_lt ((List.pairwise_append.1 hd).2.2 y hy _ (by simp))
      · rw [List.mem_singleton.1 hy]; exact Nat.le_refl _
    omega

instance : Inhabited Pk := ⟨⟨0, 0, []⟩⟩
/-- How many leaves stand in the first subtrees. -/
def pre (ps : List Pk) : Nat := (ps.map fun x => 2 ^ x.p).sum
theorem pre_cons (x : Pk) (r : List Pk) : pre (x :: r) = 2 ^ x.p + pre r := by simp [pre]
theorem pre_app (p q : List Pk) : pre (p ++ q) = pre p + pre q := by simp [pre]
theorem pre_len {ps : List Pk} (h : ∀ x ∈ ps, x.seg.length = 2 ^ x.p) : (segs ps).length = pre ps := by
  induction ps with
  | nil => rfl
  | cons x r ih =>
    rw [pre_cons, ← ih (fun y hy => h y (by simp [hy])), ← h x (by simp)]
    simp [segs]
/-- Smaller and smaller powers of two make less than the power above. -/
theorem pre_lt : ∀ {ps : List Pk} {m : Nat}, ps.Pairwise (fun x y => y.p < x.p) → (∀ x ∈ ps, x.p < m) → pre ps < 2 ^ m
  | [], m, _, _ => by have := Nat.one_le_two_pow (n := m); simp [pre]; omega
  | x :: r, m, h, hm => by
    have h1 := pre_lt (List.pairwise_cons.1 h).2 (m := x.p) (fun y hy => (List.pairwise_cons.1 h).1 y hy)
    have h2 : x.p + 1 ≤ m := hm x (by simp)
    have h3 := Nat.pow_le_pow_right (show 0 < 2 by omega) h2
    rw [pre_cons]
    rw [Nat.pow_succ] at h3
    omega
theorem pre_dvd {m : Nat} : ∀ {ps : List Pk}, (∀ x ∈ ps, m ≤ x.p) → 2 ^ m ∣ pre ps
  | [], _ => by simp [pre]
  | x :: r, h => by
    rw [pre_cons]
    exact Nat.dvd_add (Nat.pow_dvd_pow 2 (h x (by simp))) (pre_dvd fun y hy => h y (by simp [hy]))
/-- An aligned power of two of leaves stands in one subtree. -/
theorem peak_find {p q : List Pk} {x : Pk} {l : List (List UInt8)} (h : Peaks (p ++ x :: q) l) {i r : Nat} (h1 : pre p ≤ i) (h2 : i < pre p + 2 ^ x.p) (hd : 2 ^ r ∣ i) (hr : i + 2 ^ r ≤ l.length) :
    r ≤ x.p ∧ 2 ^ r ∣ (i - pre p) ∧ i - pre p + 2 ^ r ≤ 2 ^ x.p ∧ (l.drop i).take (2 ^ r) = (x.seg.drop (i - pre p)).take (2 ^ r) := by
  have hdn := List.pairwise_append.1 h.down
  have hq := List.pairwise_cons.1 hdn.2.1
  have hpq : ∀ y ∈ p, x.p + 1 ≤ y.p := fun y hy => hdn.2.2 y hy x (by simp)
  have hpre : 2 ^ (x.p + 1) ∣ pre p := pre_dvd hpq
  have hsuf : pre q < 2 ^ x.p := pre_lt hq.2 hq.1
  have hlen : l.length = pre p + (2 ^ x.p + pre q) := by rw [← h.cat, pre_len h.len, pre_app, pre_cons]
  have hp2 : 2 ^ (x.p + 1) = 2 * 2 ^ x.p := by rw [Nat.pow_succ]; omega
  have hrp : r ≤ x.p := by
    rcases Nat.lt_or_ge x.p r with hlt | hge
    · exfalso
      have h3 : 2 ^ (x.p + 1) ∣ i := Nat.dvd_trans (Nat.pow_dvd_pow 2 hlt) hd
      have h4 := Nat.pow_le_pow_right (show 0 < 2 by omega) hlt
      obtain ⟨u, hu⟩ := h3
      obtain ⟨v, hv⟩ := hpre
      have h5 : v = u := by
        have h6 : 2 ^ (x.p + 1) * v ≤ 2 ^ (x.p + 1) * u := by omega
        have h7 : 2 ^ (x.p + 1) * u < 2 ^ (x.p + 1) * (v + 1) := by rw [Nat.mul_add]; omega
        have h8 := Nat.le_of_mul_le_mul_left h6 (Nat.two_pow_pos _)
        have h9 := Nat.lt_of_mul_lt_mul_left h7
        omega
      subst h5
      omega
    · exact hge
  have hdp : 2 ^ r ∣ pre p := Nat.dvd_trans (Nat.pow_dvd_pow 2 (by omega)) hpre
  have hds : 2 ^ r ∣ i - pre p := Nat.dvd_sub hd hdp
  have hfit : i - pre p + 2 ^ r ≤ 2 ^ x.p := by
    obtain ⟨u, hu⟩ := hds
    obtain ⟨v, hv⟩ := Nat.pow_dvd_pow 2 hrp
    rw [hu, hv]
    have h7 : 2 ^ r * u < 2 ^ r * v := by omega
    have h9 := Nat.lt_of_mul_lt_mul_left h7
    have := Nat.mul_le_mul_left (2 ^ r) (show u + 1 ≤ v by omega)
    rw [Nat.mul_add] at this; omega
  refine ⟨hrp, hds, hfit, ?_⟩
  have hsp : (segs p).length = pre p := pre_len fun y hy => h.len y (by simp [hy])
  have hsx := h.len x (by simp)
  rw [← h.cat, segs_app, show segs (x :: q) = x.seg ++ segs q from by simp [segs]]
  rw [show i = (segs p).length + (i - pre p) by omega, List.drop_length_add_append, List.drop_append_of_le_length (by omega), List.take_append_of_le_length (by rw [List.length_drop]; omega), hsp, Nat.add_sub_cancel_left]

theorem fit_dvd {r p a : Nat} (hr : r ≤ p) (hd : 2 ^ r ∣ a) (ha : a < 2 ^ p) : a + 2 ^ r ≤ 2 ^ p := by
  obtain ⟨u, hu⟩ := hd
  obtain ⟨v, hv⟩ := Nat.pow_dvd_pow 2 hr
  rw [hu, hv]
  have h7 : 2 ^ r * u < 2 ^ r * v := by omega
  have h9 := Nat.lt_of_mul_lt_mul_left h7
  have := Nat.mul_le_mul_left (2 ^ r) (show u + 1 ≤ v by omega)
  rw [Nat.mul_add] at this; omega
theorem half_left {s1 s2 : List (List UInt8)} {p r a : Nat} (h1 : s1.length = 2 ^ p) (hr : r ≤ p) (hd : 2 ^ r ∣ a) (ha : a < 2 ^ p) : ((s1 ++ s2).drop a).take (2 ^ r) = (s1.drop a).take (2 ^ r) := by
  have := fit_dvd hr hd ha
  rw [List.drop_append_of_le_length (by omega), List.take_append_of_le_length (by rw [List.length_drop]; omega)]
theorem half_right {s1 s2 : List (List UInt8)} {p r a : Nat} (h1 : s1.length = 2 ^ p) (hr : r ≤ p) (hd : 2 ^ r ∣ a) (ha : 2 ^ p ≤ a) : 2 ^ r ∣ a - 2 ^ p ∧ ((s1 ++ s2).drop a).take (2 ^ r) = (s2.drop (a - 2 ^ p)).take (2 ^ r) := by
  refine ⟨Nat.dvd_sub hd (Nat.pow_dvd_pow 2 hr), ?_⟩
  rw [show a = s1.length + (a - 2 ^ p) by omega, List.drop_length_add_append, h1, Nat.add_sub_cancel_left]

theorem bit_top {x m : Nat} (h1 : 2 ^ m ≤ x) (h2 : x < 2 ^ (m + 1)) : x.testBit m = true := by
  rw [show x = 2 ^ m + (x - 2 ^ m) by omega, Nat.testBit_two_pow_add_eq, Nat.testBit_lt_two_pow (by rw [Nat.pow_succ] at h2; omega)]; rfl
theorem pow_of_and {n : Nat} (h0 : n ≠ 0) (h : n &&& (n - 1) = 0) : n = 2 ^ n.log2 := by
  have h1 := Nat.log2_self_le h0
  have h2 := Nat.lt_log2_self (n := n)
  rcases Nat.lt_or_ge (2 ^ n.log2) n with hlt | hge
  · exfalso
    have h3 := bit_top h1 h2
    have h4 := bit_top (x := n - 1) (m := n.log2) (by omega) (by omega)
    have h5 := congrArg (fun z => Nat.testBit z n.log2) h
    simp [Nat.testBit_and, h3, h4] at h5
  · omega
theorem lg_part (k : Nat) {l : List (List UInt8)} {lo n : Nat} (h2 : 2 ≤ n) (hn : lo + n ≤ l.length) :
    lg k ((l.drop lo).take n) = nd k (lg k ((l.drop lo).take (splitN n))) (lg k ((l.drop (lo + splitN n)).take (n - splitN n))) := by
  have hs := splitN_lt h2
  have hl : ((l.drop lo).take n).length = n := by rw [List.length_take, List.length_drop]; omega
  rw [lg_two k (by omega), hl, List.take_take, Nat.min_eq_left (by omega), List.drop_take, List.drop_drop]
/-- What Range answers. -/
def rngO (k : Nat) (l : List (List UInt8)) (lo hi : UInt64) : List UInt8 × Nat :=
  if hi < lo ∨ l.length < hi.toNat then (zeros32, 4) else (lg k ((l.drop lo.toNat).take (hi.toNat - lo.toNat)), 0)
end Go.Ps
