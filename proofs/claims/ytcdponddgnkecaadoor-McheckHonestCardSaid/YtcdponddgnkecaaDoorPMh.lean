import Derived.Test.YtcdponddgnkecaaDoorPMr
set_option linter.unusedVariables false
set_option linter.unusedSimpArgs false
namespace Go.Ps
open Go.Sx
/-! Honest proofs lead, by layer 12's way up, to the tree's own roots. -/
theorem sub_nat {a b : UInt64} (h : b.toNat ≤ a.toNat) : (a - b).toNat = a.toNat - b.toNat := UInt64.toNat_sub_of_le _ _ (UInt64.le_iff_toNat_le.2 h)
theorem ne_one {n : UInt64} (h : 2 ≤ n.toNat) : ¬ n = 1 := fun h1 => by rw [h1] at h; exact absurd h (by decide)
theorem upR_root (k : Nat) : ∀ (N : Nat) {S : List (List UInt8)} {i n : UInt64}, S.length ≤ N → S.length = n.toNat → i.toNat < n.toNat → (upR k (S.getD i.toNat default) i n (incL k S i.toNat).reverse).1 = lg k S := by
  intro N
  induction N with
  | zero => intro S i n hN hS hi; omega
  | succ N ih =>
    intro S i n hN hS hi
    rcases Nat.lt_or_ge n.toNat 2 with h2 | h2
    · have hn : n = 1 := UInt64.toNat.inj (by show n.toNat = 1; omega)
      obtain ⟨z, rfl⟩ : ∃ z, S = [z] := by
        match S, (show S.length = 1 by omega) with
        | [z], _ => exact ⟨z, rfl⟩
      rw [incL_one (by simp), List.reverse_nil, upR, if_pos hn, lg_one, show i.toNat = 0 by omega]; rfl
    · have hs := splitU_nat h2
      have hs' : splitN S.length = (splitU n).toNat := by rw [hs, hS]
      have e1 := splitN_lt h2
      have e2 := splitN_pos n.toNat
      have ht : (S.take (splitU n).toNat).length = (splitU n).toNat := by rw [List.length_take]; omega
      have hd : (S.drop (splitU n).toNat).length = n.toNat - (splitU n).toNat := by rw [List.length_drop]; omega
      have hl := lg_two k (l := S) (by omega)
      rw [hs'] at hl
      by_cases hi2 : i.toNat < (splitU n).toNat
      · rw [incL_left (by omega) hs' hi2, List.reverse_append, List.reverse_singleton, List.singleton_append, upR, if_neg (ne_one h2), if_pos (UInt64.lt_iff_toNat_lt.2 hi2), hl]
        show nd k (upR k _ i (splitU n) _).1 _ = _
        rw [← getD_take' hi2, ih (by omega) ht (by omega)]
      · have hsub := sub_nat (a := i) (b := splitU n) (by omega)
        have hsub2 := sub_nat (a := n) (b := splitU n) (by omega)
        rw [incL_right (by omega) hs' hi2, List.reverse_append, List.reverse_singleton, List.singleton_append, upR, if_neg (ne_one h2), if_neg (fun h => hi2 (UInt64.lt_iff_toNat_lt.1 h)), hl]
        show nd k _ (upR k _ (i - splitU n) (n - splitU n) _).1 = _
        have h9 : S.getD i.toNat default = (S.drop (splitU n).toNat).getD (i - splitU n).toNat default := by rw [getD_drop', hsub, show (splitU n).toNat + (i.toNat - (splitU n).toNat) = i.toNat by omega]
        rw [h9, ← hsub, ih (by omega) (by rw [hd, hsub2]) (by omega)]
theorem lg_takes (k : Nat) {S : List (List UInt8)} {m s : Nat} (hs : splitN S.length = s) (h2 : 2 ≤ S.length) (h : s < m) (hm : m ≤ S.length) : lg k (S.take m) = nd k (lg k (S.take s)) (lg k ((S.drop s).take (m - s))) := by
  have hl : (S.take m).length = m := by rw [List.length_take]; omega
  have e2 := splitN_ge h2
  have e3 : splitN m = s := splitN_eq (j := Nat.log2 (S.length - 1)) (by rw [← hs]; rfl) h (by omega)
  have h9 := lg_two k (l := S.take m) (by have := splitN_pos S.length; omega)
  rw [hl, e3, List.take_take, Nat.min_eq_left (by omega), List.drop_take] at h9
  exact h9
theorem twoR_root (k : Nat) : ∀ (N : Nat) {S : List (List UInt8)} {m n : UInt64} {b : Bool} {o : List UInt8}, S.length ≤ N → S.length = n.toNat → 1 ≤ m.toNat → m.toNat ≤ n.toNat → (b = true → o = lg k (S.take m.toNat)) →
    (twoR k o m n b (conL k S m.toNat b).reverse).1 = (lg k (S.take m.toNat), lg k S) := by
  intro N
  induction N with
  | zero => intro S m n b o hN hS h1 hm; omega
  | succ N ih =>
    intro S m n b o hN hS h1 hm ho
    by_cases he : m = n
    · subst he
      rw [conL_end hS.symm]
      cases b with
      | true =>
        rw [if_pos rfl, List.reverse_nil, twoR, if_pos ⟨rfl, rfl⟩, ho rfl, List.take_of_length_le (by omega)]
      | false =>
        rw [if_neg (by simp), List.reverse_singleton, twoR, if_neg (by simp), if_pos rfl, List.take_of_length_le (by omega)]
    · have hne : ¬ m.toNat = S.length := fun h => he (UInt64.toNat.inj (h.trans hS))
      have h2 : 2 ≤ n.toNat := by omega
      have hs := splitU_nat h2
      have hs' : splitN S.length = (splitU n).toNat := by rw [hs, hS]
      have e1 := splitN_lt h2
      have e2 := splitN_pos n.toNat
      have ht : (S.take (splitU n).toNat).length = (splitU n).toNat := by rw [List.length_take]; omega
      have hd : (S.drop (splitU n).toNat).length = n.toNat - (splitU n).toNat := by rw [List.length_drop]; omega
      have hl := lg_two k (l := S) (by omega)
      rw [hs'] at hl
      by_cases hi2 : m.toNat ≤ (splitU n).toNat
      · have h9 := ih (S := S.take (splitU n).toNat) (m := m) (n := splitU n) (b := b) (o := o) (by omega) ht h1 hi2 (fun hb => by rw [ho hb, List.take_take, Nat.min_eq_left hi2])
        rw [List.take_take, Nat.min_eq_left hi2] at h9
        rw [conL_left hne (by omega) hs' hi2, List.reverse_append, List.reverse_singleton, List.singleton_append, twoR, if_neg (fun h => he h.1), if_neg he, if_pos (UInt64.le_iff_toNat_le.2 hi2), hl]
        show ((twoR k o m (splitU n) b _).1.1, nd k (twoR k o m (splitU n) b _).1.2 _) = _
        rw [h9]
      · have hsub := sub_nat (a := m) (b := splitU n) (by omega)
        have hsub2 := sub_nat (a := n) (b := splitU n) (by omega)
        have h9 := ih (S := S.drop (splitU n).toNat) (m := m - splitU n) (n := n - splitU n) (b := false) (o := o) (by omega) (by rw [hd, hsub2]) (by omega) (by omega) (fun hb => by cases hb)
        rw [hsub] at h9
        rw [conL_right hne (by omega) hs' hi2, List.reverse_append, List.reverse_singleton, List.singleton_append, twoR, if_neg (fun h => he h.1), if_neg he, if_neg (fun h => hi2 (UInt64.le_iff_toNat_le.1 h)), hl, lg_takes k (m := m.toNat) hs' (by omega) (by omega) (by omega)]
        show (nd k _ (twoR k o (m - splitU n) (n - splitU n) false _).1.1, nd k _ (twoR k o (m - splitU n) (n - splitU n) false _).1.2) = _
        rw [h9]
theorem allE_zero {k : Nat} (h1 : 1 ≤ k) (h2 : k ≤ 32) {P l : List (List UInt8)} (hl : ∀ d ∈ l, fm (k : Int) d = true) (hP : ∀ d ∈ P, fm (k : Int) d = true) : allE (k : Int) P l = 0 := by
  unfold allE
  rw [chk_all (wd_of h1 h2) hl, if_neg (by simp), chk_all (wd_of h1 h2) hP]
theorem one_all {p : List UInt8 → Prop} {x : List UInt8} (h : p x) : ∀ d ∈ [x], p d := fun d hd => by rw [List.mem_singleton.1 hd]; exact h
theorem nz {n i : UInt64} (h : i.toNat < n.toNat) : n ≠ 0 := fun h1 => by rw [h1] at h; exact absurd h (Nat.not_lt_zero _)
theorem rootO_flag {k : Nat} (h1 : 1 ≤ k) (h2 : k ≤ 32) {leaf : List UInt8} {P : List (List UInt8)} {i n : UInt64} (hl : fm (k : Int) leaf = true) (hP : ∀ d ∈ P, fm (k : Int) d = true) (hi : i.toNat < n.toNat) :
    rootO (k : Int) leaf i n P = if P.length = (splitsL i n).length then ((upR k leaf i n P.reverse).1, 0) else (zeros32, 10) := by
  have h9 : ¬ n ≤ i := fun h => by have := UInt64.le_iff_toNat_le.1 h; omega
  unfold rootO
  rw [allE_zero h1 h2 (one_all hl) hP, if_neg (by simp), if_neg h9, Int.toNat_natCast, up_flag_len k _ _ _ _ (nz hi), List.length_reverse]
  simp only [decide_eq_true_eq]
theorem inclO_flag {k : Nat} (h1 : 1 ≤ k) (h2 : k ≤ 32) {leaf root : List UInt8} {P : List (List UInt8)} {i n : UInt64} (hl : fm (k : Int) leaf = true) (hP : ∀ d ∈ P, fm (k : Int) d = true) (hr : fm (k : Int) root = true) (hi : i.toNat < n.toNat) :
    inclO (k : Int) leaf i n P root = if P.length = (splitsL i n).length then (if (upR k leaf i n P.reverse).1 ≠ root then 10 else 0) else 10 := by
  unfold inclO
  rw [chk_all (wd_of h1 h2) (one_all hr), if_neg (by simp), rootO_flag h1 h2 hl hP hi]
  split
  · rw [if_neg (by simp)]
  · rw [if_pos (by simp)]
theorem inclO_rng {k : Nat} (h1 : 1 ≤ k) (h2 : k ≤ 32) {leaf root : List UInt8} {P : List (List UInt8)} {i n : UInt64} (hl : fm (k : Int) leaf = true) (hP : ∀ d ∈ P, fm (k : Int) d = true) (hr : fm (k : Int) root = true) (hi : n.toNat ≤ i.toNat) :
    inclO (k : Int) leaf i n P root = 4 := by
  have h9 : rootO (k : Int) leaf i n P = (zeros32, 4) := by
    unfold rootO
    rw [allE_zero h1 h2 (one_all hl) hP, if_neg (by simp), if_pos (UInt64.le_iff_toNat_le.2 hi)]
  unfold inclO
  rw [chk_all (wd_of h1 h2) (one_all hr), if_neg (by simp), h9, if_pos (by simp)]
theorem inc_cnt (k : Nat) {S : List (List UInt8)} {i n : UInt64} (hS : S.length = n.toNat) (hi : i.toNat < n.toNat) : (incL k S i.toNat).length = (splitsL i n).length := by
  rw [splitsL_st _ i n (Nat.le_refl _) (UInt64.lt_iff_toNat_lt.2 hi), incL_st k _ (Nat.le_refl _), hS]
theorem rootsO_flag {k : Nat} (h1 : 1 ≤ k) (h2 : k ≤ 32) {old : List UInt8} {P : List (List UInt8)} {m n : UInt64} (ho : fm (k : Int) old = true) (hP : ∀ d ∈ P, fm (k : Int) d = true) (hm1 : 1 ≤ m.toNat) (hm : m.toNat < n.toNat) :
    rootsO (k : Int) m n old P = if P.length = cntL m n true then ((twoR k old m n true P.reverse).1, 0) else ((zeros32, zeros32), 10) := by
  have h9 : ¬ (m < 1 ∨ n ≤ m) := fun h => h.elim (fun h => by have := UInt64.lt_iff_toNat_lt.1 h; rw [show (1 : UInt64).toNat = 1 from rfl] at this; omega) (fun h => by have := UInt64.le_iff_toNat_le.1 h; omega)
  unfold rootsO
  rw [allE_zero h1 h2 (one_all ho) hP, if_neg (by simp), if_neg h9, Int.toNat_natCast, two_flag_len k _ _ _ _ _ (fun h => by rw [h] at hm1; exact absurd hm1 (by decide)) (UInt64.le_iff_toNat_le.2 (Nat.le_of_lt hm)), List.length_reverse]
  simp only [decide_eq_true_eq]
theorem con_cnt (k : Nat) {S : List (List UInt8)} {m n : UInt64} (hS : S.length = n.toNat) (hm1 : 1 ≤ m.toNat) (hm : m.toNat ≤ n.toNat) : (conL k S m.toNat true).length = cntL m n true :=
  conL_cnt k _ (Nat.le_refl _) hS (fun h => by rw [h] at hm1; exact absurd hm1 (by decide)) (UInt64.le_iff_toNat_le.2 hm)
theorem roots_honest {k : Nat} (h1 : 1 ≤ k) (h2 : k ≤ 32) {S : List (List UInt8)} {m n : UInt64} (hd : ∀ d ∈ S, d.length = 32) (hf : ∀ d ∈ S, fm (k : Int) d = true) (hS : S.length = n.toNat) (hm1 : 1 ≤ m.toNat) (hm : m.toNat < n.toNat) :
    rootsO (k : Int) m n (lg k (S.take m.toNat)) (conL k S m.toNat true) = ((lg k (S.take m.toNat), lg k S), 0) := by
  rw [rootsO_flag h1 h2 (lg_fm h1 h2 fun d hd' => hf d (List.mem_of_mem_take hd')) (fun d hd' => (conL_mem h1 h2 _ (Nat.le_refl _) hd hf d hd').2) hm1 hm, if_pos (con_cnt k hS hm1 (Nat.le_of_lt hm)),
    twoR_root k _ (Nat.le_refl _) hS hm1 (Nat.le_of_lt hm) (fun _ => rfl)]
theorem two_all {p : List UInt8 → Prop} {x y : List UInt8} (h : p x) (h' : p y) : ∀ d ∈ [x, y], p d := fun d hd => by
  simp only [List.mem_cons, List.not_mem_nil, or_false] at hd; rcases hd with rfl | rfl <;> assumption
theorem cons_honest {k : Nat} (h1 : 1 ≤ k) (h2 : k ≤ 32) {S : List (List UInt8)} {m n : UInt64} (hd : ∀ d ∈ S, d.length = 32) (hf : ∀ d ∈ S, fm (k : Int) d = true) (hS : S.length = n.toNat) (hm : m.toNat ≤ n.toNat) :
    consO (k : Int) m n (lg k (S.take m.toNat)) (lg k S) (if m.toNat = 0 then [] else conL k S m.toNat true) = 0 := by
  have ho : fm (k : Int) (lg k (S.take m.toNat)) = true := lg_fm h1 h2 fun d hd' => hf d (List.mem_of_mem_take hd')
  have hr : fm (k : Int) (lg k S) = true := lg_fm h1 h2 hf
  have hP : ∀ d ∈ (if m.toNat = 0 then [] else conL k S m.toNat true), fm (k : Int) d = true := fun d hd' => by
    split at hd'
    · cases hd'
    · exact (conL_mem h1 h2 _ (Nat.le_refl _) hd hf d hd').2
  have hE := allE_zero h1 h2 (two_all ho hr) hP
  have hlt : ¬ n < m := fun h => by have := UInt64.lt_iff_toNat_lt.1 h; omega
  by_cases he : m = n
  · subst he
    rw [consO_eq hE hlt rfl, if_pos]
    refine ⟨?_, by rw [List.take_of_length_le (by omega)]⟩
    split
    · rfl
    · rw [conL_end hS.symm]; rfl
  · by_cases h0 : m = 0
    · rw [consO_zero hE hlt he h0, if_pos]
      have h00 : m.toNat = 0 := by rw [h0]; rfl
      rw [if_pos h00, h00, List.take_zero, lg_nil, Int.toNat_natCast]; exact ⟨rfl, rfl⟩
    · have hm0 : ¬ m.toNat = 0 := fun h => h0 (UInt64.toNat.inj h)
      have hm9 : m.toNat < n.toNat := by
        rcases Nat.lt_or_ge m.toNat n.toNat with h | h
        · exact h
        · exact absurd (UInt64.toNat.inj (by omega)) he
      rw [consO_two hE hlt he h0, if_neg hm0, roots_honest h1 h2 hd hf hS (by omega) hm9, if_pos ⟨rfl, rfl⟩]
theorem cons_self {k : Nat} (h1 : 1 ≤ k) (h2 : k ≤ 32) {n : UInt64} {r : List UInt8} (hr : fm (k : Int) r = true) : consO (k : Int) n n r r [] = 0 := by
  rw [consO_eq (allE_zero h1 h2 (two_all hr hr) (fun _ h => by cases h)) (fun h => by have := UInt64.lt_iff_toNat_lt.1 h; omega) rfl, if_pos ⟨rfl, rfl⟩]
theorem cons_more {k : Nat} (h1 : 1 ≤ k) (h2 : k ≤ 32) {S : List (List UInt8)} {m n : UInt64} (hd : ∀ d ∈ S, d.length = 32) (hf : ∀ d ∈ S, fm (k : Int) d = true) (hS : S.length = n.toNat) (hm1 : 1 ≤ m.toNat) (hm : m.toNat < n.toNat) :
    consO (k : Int) m n (lg k (S.take m.toNat)) (lg k S) (conL k S m.toNat true ++ [zeros32]) = 10 := by
  have ho : fm (k : Int) (lg k (S.take m.toNat)) = true := lg_fm h1 h2 fun d hd' => hf d (List.mem_of_mem_take hd')
  have hr : fm (k : Int) (lg k S) = true := lg_fm h1 h2 hf
  have hP : ∀ d ∈ conL k S m.toNat true ++ [zeros32], fm (k : Int) d = true := fun d hd' => by
    rcases List.mem_append.1 hd' with h | h
    · exact (conL_mem h1 h2 _ (Nat.le_refl _) hd hf d h).2
    · rw [List.mem_singleton.1 h]; exact fm_zeros h1 h2
  have hE := allE_zero h1 h2 (two_all ho hr) hP
  rw [consO_two hE (fun h => by have := UInt64.lt_iff_toNat_lt.1 h; omega) (fun h => by rw [h] at hm; omega) (fun h => by rw [h] at hm1; exact absurd hm1 (by decide)),
    rootsO_flag h1 h2 ho hP hm1 hm, if_neg (by rw [List.length_append, con_cnt k hS hm1 (Nat.le_of_lt hm)]; simp)]
end Go.Ps
