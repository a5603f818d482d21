/- Plain law of layer 12: the way down from a size, place by place; two ways up over unlike leaves. -/
import Derived.Test.YtcappcjogcekkaaDoorPMck
set_option linter.unusedVariables false
set_option linter.unusedSimpArgs false
namespace Go.Ps

theorem split_lt {n : UInt64} (h : 2 ≤ n.toNat) : (splitU n).toNat < n.toNat ∧ (n - splitU n).toNat < n.toNat ∧ (n - splitU n).toNat = n.toNat - (splitU n).toNat ∧ 1 ≤ (splitU n).toNat := by
  have h1 := splitU_nat h
  have h2 := splitN_lt h
  have h3 := splitN_pos n.toNat
  have h4 : (n - splitU n).toNat = n.toNat - (splitU n).toNat := UInt64.toNat_sub_of_le _ _ (UInt64.le_iff_toNat_le.2 (by omega))
  omega
/-- The way from the root of the size n down to the leaf i. -/
def splitsL (i n : UInt64) : List Bool :=
  if h : 2 ≤ n.toNat then (if i < splitU n then true :: splitsL i (splitU n) else false :: splitsL (i - splitU n) (n - splitU n)) else []
termination_by n.toNat
decreasing_by
  · exact (split_lt h).1
  · exact (split_lt h).2.1
theorem splitsL_end {i n : UInt64} (h : ¬ 2 ≤ n.toNat) : splitsL i n = [] := by rw [splitsL, dif_neg h]
theorem splitsL_left {i n : UInt64} (h : 2 ≤ n.toNat) (hi : i < splitU n) : splitsL i n = true :: splitsL i (splitU n) := by rw [splitsL, dif_pos h, if_pos hi]
theorem splitsL_right {i n : UInt64} (h : 2 ≤ n.toNat) (hi : ¬ i < splitU n) : splitsL i n = false :: splitsL (i - splitU n) (n - splitU n) := by rw [splitsL, dif_pos h, if_neg hi]
/-- Up along a way. -/
def upD (k : Nat) (leaf : List UInt8) : List Bool → List (List UInt8) → List UInt8
  | d :: ds, p :: r => if d = true then nd k (upD k leaf ds r) p else nd k p (upD k leaf ds r)
  | _, _ => leaf
theorem up_way (k : Nat) (leaf : List UInt8) : ∀ (r : List (List UInt8)) (i n : UInt64), n ≠ 0 → (upR k leaf i n r).2 = true → (upR k leaf i n r).1 = upD k leaf (splitsL i n) r ∧ (splitsL i n).length = r.length
  | [], i, n, _, h => by
    unfold upR at h ⊢
    by_cases h1 : n = 1
    · subst h1
      rw [splitsL_end (by decide)]; exact ⟨rfl, rfl⟩
    · rw [if_neg h1] at h; cases h
  | p :: r, i, n, h0, h => by
    unfold upR at h ⊢
    by_cases h1 : n = 1
    · rw [if_pos h1] at h; cases h
    · rw [if_neg h1] at h ⊢
      have hn0 : n.toNat ≠ 0 := fun h2 => h0 (UInt64.toNat.inj h2)
      have hn1 : n.toNat ≠ 1 := fun h2 => h1 (UInt64.toNat.inj h2)
      have h2 : 2 ≤ n.toNat := by omega
      obtain ⟨hs1, hs2, hs3, hs4⟩ := split_lt h2
      have h9 : (0 : UInt64).toNat = 0 := rfl
      by_cases hi : i < splitU n
      · rw [if_pos hi] at h ⊢
        have ih := up_way k leaf r i (splitU n) (fun h3 => by rw [h3] at hs4; omega) h
        rw [splitsL_left h2 hi, upD, if_pos rfl, ih.1, List.length_cons, List.length_cons, ih.2]; exact ⟨rfl, rfl⟩
      · rw [if_neg hi] at h ⊢
        have ih := up_way k leaf r (i - splitU n) (n - splitU n) (fun h3 => by rw [h3] at hs3; omega) h
        rw [splitsL_right h2 hi, upD, if_neg (by decide), ih.1, List.length_cons, List.length_cons, ih.2]; exact ⟨rfl, rfl⟩
/-- After j places from the leaf on. -/
def upJ (k : Nat) (leaf : List UInt8) (ws : List Bool) (P : List (List UInt8)) (j : Nat) : List UInt8 := upD k leaf (ws.drop (ws.length - j)) (P.reverse.drop (P.length - j))
theorem upJ_zero (k : Nat) (leaf : List UInt8) (ws : List Bool) (P : List (List UInt8)) : upJ k leaf ws P 0 = leaf := by
  rw [upJ, Nat.sub_zero, Nat.sub_zero, List.drop_length, List.drop_of_length_le (by simp)]; rfl
theorem upJ_all {k : Nat} {leaf : List UInt8} {ws : List Bool} {P : List (List UInt8)} (h : ws.length = P.length) : upJ k leaf ws P P.length = upD k leaf ws P.reverse := by
  rw [upJ, h, Nat.sub_self, List.drop_zero, List.drop_zero]
theorem upJ_succ {k : Nat} {leaf : List UInt8} {ws : List Bool} {P : List (List UInt8)} (h : ws.length = P.length) {j : Nat} (hj : j < P.length) :
    upJ k leaf ws P (j + 1) = if ws.getD (P.length - 1 - j) default = true then nd k (upJ k leaf ws P j) (P.getD j default) else nd k (P.getD j default) (upJ k leaf ws P j) := by
  have hw : P.length - (j + 1) < ws.length := by omega
  have hp : P.length - (j + 1) < P.reverse.length := by rw [List.length_reverse]; omega
  have e1 : ws.drop (ws.length - (j + 1)) = ws.getD (P.length - 1 - j) default :: ws.drop (ws.length - j) := by
    rw [h, List.drop_eq_getElem_cons hw, show P.length - (j + 1) + 1 = P.length - j by omega, List.getD_eq_getElem?_getD, List.getElem?_eq_getElem (by omega)]
    simp only [Option.getD_some]
    congr 2
    omega
  have e2 : P.reverse.drop (P.length - (j + 1)) = P.getD j default :: P.reverse.drop (P.length - j) := by
    rw [List.drop_eq_getElem_cons hp, show P.length - (j + 1) + 1 = P.length - j by omega, List.getElem_reverse, List.getD_eq_getElem?_getD, List.getElem?_eq_getElem hj]
    simp only [Option.getD_some]
    congr 2
    omega
  rw [upJ, e1, e2, upD]; rfl
theorem upJ_len {k : Nat} (h2 : k ≤ 32) {leaf : List UInt8} (hl : leaf.length = 32) {ws : List Bool} {P : List (List UInt8)} (h : ws.length = P.length) {j : Nat} (hj : j ≤ P.length) : (upJ k leaf ws P j).length = 32 := by
  cases j with
  | zero => rw [upJ_zero]; exact hl
  | succ j => rw [upJ_succ h (by omega)]; split <;> exact nd_len _ _ _ h2
theorem upJ_fm {k : Nat} (h1 : 1 ≤ k) (h2 : k ≤ 32) {leaf : List UInt8} (hl : fm (k : Int) leaf = true) {ws : List Bool} {P : List (List UInt8)} (h : ws.length = P.length) {j : Nat} (hj : j ≤ P.length) : fm (k : Int) (upJ k leaf ws P j) = true := by
  cases j with
  | zero => rw [upJ_zero]; exact hl
  | succ j => rw [upJ_succ h (by omega)]; split <;> exact fm_nd h1 h2 _ _
theorem rootO_ok {w : Int} {leaf : List UInt8} {i n : UInt64} {P : List (List UInt8)} (h : (rootO w leaf i n P).2 = 0) : ∃ k : Nat, w = (k : Int) ∧ 1 ≤ k ∧ k ≤ 32 ∧ fm (k : Int) leaf = true ∧ (∀ d ∈ P, fm (k : Int) d = true) ∧
    (splitsL i n).length = P.length ∧ (rootO w leaf i n P).1 = upJ k leaf (splitsL i n) P P.length := by
  unfold rootO at h ⊢
  by_cases h1 : allE w P [leaf] = 0
  · rw [if_neg (by simp [h1])] at h ⊢
    obtain ⟨hw, hl, hp⟩ := allE_ok h1
    obtain ⟨k, rfl, hk1, hk2⟩ := wd_nat hw
    by_cases h2 : n ≤ i
    · rw [if_pos h2] at h; cases h
    · rw [if_neg h2] at h ⊢
      rw [Int.toNat_natCast] at h ⊢
      cases h3 : (upR k leaf i n P.reverse).2 with
      | false => rw [if_neg (by rw [h3]; decide)] at h; cases h
      | true =>
        have h4 := up_way k leaf P.reverse i n (fun h0 => h2 (by rw [h0]; exact UInt64.le_iff_toNat_le.2 (Nat.zero_le _))) h3
        rw [List.length_reverse] at h4
        refine ⟨k, rfl, hk1, hk2, hl leaf (by simp), hp, h4.2, ?_⟩
        rw [if_pos rfl, upJ_all h4.2]; exact h4.1
  · rw [if_pos h1] at h; exact absurd h h1
theorem splitsL_len : ∀ (m : Nat) (i n : UInt64), n.toNat ≤ 2 ^ m → (splitsL i n).length ≤ m
  | 0, i, n, h => by
    have h1 : ¬ 2 ≤ n.toNat := by omega
    rw [splitsL_end h1]; exact Nat.zero_le _
  | m + 1, i, n, h => by
    by_cases h2 : 2 ≤ n.toNat
    · obtain ⟨hs1, hs2, hs3, hs4⟩ := split_lt h2
      have h5 := splitU_nat h2
      have h6 := splitN_ge h2
      have h7 : splitN n.toNat ≤ 2 ^ m := by
        rw [splitN]
        refine Nat.pow_le_pow_right (by omega) ?_
        have h8 : 2 ^ Nat.log2 (n.toNat - 1) < 2 ^ (m + 1) := by
          have := splitN_lt h2; rw [splitN] at this; omega
        have := (Nat.pow_lt_pow_iff_right (show 1 < 2 by omega)).1 h8
        omega
      by_cases hi : i < splitU n
      · rw [splitsL_left h2 hi, List.length_cons]
        have := splitsL_len m i (splitU n) (by omega); omega
      · rw [splitsL_right h2 hi, List.length_cons]
        have := splitsL_len m (i - splitU n) (n - splitU n) (by omega); omega
    · rw [splitsL_end h2]; exact Nat.zero_le _
end Go.Ps
