/- Plain law of layer 12: the way up in a size that is a power of two goes by the index's bits. -/
import Derived.Test.YtbhbhdojmacpmaaDoorPMck
set_option linter.unusedVariables false
set_option linter.unusedSimpArgs false
namespace Go.Ps

def bit0 (i : UInt64) (j : Nat) : Prop := (i >>> UInt64.ofNat j) &&& 1 = 0
instance (i : UInt64) (j : Nat) : Decidable (bit0 i j) := inferInstanceAs (Decidable (_ = _))
theorem bit0_iff {i : UInt64} {j : Nat} (hj : j < 64) : bit0 i j ↔ i.toNat.testBit j = false := by
  have h1 : ((i >>> UInt64.ofNat j) &&& 1).toNat = i.toNat >>> j % 2 := by
    rw [UInt64.toNat_and, UInt64.toNat_shiftRight, UInt64.toNat_ofNat', Nat.mod_eq_of_lt (show j < 2 ^ 64 by omega), Nat.mod_eq_of_lt hj]
    exact Nat.and_one_is_mod _
  have h2 : i.toNat.testBit j = (1 &&& (i.toNat >>> j) != 0) := rfl
  rw [Nat.and_comm, Nat.and_one_is_mod] at h2
  rw [h2, bit0, ← UInt64.toNat_inj, h1]
  have h3 : (0 : UInt64).toNat = 0 := rfl
  rw [h3]
  simp
/-- The way up from a leaf, the list's last digest first in hand. -/
def pwR (k : Nat) (i : UInt64) (leaf : List UInt8) : List (List UInt8) → List UInt8
  | [] => leaf
  | p :: r => if bit0 i r.length then nd k (pwR k i leaf r) p else nd k p (pwR k i leaf r)
theorem pwR_len {k : Nat} (h2 : k ≤ 32) {i : UInt64} {leaf : List UInt8} (hl : leaf.length = 32) : ∀ r, (pwR k i leaf r).length = 32
  | [] => hl
  | p :: r => by unfold pwR; split <;> exact nd_len _ _ _ h2
theorem pwR_fm {k : Nat} (h1 : 1 ≤ k) (h2 : k ≤ 32) {i : UInt64} {leaf : List UInt8} (hl : fm (k : Int) leaf = true) : ∀ r, fm (k : Int) (pwR k i leaf r) = true
  | [] => hl
  | p :: r => by unfold pwR; split <;> exact fm_nd h1 h2 _ _
theorem pwR_congr {k : Nat} {i j : UInt64} {leaf : List UInt8} : ∀ r, (∀ t, t < r.length → (bit0 i t ↔ bit0 j t)) → pwR k i leaf r = pwR k j leaf r
  | [], _ => rfl
  | p :: r, h => by
    have ih := pwR_congr (k := k) (i := i) (j := j) (leaf := leaf) r (fun t ht => h t (by simp only [List.length_cons]; omega))
    have h0 := h r.length (by simp)
    unfold pwR
    rw [ih]
    by_cases hb : bit0 i r.length
    · rw [if_pos hb, if_pos (h0.1 hb)]
    · rw [if_neg hb, if_neg (fun h => hb (h0.2 h))]
theorem splitN_pow {L : Nat} : splitN (2 ^ (L + 1)) = 2 ^ L := splitN_eq rfl (by rw [Nat.pow_succ]; have := Nat.one_le_two_pow (n := L); omega) (by rw [Nat.pow_succ]; omega)
theorem up_pw (k : Nat) (leaf : List UInt8) : ∀ (r : List (List UInt8)) (i n : UInt64), r.length ≤ 62 → n.toNat = 2 ^ r.length → i.toNat < 2 ^ r.length → upR k leaf i n r = (pwR k i leaf r, true)
  | [], i, n, _, hn, _ => by
    have : n = 1 := UInt64.toNat.inj hn
    rw [upR, if_pos this]; rfl
  | p :: r, i, n, hl, hn, hi => by
    simp only [List.length_cons] at hl hn hi
    have hp1 : 1 ≤ 2 ^ r.length := Nat.one_le_two_pow
    have hp2 : 2 ^ (r.length + 1) = 2 * 2 ^ r.length := by rw [Nat.pow_succ]; omega
    have hn2 : 2 ≤ n.toNat := by omega
    have hn1 : ¬ n = 1 := fun h => by rw [h] at hn2; exact absurd hn2 (by decide)
    have hs : (splitU n).toNat = 2 ^ r.length := by rw [splitU_nat hn2, hn, splitN_pow]
    rw [upR, if_neg hn1]
    by_cases hik : i < splitU n
    · have hi2 : i.toNat < 2 ^ r.length := by rw [← hs]; exact UInt64.lt_iff_toNat_lt.1 hik
      have ih := up_pw k leaf r i (splitU n) (by omega) hs hi2
      have hb : bit0 i r.length := (bit0_iff (by omega)).2 (Nat.testBit_lt_two_pow hi2)
      rw [if_pos hik, ih, pwR, if_pos hb]
    · have hi2 : 2 ^ r.length ≤ i.toNat := by rw [← hs]; exact Nat.le_of_not_lt fun h => hik (UInt64.lt_iff_toNat_lt.2 h)
      have h3 : (i - splitU n).toNat = i.toNat - 2 ^ r.length := by rw [UInt64.toNat_sub_of_le _ _ (UInt64.le_iff_toNat_le.2 (by omega)), hs]
      have h4 : (n - splitU n).toNat = 2 ^ r.length := by rw [UInt64.toNat_sub_of_le _ _ (UInt64.le_iff_toNat_le.2 (by omega)), hs, hn]; omega
      have ih := up_pw k leaf r (i - splitU n) (n - splitU n) (by omega) h4 (by omega)
      have he : i.toNat = 2 ^ r.length + (i - splitU n).toNat := by omega
      have hb : ¬ bit0 i r.length := fun h => by
        have h5 := (bit0_iff (by omega)).1 h
        rw [he, Nat.testBit_two_pow_add_eq, Nat.testBit_lt_two_pow (by omega)] at h5
        cases h5
      have hc : pwR k i leaf r = pwR k (i - splitU n) leaf r := pwR_congr r (fun t ht => by
        have h6 := bit0_iff (i := i) (j := t) (by omega)
        rw [he, Nat.testBit_two_pow_add_gt ht] at h6
        exact h6.trans (bit0_iff (by omega)).symm)
      rw [if_neg hik, ih, pwR, if_neg hb, hc]
theorem shl_nat {L : Nat} (h : L ≤ 62) : ((1 : UInt64) <<< UInt64.ofNat L).toNat = 2 ^ L := by
  rw [UInt64.toNat_shiftLeft, UInt64.toNat_ofNat', Nat.mod_eq_of_lt (show L < 2 ^ 64 by omega), Nat.mod_eq_of_lt (show L < 64 by omega)]
  have h1 : (1 : UInt64).toNat = 1 := rfl
  have h2 : 2 ^ L < 2 ^ 64 := Nat.pow_lt_pow_right (by omega) (by omega)
  rw [h1, Nat.one_shiftLeft, Nat.mod_eq_of_lt h2]
theorem take_rev_succ {l : List (List UInt8)} {j : Nat} (h : j < l.length) : (l.take (j + 1)).reverse = l.getD j default :: (l.take j).reverse := by
  rw [List.take_succ_eq_append_getElem h, List.reverse_append]
  simp [List.getD_eq_getElem?_getD, h]
end Go.Ps
