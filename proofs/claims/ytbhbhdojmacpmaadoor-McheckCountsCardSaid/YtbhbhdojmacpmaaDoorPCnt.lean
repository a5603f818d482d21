/- Plain law of layer 11's counts: how many digests a proof has. -/
import Derived.Test.YtbhbhdojmacpmaaDoorPShow
set_option linter.unusedVariables false
set_option linter.unusedSimpArgs false
namespace Go.Ps

def len64 (x : Nat) : Nat := if x = 0 then 0 else x.log2 + 1
theorem len64_le (x : UInt64) : len64 x.toNat ≤ 64 := by
  unfold len64; split; omega
  rename_i h
  have h1 := Nat.log2_self_le h
  have h2 := x.toNat_lt
  have h3 := (Nat.pow_lt_pow_iff_right (show 1 < 2 by omega)).1 (Nat.lt_of_le_of_lt h1 h2)
  omega
theorem len64_step {x s : Nat} (h : 2 ^ s ≤ x) : len64 x = s + len64 (x / 2 ^ s) := by
  have hp : 1 ≤ 2 ^ s := Nat.one_le_two_pow
  have hx : x ≠ 0 := by omega
  have hd : x / 2 ^ s ≠ 0 := by have := Nat.div_pos h (by omega); omega
  unfold len64
  rw [if_neg hx, if_neg hd]
  have h1 := Nat.log2_self_le hd
  have h2 := Nat.lt_log2_self (n := x / 2 ^ s)
  have h3 : x.log2 = s + (x / 2 ^ s).log2 := by
    rw [Nat.log2_eq_iff hx, Nat.pow_add, show s + (x / 2 ^ s).log2 + 1 = s + ((x / 2 ^ s).log2 + 1) by omega, Nat.pow_add]
    constructor
    · calc 2 ^ s * 2 ^ (x / 2 ^ s).log2 ≤ 2 ^ s * (x / 2 ^ s) := Nat.mul_le_mul_left _ h1
        _ ≤ x := Nat.mul_div_le _ _
    · have h4 : x / 2 ^ s + 1 ≤ 2 ^ ((x / 2 ^ s).log2 + 1) := h2
      have h5 := Nat.mul_le_mul_left (2 ^ s) h4
      have h6 := Nat.lt_mul_div_succ x (show 0 < 2 ^ s by omega)
      omega
  omega
theorem shr_nat {x : UInt64} {s : Nat} (h : s < 64) : (x >>> UInt64.ofNat s).toNat = x.toNat / 2 ^ s := by
  rw [UInt64.toNat_shiftRight, UInt64.toNat_ofNat', Nat.mod_eq_of_lt (show s < 2 ^ 64 by omega), Nat.mod_eq_of_lt h, Nat.shiftRight_eq_div_pow]
theorem below_eq {n : UInt64} (h : 2 ≤ n.toNat) : (1 : UInt64) <<< UInt64.ofNat (len64 (n - 1).toNat - 1) = splitU n := by
  have h1 : (n - 1).toNat = n.toNat - 1 := UInt64.toNat_sub_of_le _ _ (UInt64.le_iff_toNat_le.2 (show 1 ≤ n.toNat by omega))
  have h2 : len64 (n.toNat - 1) - 1 = (n.toNat - 1).log2 := by unfold len64; rw [if_neg (by omega)]; omega
  have h3 := splitU_nat h
  have h4 := splitN_lt h
  have h5 := n.toNat_lt
  rw [h1, h2]
  apply UInt64.toNat.inj
  rw [h3, splitN] at *
  have h6 : (n.toNat - 1).log2 < 64 := by
    have := (Nat.pow_lt_pow_iff_right (show 1 < 2 by omega)).1 (Nat.lt_trans h4 h5); omega
  rw [UInt64.toNat_shiftLeft, UInt64.toNat_ofNat', Nat.mod_eq_of_lt (show (n.toNat - 1).log2 < 2 ^ 64 by omega), Nat.mod_eq_of_lt h6]
  have h7 : (1 : UInt64).toNat = 1 := rfl
  rw [h7, Nat.one_shiftLeft, Nat.mod_eq_of_lt (by omega)]
/-- How many digests lead from a leaf up. -/
theorem up_flag_len (k : Nat) (leaf : List UInt8) : ∀ (r : List (List UInt8)) (i n : UInt64), n ≠ 0 → (upR k leaf i n r).2 = decide (r.length = (splitsL i n).length)
  | [], i, n, h0 => by
    unfold upR
    by_cases h1 : n = 1
    · subst h1; rw [splitsL_end (by decide)]; rfl
    · rw [if_neg h1]
      have hn0 : n.toNat ≠ 0 := fun h2 => h0 (UInt64.toNat.inj h2)
      have hn1 : n.toNat ≠ 1 := fun h2 => h1 (UInt64.toNat.inj h2)
      have h2 : 2 ≤ n.toNat := by omega
      by_cases hi : i < splitU n
      · rw [splitsL_left h2 hi]; rfl
      · rw [splitsL_right h2 hi]; rfl
  | p :: r, i, n, h0 => by
    unfold upR
    by_cases h1 : n = 1
    · subst h1; rw [if_pos rfl, splitsL_end (by decide)]; rfl
    · rw [if_neg h1]
      have hn0 : n.toNat ≠ 0 := fun h2 => h0 (UInt64.toNat.inj h2)
      have hn1 : n.toNat ≠ 1 := fun h2 => h1 (UInt64.toNat.inj h2)
      have h2 : 2 ≤ n.toNat := by omega
      obtain ⟨hs1, hs2, hs3, hs4⟩ := split_lt h2
      have h9 : (0 : UInt64).toNat = 0 := rfl
      by_cases hi : i < splitU n
      · rw [if_pos hi, splitsL_left h2 hi, up_flag_len k leaf r i (splitU n) (fun h3 => by rw [h3] at hs4; omega)]; simp
      · rw [if_neg hi, splitsL_right h2 hi, up_flag_len k leaf r (i - splitU n) (n - splitU n) (fun h3 => by rw [h3] at hs3; omega)]; simp
/-- How many digests lead to the two roots. -/
def cntL (m n : UInt64) (known : Bool) : Nat :=
  if m = n then (if known = true then 0 else 1) else
  if h : 2 ≤ n.toNat then (if m ≤ splitU n then cntL m (splitU n) known + 1 else cntL (m - splitU n) (n - splitU n) false + 1) else 0
termination_by n.toNat
decreasing_by
  · exact (split_lt h).1
  · exact (split_lt h).2.1
theorem cntL_end {m : UInt64} {known : Bool} : cntL m m known = if known = true then 0 else 1 := by rw [cntL, if_pos rfl]
theorem cntL_left {m n : UInt64} {known : Bool} (h0 : ¬ m = n) (h : 2 ≤ n.toNat) (hi : m ≤ splitU n) : cntL m n known = cntL m (splitU n) known + 1 := by rw [cntL, if_neg h0, dif_pos h, if_pos hi]
theorem cntL_right {m n : UInt64} {known : Bool} (h0 : ¬ m = n) (h : 2 ≤ n.toNat) (hi : ¬ m ≤ splitU n) : cntL m n known = cntL (m - splitU n) (n - splitU n) false + 1 := by rw [cntL, if_neg h0, dif_pos h, if_neg hi]
theorem two_flag_len (k : Nat) (old : List UInt8) : ∀ (r : List (List UInt8)) (m n : UInt64) (known : Bool), m ≠ 0 → m ≤ n → (twoR k old m n known r).2 = decide (r.length = cntL m n known)
  | r, m, n, known, h0, hle => by
    have h9 : (0 : UInt64).toNat = 0 := rfl
    have hm0 : m.toNat ≠ 0 := fun h2 => h0 (UInt64.toNat.inj h2)
    have hle' := UInt64.le_iff_toNat_le.1 hle
    by_cases he : m = n
    · subst he
      rw [cntL_end]
      cases known with
      | true => cases r <;> simp [twoR]
      | false => cases r with
        | nil => simp [twoR]
        | cons e t => cases t <;> simp [twoR]
    · have hne : m.toNat ≠ n.toNat := fun h => he (UInt64.toNat.inj h)
      have h2 : 2 ≤ n.toNat := by omega
      obtain ⟨hs1, hs2, hs3, hs4⟩ := split_lt h2
      by_cases hi : m ≤ splitU n
      · rw [cntL_left he h2 hi]
        cases r with
        | nil => unfold twoR; rw [if_neg (fun h => he h.1)]; simp
        | cons e r =>
          unfold twoR
          rw [if_neg (fun h => he h.1), if_neg he, if_pos hi]
          show (twoR k old m (splitU n) known r).2 = _
          rw [two_flag_len k old r m (splitU n) known h0 hi]; simp
      · have hgt : (splitU n).toNat < m.toNat := Nat.lt_of_not_le fun h => hi (UInt64.le_iff_toNat_le.2 h)
        have hms : (m - splitU n).toNat = m.toNat - (splitU n).toNat := UInt64.toNat_sub_of_le _ _ (UInt64.le_iff_toNat_le.2 (by omega))
        rw [cntL_right he h2 hi]
        cases r with
        | nil => unfold twoR; rw [if_neg (fun h => he h.1)]; simp
        | cons e r =>
          unfold twoR
          rw [if_neg (fun h => he h.1), if_neg he, if_neg hi]
          show (twoR k old (m - splitU n) (n - splitU n) false r).2 = _
          rw [two_flag_len k old r (m - splitU n) (n - splitU n) false (fun h => by rw [h] at hms; omega) (UInt64.le_iff_toNat_le.2 (by omega))]; simp
termination_by r => r.length
theorem cntL_le : ∀ (p : Nat) (m n : UInt64) (known : Bool), m ≠ 0 → m ≤ n → n.toNat ≤ 2 ^ p → cntL m n known ≤ p + 1
  | p, m, n, known, h0, hle, hp => by
    have h9 : (0 : UInt64).toNat = 0 := rfl
    have hm0 : m.toNat ≠ 0 := fun h2 => h0 (UInt64.toNat.inj h2)
    have hle' := UInt64.le_iff_toNat_le.1 hle
    by_cases he : m = n
    · subst he; rw [cntL_end]; split <;> omega
    · have hne : m.toNat ≠ n.toNat := fun h => he (UInt64.toNat.inj h)
      have h2 : 2 ≤ n.toNat := by omega
      obtain ⟨hs1, hs2, hs3, hs4⟩ := split_lt h2
      have h5 := splitU_nat h2
      have h6 := splitN_ge h2
      cases p with
      | zero => omega
      | succ p =>
        have h7 : splitN n.toNat ≤ 2 ^ p := by
          rw [splitN]
          refine Nat.pow_le_pow_right (by omega) ?_
          have h8 : 2 ^ Nat.log2 (n.toNat - 1) < 2 ^ (p + 1) := by
            have := splitN_lt h2; rw [splitN] at this; omega
          have := (Nat.pow_lt_pow_iff_right (show 1 < 2 by omega)).1 h8
          omega
        by_cases hi : m ≤ splitU n
        · rw [cntL_left he h2 hi]
          have := cntL_le p m (splitU n) known h0 hi (by omega); omega
        · have hgt : (splitU n).toNat < m.toNat := Nat.lt_of_not_le fun h => hi (UInt64.le_iff_toNat_le.2 h)
          have hms : (m - splitU n).toNat = m.toNat - (splitU n).toNat := UInt64.toNat_sub_of_le _ _ (UInt64.le_iff_toNat_le.2 (by omega))
          rw [cntL_right he h2 hi]
          have := cntL_le p (m - splitU n) (n - splitU n) false (fun h => by rw [h] at hms; omega) (UInt64.le_iff_toNat_le.2 (by omega)) (by omega); omega
end Go.Ps
