import Derived.Test.YtpmnhmfahgchgaaDoorPRef
set_option linter.unusedVariables false
set_option linter.unusedSimpArgs false
namespace Go.Ps

def wd (w : Int) : Bool := decide (1 ≤ w) && decide (w ≤ 32)
theorem wd_iff {w : Int} : wd w = true ↔ 1 ≤ w ∧ w ≤ 32 := by simp [wd]
/-- The first w bytes, then noughts. -/
def cutw (w : Nat) (d : List UInt8) : List UInt8 := d.take w ++ List.replicate (32 - w) 0
theorem cutw_len {w : Nat} {d : List UInt8} (hd : d.length = 32) (hw : w ≤ 32) : (cutw w d).length = 32 := by
  simp [cutw, hd]; omega
def zeros32 : List UInt8 := List.replicate 32 0
theorem zeros32_len : zeros32.length = 32 := rfl
def fm (w : Int) (d : List UInt8) : Bool := wd w && decide (cutw w.toNat d = d)
def chk (w : Int) (l : List (List UInt8)) : Nat := if wd w = true then (if l.all (fm w) = true then 0 else 3) else 1
/-- n bytes of v, the highest first. -/
def be (v : UInt64) (n : Nat) : List UInt8 := (List.range n).map fun j => (v >>> UInt64.ofNat (8 * (n - 1 - j))).toUInt8
theorem be_len (v : UInt64) (n : Nat) : (be v n).length = n := by simp [be]
theorem be_take_succ (v : UInt64) (n j : Nat) (h : j < n) : (be v n).take (j + 1) = (be v n).take j ++ [(v >>> UInt64.ofNat (8 * (n - 1 - j))).toUInt8] := by
  rw [List.take_succ_eq_append_getElem (by simp [be]; exact h)]
  simp [be]

theorem shr7_lt (v : UInt64) (h : ¬ v < 128) : (v >>> 7).toNat < v.toNat := by
  have h1 : 128 ≤ v.toNat := by
    have : ¬ v.toNat < (128 : UInt64).toNat := fun h2 => h (UInt64.lt_iff_toNat_lt.2 h2)
    simpa using this
  rw [UInt64.toNat_shiftRight]
  have : (7 : UInt64).toNat % 64 = 7 := rfl
  rw [this, Nat.shiftRight_eq_div_pow]
  omega
/-- A number in groups of seven bits, the lowest first. -/
def uvar (v : UInt64) : List UInt8 := if h : v < 128 then [v.toUInt8] else (v.toUInt8 ||| 128) :: uvar (v >>> 7)
termination_by v.toNat
decreasing_by exact shr7_lt v h
theorem uvar_lt {v : UInt64} (h : v < 128) : uvar v = [v.toUInt8] := by rw [uvar, dif_pos h]
theorem uvar_ge {v : UInt64} (h : ¬ v < 128) : uvar v = (v.toUInt8 ||| 128) :: uvar (v >>> 7) := by rw [uvar, dif_neg h]
theorem uvar_len_aux : ∀ (n : Nat) (v : UInt64), v.toNat < 128 ^ (n + 1) → (uvar v).length ≤ n + 1
  | 0, v, h => by rw [uvar_lt (UInt64.lt_iff_toNat_lt.2 (by simpa using h))]; simp
  | n + 1, v, h => by
    by_cases h1 : v < 128
    · rw [uvar_lt h1]; simp
    · rw [uvar_ge h1, List.length_cons]
      have h2 : (v >>> 7).toNat < 128 ^ (n + 1) := by
        rw [UInt64.toNat_shiftRight, show (7 : UInt64).toNat % 64 = 7 from rfl, Nat.shiftRight_eq_div_pow]
        rw [Nat.pow_succ] at h
        exact Nat.div_lt_of_lt_mul (by rw [Nat.mul_comm]; exact h)
      have := uvar_len_aux n (v >>> 7) h2
      omega
theorem uvar_len (v : UInt64) : (uvar v).length ≤ 10 := uvar_len_aux 9 v (by have := v.toNat_lt; omega)
def blob (p : List UInt8) : List UInt8 := uvar (UInt64.ofNat p.length) ++ p
theorem blob_len (p : List UInt8) : (blob p).length ≤ p.length + 10 := by have := uvar_len (UInt64.ofNat p.length); simp [blob]; omega

def leafI (p : List UInt8) : List UInt8 := [0] ++ p
def keyI (p : List UInt8) : List UInt8 := [2] ++ p
def nodeI (w : Nat) (l r : List UInt8) : List UInt8 := [1] ++ l.take w ++ r.take w
def pairsB (ps : List (List UInt8 × List UInt8)) : List UInt8 := ps.flatMap fun x => blob x.1 ++ blob x.2
def bucketI (ps : List (List UInt8 × List UInt8)) : List UInt8 := [3] ++ uvar (UInt64.ofNat ps.length) ++ pairsB ps
def kidsB (w : Nat) (ks : List (List UInt8)) : List UInt8 := ks.flatMap fun k => k.take w
def branchI (w : Nat) (bm : UInt16) (ks : List (List UInt8)) : List UInt8 := [4] ++ be bm.toUInt64 2 ++ kidsB w ks
def rootI (w : Nat) (size : UInt64) (log map : List UInt8) : List UInt8 := [6] ++ be size 8 ++ log.take w ++ map.take w
def dig (w : Nat) (p : List UInt8) : List UInt8 := cutw w (shaOf p)

/-- How many ones. -/
def onesF : Nat → Nat → Nat
  | 0, _ => 0
  | f + 1, n => n % 2 + onesF f (n / 2)
def ones (bm : UInt16) : Nat := onesF 16 bm.toNat
theorem onesF_zero : ∀ f, onesF f 0 = 0
  | 0 => rfl
  | f + 1 => by simp [onesF, onesF_zero f]
theorem onesF_split (f g : Nat) : ∀ (b a : Nat), b < 2 ^ f → onesF (f + g) (a * 2 ^ f + b) = onesF f b + onesF g a := by
  induction f with
  | zero => intro b a hb; have : b = 0 := by simpa using hb
            subst this; simp [onesF]
  | succ f ih =>
    intro b a hb
    have h1 : f + 1 + g = (f + g) + 1 := by omega
    rw [h1, onesF, onesF]
    have h0 : a * 2 ^ (f + 1) = 2 * (a * 2 ^ f) := by rw [Nat.pow_succ, ← Nat.mul_assoc, Nat.mul_comm]
    have h2 : (a * 2 ^ (f + 1) + b) / 2 = a * 2 ^ f + b / 2 := by rw [h0]; omega
    have h3 : (a * 2 ^ (f + 1) + b) % 2 = b % 2 := by rw [h0]; omega
    rw [h2, h3, ih _ _ (by rw [Nat.pow_succ] at hb; omega)]
    omega
theorem onesF_le : ∀ f n, onesF f n ≤ f
  | 0, _ => Nat.le_refl _
  | f + 1, n => by have := onesF_le f (n / 2); have := Nat.mod_lt n (show 0 < 2 by omega); simp only [onesF]; omega

/-! The reference's ways to the same bytes. -/
theorem shr_div (x : UInt64) (j : Nat) (hj : 8 * j < 64) : (x >>> UInt64.ofNat (8 * j)).toNat = x.toNat / 256 ^ j := by
  rw [UInt64.toNat_shiftRight, UInt64.toNat_ofNat', Nat.shiftRight_eq_div_pow]
  have h1 : 8 * j % 2 ^ 64 % 64 = 8 * j := by omega
  rw [h1, Nat.pow_mul]
theorem byte_div (x v : UInt64) (j : Nat) (hj : 8 * j < 64) (hv : v.toNat = x.toNat / 256 ^ j) : (v % 256).toUInt8 = (x >>> UInt64.ofNat (8 * j)).toUInt8 := by
  apply UInt8.toNat.inj
  rw [UInt64.toNat_toUInt8, UInt64.toNat_toUInt8, shr_div x j hj, UInt64.toNat_mod, hv]
  show x.toNat / 256 ^ j % 256 % 2 ^ 8 = _
  omega
/-- Filled from behind. -/
def wfill (x : UInt64) (n j : Nat) : List UInt8 := List.replicate (n - j) 0 ++ (be x n).drop (n - j)
theorem wfill_len (x : UInt64) (n j : Nat) (hj : j ≤ n) : (wfill x n j).length = n := by simp only [wfill, List.length_append, List.length_replicate, List.length_drop, be_len]; omega
theorem wfill_all (x : UInt64) (n : Nat) : wfill x n n = be x n := by simp [wfill]
theorem wfill_zero (x : UInt64) (n : Nat) : wfill x n 0 = List.replicate n 0 := by simp [wfill, be_len]
theorem wfill_succ (x : UInt64) (n j : Nat) (hj : j < n) : (wfill x n j).set (n - 1 - j) (x >>> UInt64.ofNat (8 * j)).toUInt8 = wfill x n (j + 1) := by
  apply List.ext_getElem?
  intro i
  rw [List.getElem?_set, wfill_len x n j (by omega)]
  have hb : ∀ k, k < n → (be x n)[k]? = some (x >>> UInt64.ofNat (8 * (n - 1 - k))).toUInt8 := fun k hk => by simp [be, hk]
  by_cases h1 : n - 1 - j = i
  · subst h1
    rw [if_pos rfl, if_pos (by omega), wfill, List.getElem?_append_right (by simp; omega), List.getElem?_drop, List.length_replicate, show n - (j + 1) + (n - 1 - j - (n - (j + 1))) = n - 1 - j by omega, hb _ (by omega), show n - 1 - (n - 1 - j) = j by omega]
  · rw [if_neg h1, wfill, wfill]
    rcases Nat.lt_or_ge i (n - 1 - j) with h | h
    · rw [List.getElem?_append_left (by simp; omega), List.getElem?_append_left (by simp; omega)]
      rw [List.getElem?_replicate, List.getElem?_replicate, if_pos (by omega), if_pos (by omega)]
    · rw [List.getElem?_append_right (by simp; omega), List.getElem?_append_right (by simp; omega), List.getElem?_drop, List.getElem?_drop]
      congr 1; simp; omega
theorem group_or : ∀ x : Fin 256, (UInt8.ofNat x.val % 128) + 128 = UInt8.ofNat x.val ||| 128 := by decide +kernel
theorem group_eq (v : UInt64) : (v % 128).toUInt8 + 128 = v.toUInt8 ||| 128 := by
  have h := group_or ⟨v.toNat % 256, Nat.mod_lt _ (by decide)⟩
  have h1 : v.toUInt8 = UInt8.ofNat (v.toNat % 256) := by
    apply UInt8.toNat.inj; rw [UInt64.toNat_toUInt8, UInt8.toNat_ofNat']; show _ % 256 = _ % 256 % 256; omega
  have h2 : (v % 128).toUInt8 = UInt8.ofNat (v.toNat % 256) % 128 := by
    apply UInt8.toNat.inj; rw [UInt64.toNat_toUInt8, UInt64.toNat_mod, UInt8.toNat_mod, UInt8.toNat_ofNat']; show _ % 128 % 256 = _ % 256 % 256 % 128; omega
  rw [h2, h1]; exact h
theorem div128 (v : UInt64) : v / (128 : UInt64) = v >>> (7 : UInt64) := by
  apply UInt64.toNat.inj
  rw [UInt64.toNat_div, UInt64.toNat_shiftRight, Nat.shiftRight_eq_div_pow]; rfl
/-- The digest, by noughts from the width on. -/
def cutFrom (d : List UInt8) (i : Nat) : Nat → List UInt8
  | 0 => d
  | j + 1 => (cutFrom d i j).set (i + j) 0
theorem cutFrom_len (d : List UInt8) (i j : Nat) : (cutFrom d i j).length = d.length := by
  induction j with
  | zero => rfl
  | succ j ih => rw [cutFrom, List.length_set, ih]
theorem cutFrom_get (d : List UInt8) (i j k : Nat) (hd : d.length = 32) (hk : k < 32) : (cutFrom d i j)[k]? = if i ≤ k ∧ k < i + j then some 0 else d[k]? := by
  induction j with
  | zero => rw [cutFrom, if_neg (by omega)]
  | succ j ih =>
    rw [cutFrom, List.getElem?_set, cutFrom_len, ih]
    by_cases h : i + j = k
    · rw [if_pos h, if_pos (by omega), if_pos (by omega)]
    · rw [if_neg h]
      by_cases h2 : i ≤ k ∧ k < i + j
      · rw [if_pos h2, if_pos (by omega)]
      · rw [if_neg h2, if_neg (by omega)]
theorem cutFrom_all (d : List UInt8) (w : Nat) (hd : d.length = 32) (hw : w ≤ 32) : cutFrom d w (32 - w) = cutw w d := by
  apply List.ext_getElem?
  intro k
  rcases Nat.lt_or_ge k 32 with hk | hk
  · rw [cutFrom_get d w _ k hd hk, cutw]
    by_cases h : k < w
    · rw [if_neg (by omega), List.getElem?_append_left (by simp; omega), List.getElem?_take, if_pos h]
    · rw [if_pos (by omega), List.getElem?_append_right (by simp; omega), List.getElem?_replicate, if_pos (by simp; omega)]
  · rw [List.getElem?_eq_none (by rw [cutFrom_len]; omega), List.getElem?_eq_none (by rw [cutw_len hd hw]; omega)]
theorem cutw_get (d : List UInt8) (w : Nat) (hd : d.length = 32) (hw : w ≤ 32) : cutw w d = d ↔ ∀ k, w ≤ k → k < 32 → d.getD k default = 0 := by
  rw [← cutFrom_all d w hd hw]
  constructor
  · intro h k h1 h2
    have := cutFrom_get d w (32 - w) k hd h2
    rw [if_pos (by omega), h] at this
    rw [List.getD_eq_getElem?_getD, this]; rfl
  · intro h
    apply List.ext_getElem?
    intro k
    rcases Nat.lt_or_ge k 32 with hk | hk
    · rw [cutFrom_get d w _ k hd hk]
      by_cases h2 : w ≤ k ∧ k < w + (32 - w)
      · rw [if_pos h2]
        have h3 := h k h2.1 hk
        rw [List.getD_eq_getElem?_getD] at h3
        have h4 : d[k]? = some d[k] := by simp
        rw [h4] at h3 ⊢; simp at h3; rw [h3]
      · rw [if_neg h2]
    · rw [List.getElem?_eq_none (by rw [cutFrom_len]; omega), List.getElem?_eq_none (by omega)]
theorem onesF_step (f : Nat) (x : Nat) : onesF (f + 1) x = x % 2 + onesF f (x / 2) := rfl
theorem onesF_more : ∀ (f g n : Nat), n < 2 ^ f → onesF (f + g) n = onesF f n
  | 0, g, n, h => by have : n = 0 := by simpa using h
                     subst this; simp [onesF_zero, onesF]
  | f + 1, g, n, h => by
    rw [show f + 1 + g = (f + g) + 1 by omega, onesF_step, onesF_step, onesF_more f g (n / 2) (by rw [Nat.pow_succ] at h; omega)]
theorem wd_nat {w : Int} (h : wd w = true) : ∃ k : Nat, w = (k : Int) ∧ 1 ≤ k ∧ k ≤ 32 := by
  have := wd_iff.1 h
  exact ⟨w.toNat, by omega, by omega, by omega⟩
theorem wd_of {k : Nat} (h1 : 1 ≤ k) (h2 : k ≤ 32) : wd (k : Int) = true := wd_iff.2 (by omega)
theorem dig_len {k : Nat} (p : List UInt8) (h : k ≤ 32) : (dig k p).length = 32 := cutw_len (outAll_len _ _) h
/-- What is answered of an input that was made, or not. -/
def digO (w : Int) (p : List UInt8) (e : Nat) : List UInt8 × Nat := if e ≠ 0 then (zeros32, e) else if wd w = true then (dig w.toNat p, 0) else (zeros32, 1)
theorem digO_len (w : Int) (p : List UInt8) (e : Nat) : (digO w p e).1.length = 32 := by
  unfold digO
  by_cases h : e ≠ 0
  · rw [if_pos h]; rfl
  · rw [if_neg h]
    by_cases h1 : wd w = true
    · rw [if_pos h1]; exact dig_len _ (by have := wd_iff.1 h1; omega)
    · rw [if_neg h1]; rfl
theorem digO_err {w : Int} {p : List UInt8} {e : Nat} (h : e ≠ 0) : digO w p e = (zeros32, e) := by rw [digO, if_pos h]
theorem digO_no {w : Int} {p : List UInt8} (h : wd w = false) : digO w p 0 = (zeros32, 1) := by simp [digO, h]
theorem digO_yes {k : Nat} {p : List UInt8} (h1 : 1 ≤ k) (h2 : k ≤ 32) : digO (k : Int) p 0 = (dig k p, 0) := by
  simp [digO, wd_of h1 h2]
theorem digO_eq {w : Int} {k : Nat} (h : w = (k : Int)) {p : List UInt8} (h1 : 1 ≤ k) (h2 : k ≤ 32) : digO w p 0 = (dig k p, 0) := by subst h; exact digO_yes h1 h2
def nodeP (w : Int) (l r : List UInt8) : List UInt8 := if chk w [l, r] = 0 then nodeI w.toNat l r else []
def chkB (w : Int) (bm : UInt16) (ks : List (List UInt8)) : Nat := if chk w ks ≠ 0 then chk w ks else if bm = 0 ∨ ones bm ≠ ks.length then 3 else 0
def branchP (w : Int) (bm : UInt16) (ks : List (List UInt8)) : List UInt8 := if chkB w bm ks = 0 then branchI w.toNat bm ks else []
def rootP (w : Int) (size : UInt64) (log map : List UInt8) : List UInt8 := if chk w [log, map] = 0 then rootI w.toNat size log map else []
theorem chk_wd {w : Int} {l : List (List UInt8)} (h : chk w l = 0) : wd w = true := by
  cases hw : wd w with
  | true => rfl
  | false => simp [chk, hw] at h
theorem chk_no {w : Int} {l : List (List UInt8)} (h : wd w = false) : chk w l = 1 := by simp [chk, h]
theorem chk_all {w : Int} {l : List (List UInt8)} (hw : wd w = true) (h : ∀ d ∈ l, fm w d = true) : chk w l = 0 := by
  rw [chk, if_pos hw, if_pos (List.all_eq_true.2 h)]
theorem chk_bad {w : Int} {l : List (List UInt8)} (hw : wd w = true) {d : List UInt8} (hd : d ∈ l) (h : fm w d = false) : chk w l = 3 := by
  rw [chk, if_pos hw, if_neg]
  intro h1
  have := List.all_eq_true.1 h1 d hd
  rw [h] at this; cases this
theorem getD_mem {α : Type} [Inhabited α] {l : List α} {i : Nat} (h : i < l.length) : l.getD i default ∈ l := by
  simp [List.getD_eq_getElem?_getD, h]
theorem take_getD {α : Type} [Inhabited α] {l : List α} {i : Nat} (h : i < l.length) : l.take (i + 1) = l.take i ++ [l.getD i default] := by
  rw [List.take_succ_eq_append_getElem h]; simp [List.getD_eq_getElem?_getD, h]
end Go.Ps
