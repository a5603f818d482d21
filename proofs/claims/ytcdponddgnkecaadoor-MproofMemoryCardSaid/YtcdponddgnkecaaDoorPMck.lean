import Derived.Test.YtcdponddgnkecaaDoorPSha
set_option linter.unusedVariables false
set_option linter.unusedSimpArgs false
namespace Go.Ps

/-- The greatest power of two below n. -/
def splitN (n : Nat) : Nat := 2 ^ Nat.log2 (n - 1)
def splitU (n : UInt64) : UInt64 := UInt64.ofNat (splitN n.toNat)
theorem splitN_lt {n : Nat} (h : 2 ≤ n) : splitN n < n := by
  have := Nat.log2_self_le (n := n - 1) (by omega); unfold splitN; omega
theorem splitN_pos (n : Nat) : 1 ≤ splitN n := Nat.one_le_two_pow
theorem splitN_ge {n : Nat} (h : 2 ≤ n) : n ≤ 2 * splitN n := by
  have := Nat.lt_log2_self (n := n - 1)
  rw [Nat.pow_succ] at this
  unfold splitN; omega
theorem splitN_eq {n k : Nat} {j : Nat} (hk : k = 2 ^ j) (h1 : k < n) (h2 : n ≤ 2 * k) : splitN n = k := by
  have h3 : (n - 1).log2 = j := (Nat.log2_eq_iff (by have := Nat.one_le_two_pow (n := j); omega)).2 ⟨by omega, by rw [Nat.pow_succ]; omega⟩
  rw [splitN, h3, hk]
theorem splitU_nat {n : UInt64} (h : 2 ≤ n.toNat) : (splitU n).toNat = splitN n.toNat := by
  have h1 := splitN_lt h
  have h2 := n.toNat_lt
  rw [splitU, UInt64.toNat_ofNat', Nat.mod_eq_of_lt (by omega)]
theorem splitU_eq {n k : UInt64} {j : Nat} (hk : k.toNat = 2 ^ j) (h1 : k.toNat < n.toNat) (h2 : n.toNat ≤ 2 * k.toNat) : splitU n = k := by
  rw [splitU, splitN_eq hk h1 h2, UInt64.ofNat_toNat]

def nd (k : Nat) (l r : List UInt8) : List UInt8 := dig k (nodeI k l r)
theorem nd_len (k : Nat) (l r : List UInt8) (h : k ≤ 32) : (nd k l r).length = 32 := dig_len _ h
theorem cutw_idem (k : Nat) (d : List UInt8) (hd : d.length = 32) (hk : k ≤ 32) : cutw k (cutw k d) = cutw k d := by
  have h1 : (d.take k).length = k := by rw [List.length_take]; omega
  simp only [cutw]
  rw [List.take_append_of_le_length (by omega), List.take_of_length_le (by omega)]
theorem fm_cut {k : Nat} (h1 : 1 ≤ k) (h2 : k ≤ 32) (d : List UInt8) (hd : d.length = 32) : fm (k : Int) (cutw k d) = true := by
  simp only [fm, wd_of h1 h2, Bool.true_and, Int.toNat_natCast]
  exact decide_eq_true (cutw_idem k d hd h2)
theorem fm_nd {k : Nat} (h1 : 1 ≤ k) (h2 : k ≤ 32) (l r : List UInt8) : fm (k : Int) (nd k l r) = true := fm_cut h1 h2 _ (outAll_len _ _)
theorem fm_dig {k : Nat} (h1 : 1 ≤ k) (h2 : k ≤ 32) (p : List UInt8) : fm (k : Int) (dig k p) = true := fm_cut h1 h2 _ (outAll_len _ _)
theorem fm_zeros {k : Nat} (h1 : 1 ≤ k) (h2 : k ≤ 32) : fm (k : Int) zeros32 = true := by
  simp only [fm, wd_of h1 h2, Bool.true_and, Int.toNat_natCast]
  refine decide_eq_true ?_
  simp only [cutw, zeros32, List.take_replicate, List.replicate_append_replicate]
  congr 1; omega
theorem chk_two {k : Nat} (h1 : 1 ≤ k) (h2 : k ≤ 32) {l r : List UInt8} (hl : fm (k : Int) l = true) (hr : fm (k : Int) r = true) : chk (k : Int) [l, r] = 0 :=
  chk_all (wd_of h1 h2) (fun d hd => by simp only [List.mem_cons, List.not_mem_nil, or_false] at hd; rcases hd with rfl | rfl <;> assumption)
theorem digO_node {k : Nat} (h1 : 1 ≤ k) (h2 : k ≤ 32) {l r : List UInt8} (hl : fm (k : Int) l = true) (hr : fm (k : Int) r = true) : digO (k : Int) (nodeP (k : Int) l r) (chk (k : Int) [l, r]) = (nd k l r, 0) := by
  rw [nodeP, chk_two h1 h2 hl hr, if_pos rfl, digO_yes h1 h2, Int.toNat_natCast]; rfl

/-- The root to which a proof leads from a leaf, the proof's last digest first; and whether its count is right. -/
def upR (k : Nat) (leaf : List UInt8) : UInt64 → UInt64 → List (List UInt8) → List UInt8 × Bool
  | _, n, [] => if n = 1 then (leaf, true) else (zeros32, false)
  | i, n, e :: r => if n = 1 then (leaf, false) else if i < splitU n then (nd k (upR k leaf i (splitU n) r).1 e, (upR k leaf i (splitU n) r).2) else (nd k e (upR k leaf (i - splitU n) (n - splitU n) r).1, (upR k leaf (i - splitU n) (n - splitU n) r).2)
theorem upR_fm {k : Nat} (h1 : 1 ≤ k) (h2 : k ≤ 32) {leaf : List UInt8} (hl : fm (k : Int) leaf = true) : ∀ (rp : List (List UInt8)) (i n : UInt64), fm (k : Int) (upR k leaf i n rp).1 = true
  | [], i, n => by unfold upR; split; exact hl; exact fm_zeros h1 h2
  | e :: r, i, n => by
    unfold upR; split; exact hl
    split <;> exact fm_nd h1 h2 _ _
theorem upR_len {k : Nat} (h2 : k ≤ 32) {leaf : List UInt8} (hl : leaf.length = 32) : ∀ (rp : List (List UInt8)) (i n : UInt64), (upR k leaf i n rp).1.length = 32
  | [], i, n => by unfold upR; split; exact hl; rfl
  | e :: r, i, n => by
    unfold upR; split; exact hl
    split <;> exact nd_len _ _ _ h2
/-- The roots for m and n; whole: the old one is at hand. -/
def twoR (k : Nat) (old : List UInt8) : UInt64 → UInt64 → Bool → List (List UInt8) → (List UInt8 × List UInt8) × Bool
  | m, n, whole, [] => if m = n ∧ whole = true then ((old, old), true) else ((zeros32, zeros32), false)
  | m, n, whole, e :: r => if m = n ∧ whole = true then ((old, old), false) else if m = n then ((e, e), r.isEmpty) else
    if m ≤ splitU n then (((twoR k old m (splitU n) whole r).1.1, nd k (twoR k old m (splitU n) whole r).1.2 e), (twoR k old m (splitU n) whole r).2)
    else ((nd k e (twoR k old (m - splitU n) (n - splitU n) false r).1.1, nd k e (twoR k old (m - splitU n) (n - splitU n) false r).1.2), (twoR k old (m - splitU n) (n - splitU n) false r).2)
/-- The document's. -/
def twoD (k : Nat) (old : List UInt8) : UInt64 → UInt64 → Bool → List (List UInt8) → (List UInt8 × List UInt8) × Bool
  | m, n, whole, [] => if m = n ∧ whole = true then ((old, old), true) else ((old, old), false)
  | m, n, whole, e :: r => if m = n ∧ whole = true then ((old, old), false) else if m = n then (if r.isEmpty = true then ((e, e), true) else ((old, old), false)) else
    if m ≤ splitU n then (((twoD k old m (splitU n) whole r).1.1, nd k (twoD k old m (splitU n) whole r).1.2 e), (twoD k old m (splitU n) whole r).2)
    else ((nd k e (twoD k old (m - splitU n) (n - splitU n) false r).1.1, nd k e (twoD k old (m - splitU n) (n - splitU n) false r).1.2), (twoD k old (m - splitU n) (n - splitU n) false r).2)
theorem two_same (k : Nat) (old : List UInt8) : ∀ (rp : List (List UInt8)) (m n : UInt64) (whole : Bool), (twoR k old m n whole rp).2 = (twoD k old m n whole rp).2 ∧ ((twoR k old m n whole rp).2 = true → (twoR k old m n whole rp).1 = (twoD k old m n whole rp).1)
  | [], m, n, whole => by unfold twoR twoD; split <;> simp
  | e :: r, m, n, whole => by
    unfold twoR twoD
    split
    · simp
    split
    · split <;> simp_all
    split
    · have := two_same k old r m (splitU n) whole
      exact ⟨this.1, fun h => by rw [this.2 h]⟩
    · have := two_same k old r (m - splitU n) (n - splitU n) false
      exact ⟨this.1, fun h => by rw [this.2 h]⟩
theorem twoR_fm {k : Nat} (h1 : 1 ≤ k) (h2 : k ≤ 32) {old : List UInt8} (ho : fm (k : Int) old = true) : ∀ (rp : List (List UInt8)) (_ : ∀ d ∈ rp, fm (k : Int) d = true) (m n : UInt64) (whole : Bool),
    fm (k : Int) (twoR k old m n whole rp).1.1 = true ∧ fm (k : Int) (twoR k old m n whole rp).1.2 = true
  | [], _, m, n, whole => by unfold twoR; split; exact ⟨ho, ho⟩; exact ⟨fm_zeros h1 h2, fm_zeros h1 h2⟩
  | e :: r, hr, m, n, whole => by
    have he := hr e (by simp)
    unfold twoR
    split
    · exact ⟨ho, ho⟩
    split
    · exact ⟨he, he⟩
    split
    · exact ⟨(twoR_fm h1 h2 ho r (fun d hd => hr d (by simp [hd])) _ _ _).1, fm_nd h1 h2 _ _⟩
    · exact ⟨fm_nd h1 h2 _ _, fm_nd h1 h2 _ _⟩
theorem twoR_len {k : Nat} (h2 : k ≤ 32) {old : List UInt8} (ho : old.length = 32) : ∀ (rp : List (List UInt8)) (_ : ∀ d ∈ rp, d.length = 32) (m n : UInt64) (whole : Bool),
    (twoR k old m n whole rp).1.1.length = 32 ∧ (twoR k old m n whole rp).1.2.length = 32
  | [], _, m, n, whole => by unfold twoR; split; exact ⟨ho, ho⟩; exact ⟨rfl, rfl⟩
  | e :: r, hr, m, n, whole => by
    have he := hr e (by simp)
    unfold twoR
    split
    · exact ⟨ho, ho⟩
    split
    · exact ⟨he, he⟩
    split
    · exact ⟨(twoR_len h2 ho r (fun d hd => hr d (by simp [hd])) _ _ _).1, nd_len _ _ _ h2⟩
    · exact ⟨nd_len _ _ _ h2, nd_len _ _ _ h2⟩
theorem twoD_len {k : Nat} (h2 : k ≤ 32) {old : List UInt8} (ho : old.length = 32) : ∀ (rp : List (List UInt8)) (_ : ∀ d ∈ rp, d.length = 32) (m n : UInt64) (whole : Bool),
    (twoD k old m n whole rp).1.1.length = 32 ∧ (twoD k old m n whole rp).1.2.length = 32
  | [], _, m, n, whole => by unfold twoD; split <;> exact ⟨ho, ho⟩
  | e :: r, hr, m, n, whole => by
    have he := hr e (by simp)
    unfold twoD
    split
    · exact ⟨ho, ho⟩
    split
    · split; exact ⟨he, he⟩; exact ⟨ho, ho⟩
    split
    · exact ⟨(twoD_len h2 ho r (fun d hd => hr d (by simp [hd])) _ _ _).1, nd_len _ _ _ h2⟩
    · exact ⟨nd_len _ _ _ h2, nd_len _ _ _ h2⟩

/-! What the calls answer. -/
/-- The error of a width, of a proof, and of other digests. -/
def allE (w : Int) (proof l : List (List UInt8)) : Nat := if chk w l ≠ 0 then chk w l else chk w proof
theorem chk_app (w : Int) (l p : List (List UInt8)) : chk w (l ++ p) = allE w p l := by
  unfold allE
  cases hw : wd w with
  | false => rw [chk_no hw, chk_no hw, if_pos (by decide)]
  | true =>
    by_cases h1 : l.all (fm w) = true
    · have h2 : chk w l = 0 := by rw [chk, if_pos hw, if_pos h1]
      rw [h2, if_neg (by simp)]
      simp only [chk, if_pos hw, List.all_append, h1, Bool.true_and]
    · have h2 : chk w l = 3 := by rw [chk, if_pos hw, if_neg h1]
      rw [h2, if_pos (by decide), chk, if_pos hw, if_neg]
      rw [List.all_append, Bool.and_eq_true]; exact fun h => h1 h.1
def rootO (w : Int) (leaf : List UInt8) (i n : UInt64) (proof : List (List UInt8)) : List UInt8 × Nat :=
  if allE w proof [leaf] ≠ 0 then (zeros32, allE w proof [leaf]) else if n ≤ i then (zeros32, 4) else
  if (upR w.toNat leaf i n proof.reverse).2 = true then ((upR w.toNat leaf i n proof.reverse).1, 0) else (zeros32, 10)
def inclO (w : Int) (leaf : List UInt8) (i n : UInt64) (proof : List (List UInt8)) (root : List UInt8) : Nat :=
  if chk w [root] ≠ 0 then chk w [root] else if (rootO w leaf i n proof).2 ≠ 0 then (rootO w leaf i n proof).2 else if (rootO w leaf i n proof).1 ≠ root then 10 else 0
def rootsO (w : Int) (m n : UInt64) (old : List UInt8) (proof : List (List UInt8)) : (List UInt8 × List UInt8) × Nat :=
  if allE w proof [old] ≠ 0 then ((zeros32, zeros32), allE w proof [old]) else if m < 1 ∨ n ≤ m then ((zeros32, zeros32), 4) else
  if (twoR w.toNat old m n true proof.reverse).2 = true then ((twoR w.toNat old m n true proof.reverse).1, 0) else ((zeros32, zeros32), 10)
def consO (w : Int) (m n : UInt64) (old root : List UInt8) (proof : List (List UInt8)) : Nat :=
  if allE w proof [old, root] ≠ 0 then allE w proof [old, root] else if n < m then 4 else
  if (if m = n then proof.length = 0 ∧ old = root else if m = 0 then proof.length = 0 ∧ old = dig w.toNat [] else (rootsO w m n old proof).2 = 0 ∧ (rootsO w m n old proof).1 = (old, root)) then 0 else 10
theorem allE_ok {w : Int} {p l : List (List UInt8)} (h : allE w p l = 0) : wd w = true ∧ (∀ d ∈ l, fm w d = true) ∧ ∀ d ∈ p, fm w d = true := by
  unfold allE at h
  cases hw : wd w with
  | false => rw [chk_no hw, if_pos (by decide)] at h; cases h
  | true =>
    have h1 : chk w l = 0 := by
      by_cases h1 : chk w l = 0
      · exact h1
      · rw [if_pos h1] at h; exact absurd h h1
    rw [if_neg (by simp [h1])] at h
    have key : ∀ q, chk w q = 0 → ∀ d ∈ q, fm w d = true := fun q hq => by
      rw [chk, if_pos hw] at hq
      by_cases h2 : q.all (fm w) = true
      · exact List.all_eq_true.1 h2
      · rw [if_neg h2] at hq; cases hq
    exact ⟨rfl, key _ h1, key _ h⟩
theorem inclP_same (w : Int) (leaf : List UInt8) (i n : UInt64) (proof : List (List UInt8)) (root : List UInt8) :
    (if allE w proof [leaf, root] ≠ 0 then allE w proof [leaf, root] else if (rootO w leaf i n proof).2 = 0 ∧ (rootO w leaf i n proof).1 ≠ root then 10 else (rootO w leaf i n proof).2) = inclO w leaf i n proof root := by
  cases hw : wd w with
  | false => simp [inclO, allE, chk, hw]
  | true =>
    cases hr : fm w root with
    | false => simp [inclO, allE, chk, hw, hr]
    | true =>
      have h1 : chk w [root] = 0 := by simp [chk, hw, hr]
      have h2 : allE w proof [leaf, root] = allE w proof [leaf] := by simp [allE, chk, hw, hr]
      have h6 : inclO w leaf i n proof root = if (rootO w leaf i n proof).2 ≠ 0 then (rootO w leaf i n proof).2 else if (rootO w leaf i n proof).1 ≠ root then 10 else 0 := by rw [inclO, if_neg (by simp [h1])]
      rw [h6, h2]
      by_cases h3 : allE w proof [leaf] = 0
      · rw [if_neg (by simp [h3])]
        by_cases h4 : (rootO w leaf i n proof).2 = 0
        · simp [h4]
        · simp [h4]
      · rw [if_pos h3]
        have h5 : (rootO w leaf i n proof).2 = allE w proof [leaf] := by rw [rootO, if_pos h3]
        rw [h5, if_pos h3]
theorem consO_err {w : Int} {m n : UInt64} {old root : List UInt8} {proof : List (List UInt8)} (h : allE w proof [old, root] ≠ 0) : consO w m n old root proof = allE w proof [old, root] := by rw [consO, if_pos h]
theorem consO_gt {w : Int} {m n : UInt64} {old root : List UInt8} {proof : List (List UInt8)} (h : allE w proof [old, root] = 0) (h1 : n < m) : consO w m n old root proof = 4 := by rw [consO, if_neg (by simp [h]), if_pos h1]
theorem consO_eq {w : Int} {m n : UInt64} {old root : List UInt8} {proof : List (List UInt8)} (h : allE w proof [old, root] = 0) (h1 : ¬ n < m) (h2 : m = n) : consO w m n old root proof = if proof.length = 0 ∧ old = root then 0 else 10 := by
  rw [consO, if_neg (by simp [h]), if_neg h1]; simp only [if_pos h2]
theorem consO_zero {w : Int} {m n : UInt64} {old root : List UInt8} {proof : List (List UInt8)} (h : allE w proof [old, root] = 0) (h1 : ¬ n < m) (h2 : ¬ m = n) (h3 : m = 0) : consO w m n old root proof = if proof.length = 0 ∧ old = dig w.toNat [] then 0 else 10 := by
  rw [consO, if_neg (by simp [h]), if_neg h1]; simp only [if_neg h2, if_pos h3]
theorem consO_two {w : Int} {m n : UInt64} {old root : List UInt8} {proof : List (List UInt8)} (h : allE w proof [old, root] = 0) (h1 : ¬ n < m) (h2 : ¬ m = n) (h3 : ¬ m = 0) : consO w m n old root proof = if (rootsO w m n old proof).2 = 0 ∧ (rootsO w m n old proof).1 = (old, root) then 0 else 10 := by
  rw [consO, if_neg (by simp [h]), if_neg h1]; simp only [if_neg h2, if_neg h3]
theorem rootO_len {w : Int} {leaf : List UInt8} {i n : UInt64} {proof : List (List UInt8)} (h : leaf.length = 32) : (rootO w leaf i n proof).1.length = 32 := by
  unfold rootO
  split; rfl
  rename_i h1
  split; rfl
  split
  · have h9 := allE_ok (by simpa using h1)
    obtain ⟨k, rfl, _, h2⟩ := wd_nat h9.1
    rw [Int.toNat_natCast]
    exact upR_len h2 h _ _ _
  · rfl
theorem rootsO_len {w : Int} {old : List UInt8} {m n : UInt64} {proof : List (List UInt8)} (h : old.length = 32) (hp : ∀ d ∈ proof, d.length = 32) : (rootsO w m n old proof).1.1.length = 32 ∧ (rootsO w m n old proof).1.2.length = 32 := by
  unfold rootsO
  split; exact ⟨rfl, rfl⟩
  rename_i h1
  split; exact ⟨rfl, rfl⟩
  split
  · have h9 := allE_ok (by simpa using h1)
    obtain ⟨k, rfl, _, h2⟩ := wd_nat h9.1
    rw [Int.toNat_natCast]
    exact twoR_len h2 h _ (fun d hd => hp d (List.mem_reverse.1 hd)) _ _ _
  · exact ⟨rfl, rfl⟩
end Go.Ps

namespace Go.Ps

theorem split_lt {n : UInt64} (h : 2 ≤ n.toNat) : (splitU n).toNat < n.toNat ∧ (n - splitU n).toNat < n.toNat ∧ (n - splitU n).toNat = n.toNat - (splitU n).toNat ∧ 1 ≤ (splitU n).toNat := by
  have h1 := splitU_nat h
  have h2 := splitN_lt h
  have h3 := splitN_pos n.toNat
  have h4 : (n - splitU n).toNat = n.toNat - (splitU n).toNat := UInt64.toNat_sub_of_le _ _ (UInt64.le_iff_toNat_le.2 (by omega))
  omega
/-- The way from the root of the size n down to the leaf i. -/
def splitsL (i n : UInt64) : List Bool :=
  if h : 2 ≤ n.toNat then (if i < splitU n then true :: splitsL i (splitU n) else false :: splitsL (i - splitU n) (n - splitU n)) else []
termination_by n.toNat
decreasing_by
  · exact (split_lt h).1
  · exact (split_lt h).2.1
theorem splitsL_end {i n : UInt64} (h : ¬ 2 ≤ n.toNat) : splitsL i n = [] := by rw [splitsL, dif_neg h]
theorem splitsL_left {i n : UInt64} (h : 2 ≤ n.toNat) (hi : i < splitU n) : splitsL i n = true :: splitsL i (splitU n) := by rw [splitsL, dif_pos h, if_pos hi]
theorem splitsL_right {i n : UInt64} (h : 2 ≤ n.toNat) (hi : ¬ i < splitU n) : splitsL i n = false :: splitsL (i - splitU n) (n - splitU n) := by rw [splitsL, dif_pos h, if_neg hi]
/-- Up along a way. -/
def upD (k : Nat) (leaf : List UInt8) : List Bool → List (List UInt8) → List UInt8
  | d :: ds, p :: r => if d = true then nd k (upD k leaf ds r) p else nd k p (upD k leaf ds r)
  | _, _ => leaf
theorem up_way (k : Nat) (leaf : List UInt8) : ∀ (r : List (List UInt8)) (i n : UInt64), n ≠ 0 → (upR k leaf i n r).2 = true → (upR k leaf i n r).1 = upD k leaf (splitsL i n) r ∧ (splitsL i n).length = r.length
  | [], i, n, _, h => by
    unfold upR at h ⊢
    by_cases h1 : n = 1
    · subst h1
      rw [splitsL_end (by decide)]; exact ⟨rfl, rfl⟩
    · rw [if_neg h1] at h; cases h
  | p :: r, i, n, h0, h => by
    unfold upR at h ⊢
    by_cases h1 : n = 1
    · rw [if_pos h1] at h; cases h
    · rw [if_neg h1] at h ⊢
      have hn0 : n.toNat ≠ 0 := fun h2 => h0 (UInt64.toNat.inj h2)
      have hn1 : n.toNat ≠ 1 := fun h2 => h1 (UInt64.toNat.inj h2)
      have h2 : 2 ≤ n.toNat := by omega
      obtain ⟨hs1, hs2, hs3, hs4⟩ := split_lt h2
      have h9 : (0 : UInt64).toNat = 0 := rfl
      by_cases hi : i < splitU n
      · rw [if_pos hi] at h ⊢
        have ih := up_way k leaf r i (splitU n) (fun h3 => by rw [h3] at hs4; omega) h
        rw [splitsL_left h2 hi, upD, if_pos rfl, ih.1, List.length_cons, List.length_cons, ih.2]; exact ⟨rfl, rfl⟩
      · rw [if_neg hi] at h ⊢
        have ih := up_way k leaf r (i - splitU n) (n - splitU n) (fun h3 => by rw [h3] at hs3; omega) h
        rw [splitsL_right h2 hi, upD, if_neg (by decide), ih.1, List.length_cons, List.length_cons, ih.2]; exact ⟨rfl, rfl⟩
/-- After j places from the leaf on. -/
def upJ (k : Nat) (leaf : List UInt8) (ws : List Bool) (P : List (List UInt8)) (j : Nat) : List UInt8 := upD k leaf (ws.drop (ws.length - j)) (P.reverse.drop (P.length - j))
theorem upJ_zero (k : Nat) (leaf : List UInt8) (ws : List Bool) (P : List (List UInt8)) : upJ k leaf ws P 0 = leaf := by
  rw [upJ, Nat.sub_zero, Nat.sub_zero, List.drop_length, List.drop_of_length_le (by simp)]; rfl
theorem upJ_all {k : Nat} {leaf : List UInt8} {ws : List Bool} {P : List (List UInt8)} (h : ws.length = P.length) : upJ k leaf ws P P.length = upD k leaf ws P.reverse := by
  rw [upJ, h, Nat.sub_self, List.drop_zero, List.drop_zero]
theorem upJ_succ {k : Nat} {leaf : List UInt8} {ws : List Bool} {P : List (List UInt8)} (h : ws.length = P.length) {j : Nat} (hj : j < P.length) :
    upJ k leaf ws P (j + 1) = if ws.getD (P.length - 1 - j) default = true then nd k (upJ k leaf ws P j) (P.getD j default) else nd k (P.getD j default) (upJ k leaf ws P j) := by
  have hw : P.length - (j + 1) < ws.length := by omega
  have hp : P.length - (j + 1) < P.reverse.length := by rw [List.length_reverse]; omega
  have e1 : ws.drop (ws.length - (j + 1)) = ws.getD (P.length - 1 - j) default :: ws.drop (ws.length - j) := by
    rw [h, List.drop_eq_getElem_cons hw, show P.length - (j + 1) + 1 = P.length - j by omega, List.getD_eq_getElem?_getD, List.getElem?_eq_getElem (by omega)]
    simp only [Option.getD_some]
    congr 2
    omega
  have e2 : P.reverse.drop (P.length - (j + 1)) = P.getD j default :: P.reverse.drop (P.length - j) := by
    rw [List.drop_eq_getElem_cons hp, show P.length - (j + 1) + 1 = P.length - j by omega, List.getElem_reverse, List.getD_eq_getElem?_getD, List.getElem?_eq_getElem hj]
    simp only [Option.getD_some]
    congr 2
    omega
  rw [upJ, e1, e2, upD]; rfl
theorem upJ_len {k : Nat} (h2 : k ≤ 32) {leaf : List UInt8} (hl : leaf.length = 32) {ws : List Bool} {P : List (List UInt8)} (h : ws.length = P.length) {j : Nat} (hj : j ≤ P.length) : (upJ k leaf ws P j).length = 32 := by
  cases j with
  | zero => rw [upJ_zero]; exact hl
  | succ j => rw [upJ_succ h (by omega)]; split <;> exact nd_len _ _ _ h2
theorem upJ_fm {k : Nat} (h1 : 1 ≤ k) (h2 : k ≤ 32) {leaf : List UInt8} (hl : fm (k : Int) leaf = true) {ws : List Bool} {P : List (List UInt8)} (h : ws.length = P.length) {j : Nat} (hj : j ≤ P.length) : fm (k : Int) (upJ k leaf ws P j) = true := by
  cases j with
  | zero => rw [upJ_zero]; exact hl
  | succ j => rw [upJ_succ h (by omega)]; split <;> exact fm_nd h1 h2 _ _
theorem rootO_ok {w : Int} {leaf : List UInt8} {i n : UInt64} {P : List (List UInt8)} (h : (rootO w leaf i n P).2 = 0) : ∃ k : Nat, w = (k : Int) ∧ 1 ≤ k ∧ k ≤ 32 ∧ fm (k : Int) leaf = true ∧ (∀ d ∈ P, fm (k : Int) d = true) ∧
    (splitsL i n).length = P.length ∧ (rootO w leaf i n P).1 = upJ k leaf (splitsL i n) P P.length := by
  unfold rootO at h ⊢
  by_cases h1 : allE w P [leaf] = 0
  · rw [if_neg (by simp [h1])] at h ⊢
    obtain ⟨hw, hl, hp⟩ := allE_ok h1
    obtain ⟨k, rfl, hk1, hk2⟩ := wd_nat hw
    by_cases h2 : n ≤ i
    · rw [if_pos h2] at h; cases h
    · rw [if_neg h2] at h ⊢
      rw [Int.toNat_natCast] at h ⊢
      cases h3 : (upR k leaf i n P.reverse).2 with
      | false => rw [if_neg (by rw [h3]; decide)] at h; cases h
      | true =>
        have h4 := up_way k leaf P.reverse i n (fun h0 => h2 (by rw [h0]; exact UInt64.le_iff_toNat_le.2 (Nat.zero_le _))) h3
        rw [List.length_reverse] at h4
        refine ⟨k, rfl, hk1, hk2, hl leaf (by simp), hp, h4.2, ?_⟩
        rw [if_pos rfl, upJ_all h4.2]; exact h4.1
  · rw [if_pos h1] at h; exact absurd h h1
theorem splitsL_len : ∀ (m : Nat) (i n : UInt64), n.toNat ≤ 2 ^ m → (splitsL i n).length ≤ m
  | 0, i, n, h => by
    have h1 : ¬ 2 ≤ n.toNat := by omega
    rw [splitsL_end h1]; exact Nat.zero_le _
  | m + 1, i, n, h => by
    by_cases h2 : 2 ≤ n.toNat
    · obtain ⟨hs1, hs2, hs3, hs4⟩ := split_lt h2
      have h5 := splitU_nat h2
      have h6 := splitN_ge h2
      have h7 : splitN n.toNat ≤ 2 ^ m := by
        rw [splitN]
        refine Nat.pow_le_pow_right (by omega) ?_
        have h8 : 2 ^ Nat.log2 (n.toNat - 1) < 2 ^ (m + 1) := by
          have := splitN_lt h2; rw [splitN] at this; omega
        have := (Nat.pow_lt_pow_iff_right (show 1 < 2 by omega)).1 h8
        omega
      by_cases hi : i < splitU n
      · rw [splitsL_left h2 hi, List.length_cons]
        have := splitsL_len m i (splitU n) (by omega); omega
      · rw [splitsL_right h2 hi, List.length_cons]
        have := splitsL_len m (i - splitU n) (n - splitU n) (by omega); omega
    · rw [splitsL_end h2]; exact Nat.zero_le _
end Go.Ps

namespace Go.Ps

/-- The digest of a list of leaves' digests. -/
def lg (k : Nat) (l : List (List UInt8)) : List UInt8 :=
  if h : 2 ≤ l.length then nd k (lg k (l.take (splitN l.length))) (lg k (l.drop (splitN l.length))) else
  match l with
  | [] => dig k []
  | d :: _ => d
termination_by l.length
decreasing_by
  · rw [List.length_take]; have := splitN_lt h; omega
  · rw [List.length_drop]; have := splitN_pos l.length; omega
theorem lg_nil (k : Nat) : lg k [] = dig k [] := by rw [lg, dif_neg (by decide)]
theorem lg_one (k : Nat) (d : List UInt8) : lg k [d] = d := by rw [lg, dif_neg (by simp)]
theorem lg_two (k : Nat) {l : List (List UInt8)} (h : 2 ≤ l.length) : lg k l = nd k (lg k (l.take (splitN l.length))) (lg k (l.drop (splitN l.length))) := by rw [lg, dif_pos h]
theorem splitN_pow' {p : Nat} : splitN (2 ^ (p + 1)) = 2 ^ p := splitN_eq rfl (by rw [Nat.pow_succ]; have := Nat.one_le_two_pow (n := p); omega) (by rw [Nat.pow_succ]; omega)
theorem lg_join (k : Nat) {l r : List (List UInt8)} {p : Nat} (hl : l.length = 2 ^ p) (hr : r.length = 2 ^ p) : lg k (l ++ r) = nd k (lg k l) (lg k r) := by
  have hp := Nat.one_le_two_pow (n := p)
  have hlen : (l ++ r).length = 2 ^ (p + 1) := by rw [List.length_append, hl, hr, Nat.pow_succ]; omega
  rw [lg_two k (by omega), hlen, splitN_pow', List.take_left' hl, List.drop_left' hl]
theorem lg_len {k : Nat} (h2 : k ≤ 32) : ∀ (n : Nat) {l : List (List UInt8)}, l.length = n → (∀ d ∈ l, d.length = 32) → (lg k l).length = 32
  | n, l, hn, h => by
    by_cases h3 : 2 ≤ l.length
    · rw [lg_two k h3]; exact nd_len _ _ _ h2
    · match l, h3, h with
      | [], _, _ => rw [lg_nil]; exact dig_len _ h2
      | [d], _, h => rw [lg_one]; exact h d (by simp)
      | _ :: _ :: _, h3, _ => exact absurd (by simp) h3
theorem lg_fm {k : Nat} (h1 : 1 ≤ k) (h2 : k ≤ 32) {l : List (List UInt8)} (h : ∀ d ∈ l, fm (k : Int) d = true) : fm (k : Int) (lg k l) = true := by
  by_cases h3 : 2 ≤ l.length
  · rw [lg_two k h3]; exact fm_nd h1 h2 _ _
  · match l, h3, h with
    | [], _, _ => rw [lg_nil]; exact fm_dig h1 h2 _
    | [d], _, h => rw [lg_one]; exact h d (by simp)
    | _ :: _ :: _, h3, _ => exact absurd (by simp) h3

/-- A whole subtree: where its root stands, of which power of two it is, its leaves. -/
structure Pk where
  b : Nat
  p : Nat
  seg : List (List UInt8)
def segs (ps : List Pk) : List (List UInt8) := ps.flatMap (·.seg)
/-- The whole subtrees into which a list of leaves falls. -/
structure Peaks (ps : List Pk) (l : List (List UInt8)) : Prop where
  cat : segs ps = l
  len : ∀ x ∈ ps, x.seg.length = 2 ^ x.p
  down : ps.Pairwise fun x y => y.p < x.p
theorem Peaks.nil : Peaks [] [] := ⟨rfl, fun x h => (by cases h), .nil⟩
/-- A leaf behind the others: carried up while the last subtree is as great. -/
structure Carry (ps : List Pk) (x : Pk) (l : List (List UInt8)) : Prop where
  cat : segs ps ++ x.seg = l
  len : ∀ y ∈ ps, y.seg.length = 2 ^ y.p
  lenx : x.seg.length = 2 ^ x.p
  down : ps.Pairwise fun x y => y.p < x.p
  low : ∀ y ∈ ps, x.p ≤ y.p
theorem Peaks.carry {ps : List Pk} {l : List (List UInt8)} (h : Peaks ps l) (b : Nat) (d : List UInt8) : Carry ps ⟨b, 0, [d]⟩ (l ++ [d]) :=
  ⟨by rw [h.cat], h.len, rfl, h.down, fun _ _ => Nat.zero_le _⟩
theorem segs_app (ps qs : List Pk) : segs (ps ++ qs) = segs ps ++ segs qs := by simp [segs, List.flatMap_append]
theorem Carry.step {ps : List Pk} {x y : Pk} {l : List (List UInt8)} (h : Carry (ps ++ [y]) x l) (he : y.p = x.p) (b : Nat) : Carry ps ⟨b, x.p + 1, y.seg ++ x.seg⟩ l := by
  have hd := List.pairwise_append.1 h.down
  refine ⟨?_, fun z hz => h.len z (by simp [hz]), ?_, hd.1, fun z hz => ?_⟩
  · have := h.cat
    rw [segs_app] at this
    rw [← this]
    simp [segs, List.append_assoc]
  · have h1 := h.len y (by simp)
    have h2 := h.lenx
    show (y.seg ++ x.seg).length = 2 ^ (x.p + 1)
    rw [List.length_append, h1, h2, he, Nat.pow_succ]; omega
  · have := hd.2.2 z hz y (by simp)
    show x.p + 1 ≤ z.p
    omega
theorem Carry.done {ps : List Pk} {x : Pk} {l : List (List UInt8)} (h : Carry ps x l) (hn : ∀ y ∈ ps.getLast?, y.p ≠ x.p) : Peaks (ps ++ [x]) l := by
  refine ⟨by rw [segs_app, ← h.cat]; simp [segs], fun y hy => ?_, List.pairwise_append.2 ⟨h.down, List.pairwise_singleton _ _, fun y hy z hz => ?_⟩⟩
  · rcases List.mem_append.1 hy with hy | hy
    · exact h.len y hy
    · rw [List.mem_singleton.1 hy]; exact h.lenx
  · rw [List.mem_singleton.1 hz]
    have hne : ps ≠ [] := fun h0 => by rw [h0] at hy; cases hy
    have hl : ps.getLast hne ∈ ps.getLast? := by rw [List.getLast?_eq_some_getLast hne]; rfl
    have h1 := hn _ hl
    have h2 := h.low _ (List.getLast_mem hne)
    have h3 : (ps.getLast hne).p ≤ y.p := by
      have hdl := List.dropLast_concat_getLast hne
      have hd := h.down
      rw [← hdl] at hd hy
      rcases List.mem_append.1 hy with hy | hy
      · exact Nat.le_of_lt ((List.pairwise_append.1 hd).2.2 y hy _ (by simp))
      · rw [List.mem_singleton.1 hy]; exact Nat.le_refl _
    omega

instance : Inhabited Pk := ⟨⟨0, 0, []⟩⟩
/-- How many leaves stand in the first subtrees. -/
def pre (ps : List Pk) : Nat := (ps.map fun x => 2 ^ x.p).sum
theorem pre_cons (x : Pk) (r : List Pk) : pre (x :: r) = 2 ^ x.p + pre r := by simp [pre]
theorem pre_app (p q : List Pk) : pre (p ++ q) = pre p + pre q := by simp [pre]
theorem pre_len {ps : List Pk} (h : ∀ x ∈ ps, x.seg.length = 2 ^ x.p) : (segs ps).length = pre ps := by
  induction ps with
  | nil => rfl
  | cons x r ih =>
    rw [pre_cons, ← ih (fun y hy => h y (by simp [hy])), ← h x (by simp)]
    simp [segs]
/-- Smaller and smaller powers of two make less than the power above. -/
theorem pre_lt : ∀ {ps : List Pk} {m : Nat}, ps.Pairwise (fun x y => y.p < x.p) → (∀ x ∈ ps, x.p < m) → pre ps < 2 ^ m
  | [], m, _, _ => by have := Nat.one_le_two_pow (n := m); simp [pre]; omega
  | x :: r, m, h, hm => by
    have h1 := pre_lt (List.pairwise_cons.1 h).2 (m := x.p) (fun y hy => (List.pairwise_cons.1 h).1 y hy)
    have h2 : x.p + 1 ≤ m := hm x (by simp)
    have h3 := Nat.pow_le_pow_right (show 0 < 2 by omega) h2
    rw [pre_cons]
    rw [Nat.pow_succ] at h3
    omega
theorem pre_dvd {m : Nat} : ∀ {ps : List Pk}, (∀ x ∈ ps, m ≤ x.p) → 2 ^ m ∣ pre ps
  | [], _ => by simp [pre]
  | x :: r, h => by
    rw [pre_cons]
    exact Nat.dvd_add (Nat.pow_dvd_pow 2 (h x (by simp))) (pre_dvd fun y hy => h y (by simp [hy]))
/-- An aligned power of two of leaves stands in one subtree. -/
theorem peak_find {p q : List Pk} {x : Pk} {l : List (List UInt8)} (h : Peaks (p ++ x :: q) l) {i r : Nat} (h1 : pre p ≤ i) (h2 : i < pre p + 2 ^ x.p) (hd : 2 ^ r ∣ i) (hr : i + 2 ^ r ≤ l.length) :
    r ≤ x.p ∧ 2 ^ r ∣ (i - pre p) ∧ i - pre p + 2 ^ r ≤ 2 ^ x.p ∧ (l.drop i).take (2 ^ r) = (x.seg.drop (i - pre p)).take (2 ^ r) := by
  have hdn := List.pairwise_append.1 h.down
  have hq := List.pairwise_cons.1 hdn.2.1
  have hpq : ∀ y ∈ p, x.p + 1 ≤ y.p := fun y hy => hdn.2.2 y hy x (by simp)
  have hpre : 2 ^ (x.p + 1) ∣ pre p := pre_dvd hpq
  have hsuf : pre q < 2 ^ x.p := pre_lt hq.2 hq.1
  have hlen : l.length = pre p + (2 ^ x.p + pre q) := by rw [← h.cat, pre_len h.len, pre_app, pre_cons]
  have hp2 : 2 ^ (x.p + 1) = 2 * 2 ^ x.p := by rw [Nat.pow_succ]; omega
  have hrp : r ≤ x.p := by
    rcases Nat.lt_or_ge x.p r with hlt | hge
    · exfalso
      have h3 : 2 ^ (x.p + 1) ∣ i := Nat.dvd_trans (Nat.pow_dvd_pow 2 hlt) hd
      have h4 := Nat.pow_le_pow_right (show 0 < 2 by omega) hlt
      obtain ⟨u, hu⟩ := h3
      obtain ⟨v, hv⟩ := hpre
      have h5 : v = u := by
        have h6 : 2 ^ (x.p + 1) * v ≤ 2 ^ (x.p + 1) * u := by omega
        have h7 : 2 ^ (x.p + 1) * u < 2 ^ (x.p + 1) * (v + 1) := by rw [Nat.mul_add]; omega
        have h8 := Nat.le_of_mul_le_mul_left h6 (Nat.two_pow_pos _)
        have h9 := Nat.lt_of_mul_lt_mul_left h7
        omega
      subst h5
      omega
    · exact hge
  have hdp : 2 ^ r ∣ pre p := Nat.dvd_trans (Nat.pow_dvd_pow 2 (by omega)) hpre
  have hds : 2 ^ r ∣ i - pre p := Nat.dvd_sub hd hdp
  have hfit : i - pre p + 2 ^ r ≤ 2 ^ x.p := by
    obtain ⟨u, hu⟩ := hds
    obtain ⟨v, hv⟩ := Nat.pow_dvd_pow 2 hrp
    rw [hu, hv]
    have h7 : 2 ^ r * u < 2 ^ r * v := by omega
    have h9 := Nat.lt_of_mul_lt_mul_left h7
    have := Nat.mul_le_mul_left (2 ^ r) (show u + 1 ≤ v by omega)
    rw [Nat.mul_add] at this; omega
  refine ⟨hrp, hds, hfit, ?_⟩
  have hsp : (segs p).length = pre p := pre_len fun y hy => h.len y (by simp [hy])
  have hsx := h.len x (by simp)
  rw [← h.cat, segs_app, show segs (x :: q) = x.seg ++ segs q from by simp [segs]]
  rw [show i = (segs p).length + (i - pre p) by omega, List.drop_length_add_append, List.drop_append_of_le_length (by omega), List.take_append_of_le_length (by rw [List.length_drop]; omega), hsp, Nat.add_sub_cancel_left]

theorem fit_dvd {r p a : Nat} (hr : r ≤ p) (hd : 2 ^ r ∣ a) (ha : a < 2 ^ p) : a + 2 ^ r ≤ 2 ^ p := by
  obtain ⟨u, hu⟩ := hd
  obtain ⟨v, hv⟩ := Nat.pow_dvd_pow 2 hr
  rw [hu, hv]
  have h7 : 2 ^ r * u < 2 ^ r * v := by omega
  have h9 := Nat.lt_of_mul_lt_mul_left h7
  have := Nat.mul_le_mul_left (2 ^ r) (show u + 1 ≤ v by omega)
  rw [Nat.mul_add] at this; omega
theorem half_left {s1 s2 : List (List UInt8)} {p r a : Nat} (h1 : s1.length = 2 ^ p) (hr : r ≤ p) (hd : 2 ^ r ∣ a) (ha : a < 2 ^ p) : ((s1 ++ s2).drop a).take (2 ^ r) = (s1.drop a).take (2 ^ r) := by
  have := fit_dvd hr hd ha
  rw [List.drop_append_of_le_length (by omega), List.take_append_of_le_length (by rw [List.length_drop]; omega)]
theorem half_right {s1 s2 : List (List UInt8)} {p r a : Nat} (h1 : s1.length = 2 ^ p) (hr : r ≤ p) (hd : 2 ^ r ∣ a) (ha : 2 ^ p ≤ a) : 2 ^ r ∣ a - 2 ^ p ∧ ((s1 ++ s2).drop a).take (2 ^ r) = (s2.drop (a - 2 ^ p)).take (2 ^ r) := by
  refine ⟨Nat.dvd_sub hd (Nat.pow_dvd_pow 2 hr), ?_⟩
  rw [show a = s1.length + (a - 2 ^ p) by omega, List.drop_length_add_append, h1, Nat.add_sub_cancel_left]

theorem bit_top {x m : Nat} (h1 : 2 ^ m ≤ x) (h2 : x < 2 ^ (m + 1)) : x.testBit m = true := by
  rw [show x = 2 ^ m + (x - 2 ^ m) by omega, Nat.testBit_two_pow_add_eq, Nat.testBit_lt_two_pow (by rw [Nat.pow_succ] at h2; omega)]; rfl
theorem pow_of_and {n : Nat} (h0 : n ≠ 0) (h : n &&& (n - 1) = 0) : n = 2 ^ n.log2 := by
  have h1 := Nat.log2_self_le h0
  have h2 := Nat.lt_log2_self (n := n)
  rcases Nat.lt_or_ge (2 ^ n.log2) n with hlt | hge
  · exfalso
    have h3 := bit_top h1 h2
    have h4 := bit_top (x := n - 1) (m := n.log2) (by omega) (by omega)
    have h5 := congrArg (fun z => Nat.testBit z n.log2) h
    simp [Nat.testBit_and, h3, h4] at h5
  · omega
theorem lg_part (k : Nat) {l : List (List UInt8)} {lo n : Nat} (h2 : 2 ≤ n) (hn : lo + n ≤ l.length) :
    lg k ((l.drop lo).take n) = nd k (lg k ((l.drop lo).take (splitN n))) (lg k ((l.drop (lo + splitN n)).take (n - splitN n))) := by
  have hs := splitN_lt h2
  have hl : ((l.drop lo).take n).length = n := by rw [List.length_take, List.length_drop]; omega
  rw [lg_two k (by omega), hl, List.take_take, Nat.min_eq_left (by omega), List.drop_take, List.drop_drop]
/-- What Range answers. -/
def rngO (k : Nat) (l : List (List UInt8)) (lo hi : UInt64) : List UInt8 × Nat :=
  if hi < lo ∨ l.length < hi.toNat then (zeros32, 4) else (lg k ((l.drop lo.toNat).take (hi.toNat - lo.toNat)), 0)
end Go.Ps

namespace Go.Ps

def bit0 (i : UInt64) (j : Nat) : Prop := (i >>> UInt64.ofNat j) &&& 1 = 0
instance (i : UInt64) (j : Nat) : Decidable (bit0 i j) := inferInstanceAs (Decidable (_ = _))
theorem bit0_iff {i : UInt64} {j : Nat} (hj : j < 64) : bit0 i j ↔ i.toNat.testBit j = false := by
  have h1 : ((i >>> UInt64.ofNat j) &&& 1).toNat = i.toNat >>> j % 2 := by
    rw [UInt64.toNat_and, UInt64.toNat_shiftRight, UInt64.toNat_ofNat', Nat.mod_eq_of_lt (show j < 2 ^ 64 by omega), Nat.mod_eq_of_lt hj]
    exact Nat.and_one_is_mod _
  have h2 : i.toNat.testBit j = (1 &&& (i.toNat >>> j) != 0) := rfl
  rw [Nat.and_comm, Nat.and_one_is_mod] at h2
  rw [h2, bit0, ← UInt64.toNat_inj, h1]
  have h3 : (0 : UInt64).toNat = 0 := rfl
  rw [h3]
  simp
/-- The way up from a leaf, the list's last digest first in hand. -/
def pwR (k : Nat) (i : UInt64) (leaf : List UInt8) : List (List UInt8) → List UInt8
  | [] => leaf
  | p :: r => if bit0 i r.length then nd k (pwR k i leaf r) p else nd k p (pwR k i leaf r)
theorem pwR_len {k : Nat} (h2 : k ≤ 32) {i : UInt64} {leaf : List UInt8} (hl : leaf.length = 32) : ∀ r, (pwR k i leaf r).length = 32
  | [] => hl
  | p :: r => by unfold pwR; split <;> exact nd_len _ _ _ h2
theorem pwR_fm {k : Nat} (h1 : 1 ≤ k) (h2 : k ≤ 32) {i : UInt64} {leaf : List UInt8} (hl : fm (k : Int) leaf = true) : ∀ r, fm (k : Int) (pwR k i leaf r) = true
  | [] => hl
  | p :: r => by unfold pwR; split <;> exact fm_nd h1 h2 _ _
theorem pwR_congr {k : Nat} {i j : UInt64} {leaf : List UInt8} : ∀ r, (∀ t, t < r.length → (bit0 i t ↔ bit0 j t)) → pwR k i leaf r = pwR k j leaf r
  | [], _ => rfl
  | p :: r, h => by
    have ih := pwR_congr (k := k) (i := i) (j := j) (leaf := leaf) r (fun t ht => h t (by simp only [List.length_cons]; omega))
    have h0 := h r.length (by simp)
    unfold pwR
    rw [ih]
    by_cases hb : bit0 i r.length
    · rw [if_pos hb, if_pos (h0.1 hb)]
    · rw [if_neg hb, if_neg (fun h => hb (h0.2 h))]
theorem splitN_pow {L : Nat} : splitN (2 ^ (L + 1)) = 2 ^ L := splitN_eq rfl (by rw [Nat.pow_succ]; have := Nat.one_le_two_pow (n := L); omega) (by rw [Nat.pow_succ]; omega)
theorem up_pw (k : Nat) (leaf : List UInt8) : ∀ (r : List (List UInt8)) (i n : UInt64), r.length ≤ 62 → n.toNat = 2 ^ r.length → i.toNat < 2 ^ r.length → upR k leaf i n r = (pwR k i leaf r, true)
  | [], i, n, _, hn, _ => by
    have : n = 1 := UInt64.toNat.inj hn
    rw [upR, if_pos this]; rfl
  | p :: r, i, n, hl, hn, hi => by
    simp only [List.length_cons] at hl hn hi
    have hp1 : 1 ≤ 2 ^ r.length := Nat.one_le_two_pow
    have hp2 : 2 ^ (r.length + 1) = 2 * 2 ^ r.length := by rw [Nat.pow_succ]; omega
    have hn2 : 2 ≤ n.toNat := by omega
    have hn1 : ¬ n = 1 := fun h => by rw [h] at hn2; exact absurd hn2 (by decide)
    have hs : (splitU n).toNat = 2 ^ r.length := by rw [splitU_nat hn2, hn, splitN_pow]
    rw [upR, if_neg hn1]
    by_cases hik : i < splitU n
    · have hi2 : i.toNat < 2 ^ r.length := by rw [← hs]; exact UInt64.lt_iff_toNat_lt.1 hik
      have ih := up_pw k leaf r i (splitU n) (by omega) hs hi2
      have hb : bit0 i r.length := (bit0_iff (by omega)).2 (Nat.testBit_lt_two_pow hi2)
      rw [if_pos hik, ih, pwR, if_pos hb]
    · have hi2 : 2 ^ r.length ≤ i.toNat := by rw [← hs]; exact Nat.le_of_not_lt fun h => hik (UInt64.lt_iff_toNat_lt.2 h)
      have h3 : (i - splitU n).toNat = i.toNat - 2 ^ r.length := by rw [UInt64.toNat_sub_of_le _ _ (UInt64.le_iff_toNat_le.2 (by omega)), hs]
      have h4 : (n - splitU n).toNat = 2 ^ r.length := by rw [UInt64.toNat_sub_of_le _ _ (UInt64.le_iff_toNat_le.2 (by omega)), hs, hn]; omega
      have ih := up_pw k leaf r (i - splitU n) (n - splitU n) (by omega) h4 (by omega)
      have he : i.toNat = 2 ^ r.length + (i - splitU n).toNat := by omega
      have hb : ¬ bit0 i r.length := fun h => by
        have h5 := (bit0_iff (by omega)).1 h
        rw [he, Nat.testBit_two_pow_add_eq, Nat.testBit_lt_two_pow (by omega)] at h5
        cases h5
      have hc : pwR k i leaf r = pwR k (i - splitU n) leaf r := pwR_congr r (fun t ht => by
        have h6 := bit0_iff (i := i) (j := t) (by omega)
        rw [he, Nat.testBit_two_pow_add_gt ht] at h6
        exact h6.trans (bit0_iff (by omega)).symm)
      rw [if_neg hik, ih, pwR, if_neg hb, hc]
theorem shl_nat {L : Nat} (h : L ≤ 62) : ((1 : UInt64) <<< UInt64.ofNat L).toNat = 2 ^ L := by
  rw [UInt64.toNat_shiftLeft, UInt64.toNat_ofNat', Nat.mod_eq_of_lt (show L < 2 ^ 64 by omega), Nat.mod_eq_of_lt (show L < 64 by omega)]
  have h1 : (1 : UInt64).toNat = 1 := rfl
  have h2 : 2 ^ L < 2 ^ 64 := Nat.pow_lt_pow_right (by omega) (by omega)
  rw [h1, Nat.one_shiftLeft, Nat.mod_eq_of_lt h2]
theorem take_rev_succ {l : List (List UInt8)} {j : Nat} (h : j < l.length) : (l.take (j + 1)).reverse = l.getD j default :: (l.take j).reverse := by
  rw [List.take_succ_eq_append_getElem h, List.reverse_append]
  simp [List.getD_eq_getElem?_getD, h]
end Go.Ps

namespace Go.Ps

def len64 (x : Nat) : Nat := if x = 0 then 0 else x.log2 + 1
theorem len64_le (x : UInt64) : len64 x.toNat ≤ 64 := by
  unfold len64; split; omega
  rename_i h
  have h1 := Nat.log2_self_le h
  have h2 := x.toNat_lt
  have h3 := (Nat.pow_lt_pow_iff_right (show 1 < 2 by omega)).1 (Nat.lt_of_le_of_lt h1 h2)
  omega
theorem len64_step {x s : Nat} (h : 2 ^ s ≤ x) : len64 x = s + len64 (x / 2 ^ s) := by
  have hp : 1 ≤ 2 ^ s := Nat.one_le_two_pow
  have hx : x ≠ 0 := by omega
  have hd : x / 2 ^ s ≠ 0 := by have := Nat.div_pos h (by omega); omega
  unfold len64
  rw [if_neg hx, if_neg hd]
  have h1 := Nat.log2_self_le hd
  have h2 := Nat.lt_log2_self (n := x / 2 ^ s)
  have h3 : x.log2 = s + (x / 2 ^ s).log2 := by
    rw [Nat.log2_eq_iff hx, Nat.pow_add, show s + (x / 2 ^ s).log2 + 1 = s + ((x / 2 ^ s).log2 + 1) by omega, Nat.pow_add]
    constructor
    · calc 2 ^ s * 2 ^ (x / 2 ^ s).log2 ≤ 2 ^ s * (x / 2 ^ s) := Nat.mul_le_mul_left _ h1
        _ ≤ x := Nat.mul_div_le _ _
    · have h4 : x / 2 ^ s + 1 ≤ 2 ^ ((x / 2 ^ s).log2 + 1) := h2
      have h5 := Nat.mul_le_mul_left (2 ^ s) h4
      have h6 := Nat.lt_mul_div_succ x (show 0 < 2 ^ s by omega)
      omega
  omega
theorem shr_nat {x : UInt64} {s : Nat} (h : s < 64) : (x >>> UInt64.ofNat s).toNat = x.toNat / 2 ^ s := by
  rw [UInt64.toNat_shiftRight, UInt64.toNat_ofNat', Nat.mod_eq_of_lt (show s < 2 ^ 64 by omega), Nat.mod_eq_of_lt h, Nat.shiftRight_eq_div_pow]
theorem below_eq {n : UInt64} (h : 2 ≤ n.toNat) : (1 : UInt64) <<< UInt64.ofNat (len64 (n - 1).toNat - 1) = splitU n := by
  have h1 : (n - 1).toNat = n.toNat - 1 := UInt64.toNat_sub_of_le _ _ (UInt64.le_iff_toNat_le.2 (show 1 ≤ n.toNat by omega))
  have h2 : len64 (n.toNat - 1) - 1 = (n.toNat - 1).log2 := by unfold len64; rw [if_neg (by omega)]; omega
  have h3 := splitU_nat h
  have h4 := splitN_lt h
  have h5 := n.toNat_lt
  rw [h1, h2]
  apply UInt64.toNat.inj
  rw [h3, splitN] at *
  have h6 : (n.toNat - 1).log2 < 64 := by
    have := (Nat.pow_lt_pow_iff_right (show 1 < 2 by omega)).1 (Nat.lt_trans h4 h5); omega
  rw [UInt64.toNat_shiftLeft, UInt64.toNat_ofNat', Nat.mod_eq_of_lt (show (n.toNat - 1).log2 < 2 ^ 64 by omega), Nat.mod_eq_of_lt h6]
  have h7 : (1 : UInt64).toNat = 1 := rfl
  rw [h7, Nat.one_shiftLeft, Nat.mod_eq_of_lt (by omega)]
/-- How many digests lead from a leaf up. -/
theorem up_flag_len (k : Nat) (leaf : List UInt8) : ∀ (r : List (List UInt8)) (i n : UInt64), n ≠ 0 → (upR k leaf i n r).2 = decide (r.length = (splitsL i n).length)
  | [], i, n, h0 => by
    unfold upR
    by_cases h1 : n = 1
    · subst h1; rw [splitsL_end (by decide)]; rfl
    · rw [if_neg h1]
      have hn0 : n.toNat ≠ 0 := fun h2 => h0 (UInt64.toNat.inj h2)
      have hn1 : n.toNat ≠ 1 := fun h2 => h1 (UInt64.toNat.inj h2)
      have h2 : 2 ≤ n.toNat := by omega
      by_cases hi : i < splitU n
      · rw [splitsL_left h2 hi]; rfl
      · rw [splitsL_right h2 hi]; rfl
  | p :: r, i, n, h0 => by
    unfold upR
    by_cases h1 : n = 1
    · subst h1; rw [if_pos rfl, splitsL_end (by decide)]; rfl
    · rw [if_neg h1]
      have hn0 : n.toNat ≠ 0 := fun h2 => h0 (UInt64.toNat.inj h2)
      have hn1 : n.toNat ≠ 1 := fun h2 => h1 (UInt64.toNat.inj h2)
      have h2 : 2 ≤ n.toNat := by omega
      obtain ⟨hs1, hs2, hs3, hs4⟩ := split_lt h2
      have h9 : (0 : UInt64).toNat = 0 := rfl
      by_cases hi : i < splitU n
      · rw [if_pos hi, splitsL_left h2 hi, up_flag_len k leaf r i (splitU n) (fun h3 => by rw [h3] at hs4; omega)]; simp
      · rw [if_neg hi, splitsL_right h2 hi, up_flag_len k leaf r (i - splitU n) (n - splitU n) (fun h3 => by rw [h3] at hs3; omega)]; simp
/-- How many digests lead to the two roots. -/
def cntL (m n : UInt64) (known : Bool) : Nat :=
  if m = n then (if known = true then 0 else 1) else
  if h : 2 ≤ n.toNat then (if m ≤ splitU n then cntL m (splitU n) known + 1 else cntL (m - splitU n) (n - splitU n) false + 1) else 0
termination_by n.toNat
decreasing_by
  · exact (split_lt h).1
  · exact (split_lt h).2.1
theorem cntL_end {m : UInt64} {known : Bool} : cntL m m known = if known = true then 0 else 1 := by rw [cntL, if_pos rfl]
theorem cntL_left {m n : UInt64} {known : Bool} (h0 : ¬ m = n) (h : 2 ≤ n.toNat) (hi : m ≤ splitU n) : cntL m n known = cntL m (splitU n) known + 1 := by rw [cntL, if_neg h0, dif_pos h, if_pos hi]
theorem cntL_right {m n : UInt64} {known : Bool} (h0 : ¬ m = n) (h : 2 ≤ n.toNat) (hi : ¬ m ≤ splitU n) : cntL m n known = cntL (m - splitU n) (n - splitU n) false + 1 := by rw [cntL, if_neg h0, dif_pos h, if_neg hi]
theorem two_flag_len (k : Nat) (old : List UInt8) : ∀ (r : List (List UInt8)) (m n : UInt64) (known : Bool), m ≠ 0 → m ≤ n → (twoR k old m n known r).2 = decide (r.length = cntL m n known)
  | r, m, n, known, h0, hle => by
    have h9 : (0 : UInt64).toNat = 0 := rfl
    have hm0 : m.toNat ≠ 0 := fun h2 => h0 (UInt64.toNat.inj h2)
    have hle' := UInt64.le_iff_toNat_le.1 hle
    by_cases he : m = n
    · subst he
      rw [cntL_end]
      cases known with
      | true => cases r <;> simp [twoR]
      | false => cases r with
        | nil => simp [twoR]
        | cons e t => cases t <;> simp [twoR]
    · have hne : m.toNat ≠ n.toNat := fun h => he (UInt64.toNat.inj h)
      have h2 : 2 ≤ n.toNat := by omega
      obtain ⟨hs1, hs2, hs3, hs4⟩ := split_lt h2
      by_cases hi : m ≤ splitU n
      · rw [cntL_left he h2 hi]
        cases r with
        | nil => unfold twoR; rw [if_neg (fun h => he h.1)]; simp
        | cons e r =>
          unfold twoR
          rw [if_neg (fun h => he h.1), if_neg he, if_pos hi]
          show (twoR k old m (splitU n) known r).2 = _
          rw [two_flag_len k old r m (splitU n) known h0 hi]; simp
      · have hgt : (splitU n).toNat < m.toNat := Nat.lt_of_not_le fun h => hi (UInt64.le_iff_toNat_le.2 h)
        have hms : (m - splitU n).toNat = m.toNat - (splitU n).toNat := UInt64.toNat_sub_of_le _ _ (UInt64.le_iff_toNat_le.2 (by omega))
        rw [cntL_right he h2 hi]
        cases r with
        | nil => unfold twoR; rw [if_neg (fun h => he h.1)]; simp
        | cons e r =>
          unfold twoR
          rw [if_neg (fun h => he h.1), if_neg he, if_neg hi]
          show (twoR k old (m - splitU n) (n - splitU n) false r).2 = _
          rw [two_flag_len k old r (m - splitU n) (n - splitU n) false (fun h => by rw [h] at hms; omega) (UInt64.le_iff_toNat_le.2 (by omega))]; simp
termination_by r => r.length
theorem cntL_le : ∀ (p : Nat) (m n : UInt64) (known : Bool), m ≠ 0 → m ≤ n → n.toNat ≤ 2 ^ p → cntL m n known ≤ p + 1
  | p, m, n, known, h0, hle, hp => by
    have h9 : (0 : UInt64).toNat = 0 := rfl
    have hm0 : m.toNat ≠ 0 := fun h2 => h0 (UInt64.toNat.inj h2)
    have hle' := UInt64.le_iff_toNat_le.1 hle
    by_cases he : m = n
    · subst he; rw [cntL_end]; split <;> omega
    · have hne : m.toNat ≠ n.toNat := fun h => he (UInt64.toNat.inj h)
      have h2 : 2 ≤ n.toNat := by omega
      obtain ⟨hs1, hs2, hs3, hs4⟩ := split_lt h2
      have h5 := splitU_nat h2
      have h6 := splitN_ge h2
      cases p with
      | zero => omega
      | succ p =>
        have h7 : splitN n.toNat ≤ 2 ^ p := by
          rw [splitN]
          refine Nat.pow_le_pow_right (by omega) ?_
          have h8 : 2 ^ Nat.log2 (n.toNat - 1) < 2 ^ (p + 1) := by
            have := splitN_lt h2; rw [splitN] at this; omega
          have := (Nat.pow_lt_pow_iff_right (show 1 < 2 by omega)).1 h8
          omega
        by_cases hi : m ≤ splitU n
        · rw [cntL_left he h2 hi]
          have := cntL_le p m (splitU n) known h0 hi (by omega); omega
        · have hgt : (splitU n).toNat < m.toNat := Nat.lt_of_not_le fun h => hi (UInt64.le_iff_toNat_le.2 h)
          have hms : (m - splitU n).toNat = m.toNat - (splitU n).toNat := UInt64.toNat_sub_of_le _ _ (UInt64.le_iff_toNat_le.2 (by omega))
          rw [cntL_right he h2 hi]
          have := cntL_le p (m - splitU n) (n - splitU n) false (fun h => by rw [h] at hms; omega) (UInt64.le_iff_toNat_le.2 (by omega)) (by omega); omega
end Go.Ps

namespace Go.Ps

/-- The digests that lead from the leaf i of these leaves to their root. -/
def incL (k : Nat) (l : List (List UInt8)) (i : Nat) : List (List UInt8) :=
  if h : 2 ≤ l.length then
    if i < splitN l.length then incL k (l.take (splitN l.length)) i ++ [lg k (l.drop (splitN l.length))]
    else incL k (l.drop (splitN l.length)) (i - splitN l.length) ++ [lg k (l.take (splitN l.length))]
  else []
termination_by l.length
decreasing_by
  · rw [List.length_take]; have := splitN_lt h; omega
  · rw [List.length_drop]; have := splitN_pos l.length; omega
theorem incL_one {k i : Nat} {l : List (List UInt8)} (h : l.length ≤ 1) : incL k l i = [] := by rw [incL, dif_neg (by omega)]
theorem incL_left {k i : Nat} {l : List (List UInt8)} (h : 2 ≤ l.length) {s : Nat} (hs : splitN l.length = s) (hi : i < s) : incL k l i = incL k (l.take s) i ++ [lg k (l.drop s)] := by subst hs; rw [incL, dif_pos h, if_pos hi]
theorem incL_right {k i : Nat} {l : List (List UInt8)} (h : 2 ≤ l.length) {s : Nat} (hs : splitN l.length = s) (hi : ¬ i < s) : incL k l i = incL k (l.drop s) (i - s) ++ [lg k (l.take s)] := by subst hs; rw [incL, dif_pos h, if_neg hi]
theorem incL_mem {k : Nat} (h1 : 1 ≤ k) (h2 : k ≤ 32) : ∀ (n : Nat) {l : List (List UInt8)} {i : Nat}, l.length ≤ n → (∀ d ∈ l, d.length = 32) → (∀ d ∈ l, fm (k : Int) d = true) → ∀ d ∈ incL k l i, d.length = 32 ∧ fm (k : Int) d = true
  | n, l, i, hn, hl, hf, d, hd => by
    by_cases h : 2 ≤ l.length
    · have hs1 := splitN_lt h
      have hs2 := splitN_pos l.length
      have tl : ∀ d ∈ l.take (splitN l.length), d ∈ l := fun d hd => List.mem_of_mem_take hd
      have dl : ∀ d ∈ l.drop (splitN l.length), d ∈ l := fun d hd => List.mem_of_mem_drop hd
      match n, hn with
      | 0, hn => omega
      | n + 1, hn =>
        by_cases hi : i < splitN l.length
        · rw [incL_left h rfl hi] at hd
          rcases List.mem_append.1 hd with hd | hd
          · exact incL_mem h1 h2 n (by rw [List.length_take]; omega) (fun d hd => hl d (tl d hd)) (fun d hd => hf d (tl d hd)) d hd
          · rw [List.mem_singleton.1 hd]; exact ⟨lg_len h2 _ rfl (fun d hd => hl d (dl d hd)), lg_fm h1 h2 (fun d hd => hf d (dl d hd))⟩
        · rw [incL_right h rfl hi] at hd
          rcases List.mem_append.1 hd with hd | hd
          · exact incL_mem h1 h2 n (by rw [List.length_drop]; omega) (fun d hd => hl d (dl d hd)) (fun d hd => hf d (dl d hd)) d hd
          · rw [List.mem_singleton.1 hd]; exact ⟨lg_len h2 _ rfl (fun d hd => hl d (tl d hd)), lg_fm h1 h2 (fun d hd => hf d (tl d hd))⟩
    · rw [incL_one (by omega)] at hd; cases hd
theorem incL_len {k : Nat} : ∀ (n : Nat) {l : List (List UInt8)} {i : Nat}, l.length ≤ n → (incL k l i).length ≤ l.length - 1
  | n, l, i, hn => by
    by_cases h : 2 ≤ l.length
    · have hs1 := splitN_lt h
      have hs2 := splitN_pos l.length
      match n, hn with
      | 0, hn => omega
      | n + 1, hn =>
        by_cases hi : i < splitN l.length
        · rw [incL_left h rfl hi, List.length_append]
          have := incL_len (k := k) n (l := l.take (splitN l.length)) (i := i) (by rw [List.length_take]; omega)
          rw [List.length_take] at this; simp only [List.length_cons, List.length_nil]; omega
        · rw [incL_right h rfl hi, List.length_append]
          have := incL_len (k := k) n (l := l.drop (splitN l.length)) (i := i - splitN l.length) (by rw [List.length_drop]; omega)
          rw [List.length_drop] at this; simp only [List.length_cons, List.length_nil]; omega
    · rw [incL_one (by omega)]; exact Nat.zero_le _

/-- The level above. -/
def upL (k : Nat) : List (List UInt8) → List (List UInt8)
  | a :: b :: r => nd k a b :: upL k r
  | l => l
theorem upL_len (k : Nat) : ∀ l : List (List UInt8), (upL k l).length = (l.length + 1) / 2
  | [] => by simp [upL]
  | [a] => by simp [upL]
  | a :: b :: r => by rw [upL, List.length_cons, upL_len k r]; simp only [List.length_cons]; omega
theorem upL_app (k : Nat) : ∀ (l r : List (List UInt8)), l.length % 2 = 0 → upL k (l ++ r) = upL k l ++ upL k r
  | [], r, _ => rfl
  | [a], r, h => by simp at h
  | a :: b :: l, r, h => by
    rw [List.cons_append, List.cons_append, upL, upL, upL_app k l r (by simp only [List.length_cons] at h; omega), List.cons_append]
theorem upL_two (k : Nat) : ∀ (l : List (List UInt8)) (j : Nat), 2 * j + 1 < l.length → (upL k l).getD j default = nd k (l.getD (2 * j) default) (l.getD (2 * j + 1) default)
  | [], j, h => by simp at h
  | [a], j, h => by simp at h
  | a :: b :: r, 0, _ => rfl
  | a :: b :: r, j + 1, h => by
    have ih := upL_two k r j (by simp only [List.length_cons] at h; omega)
    rw [upL, List.getD_cons_succ, ih, show 2 * (j + 1) = (2 * j + 1) + 1 by omega, List.getD_cons_succ, List.getD_cons_succ, List.getD_cons_succ, List.getD_cons_succ]
theorem upL_last (k : Nat) : ∀ (l : List (List UInt8)) (j : Nat), 2 * j + 1 = l.length → (upL k l).getD j default = l.getD (2 * j) default
  | [], j, h => by simp at h
  | [a], 0, _ => rfl
  | [a], j + 1, h => by simp only [List.length_cons, List.length_nil] at h; omega
  | a :: b :: r, 0, h => by simp only [List.length_cons] at h; omega
  | a :: b :: r, j + 1, h => by
    have ih := upL_last k r j (by simp only [List.length_cons] at h; omega)
    rw [upL, List.getD_cons_succ, ih, show 2 * (j + 1) = (2 * j + 1) + 1 by omega, List.getD_cons_succ, List.getD_cons_succ]
theorem splitN_even {n : Nat} (h : 3 ≤ n) : splitN n % 2 = 0 ∧ splitN ((n + 1) / 2) = splitN n / 2 ∧ 1 ≤ splitN n / 2 := by
  have h1 := splitN_lt (n := n) (by omega)
  have h2 := splitN_ge (n := n) (by omega)
  have h3 : splitN n = 2 ^ Nat.log2 (n - 1) := rfl
  obtain ⟨j, hj⟩ : ∃ j, Nat.log2 (n - 1) = j + 1 := by
    refine ⟨Nat.log2 (n - 1) - 1, ?_⟩
    rcases Nat.eq_zero_or_pos (Nat.log2 (n - 1)) with h0 | h0
    · rw [h0] at h3; omega
    · omega
  rw [hj, Nat.pow_succ] at h3
  have hp := Nat.one_le_two_pow (n := j)
  refine ⟨by omega, ?_, by omega⟩
  rw [splitN_eq (k := splitN n / 2) (j := j) (by omega) (by omega) (by omega)]
theorem upL_take (k : Nat) {l : List (List UInt8)} (h : 3 ≤ l.length) : (upL k l).take (splitN l.length / 2) = upL k (l.take (splitN l.length)) ∧ (upL k l).drop (splitN l.length / 2) = upL k (l.drop (splitN l.length)) := by
  have he := splitN_even h
  have h1 := splitN_lt (n := l.length) (by omega)
  have ht : (l.take (splitN l.length)).length = splitN l.length := by rw [List.length_take]; omega
  have hu : (upL k (l.take (splitN l.length))).length = splitN l.length / 2 := by rw [upL_len, ht]; omega
  have hc : upL k l = upL k (l.take (splitN l.length)) ++ upL k (l.drop (splitN l.length)) := by rw [← upL_app k _ _ (by rw [ht]; exact he.1), List.take_append_drop]
  rw [hc]
  exact ⟨List.take_left' hu, List.drop_left' hu⟩
theorem lg_up (k : Nat) : ∀ (n : Nat) {l : List (List UInt8)}, l.length ≤ n → l ≠ [] → lg k (upL k l) = lg k l
  | n, l, hn, h0 => by
    have hl : l.length ≠ 0 := fun h => h0 (List.length_eq_zero_iff.1 h)
    match l, hn, h0, hl with
    | [a], _, _, _ => simp [upL]
    | [a, b], _, _, _ =>
      rw [show upL k [a, b] = [nd k a b] from by simp [upL], lg_one, show ([a, b] : List (List UInt8)) = [a] ++ [b] from rfl, lg_join (p := 0) k rfl rfl, lg_one, lg_one]
    | a :: b :: c :: r, hn, _, _ =>
      generalize hL : a :: b :: c :: r = L at *
      have h3 : 3 ≤ L.length := by rw [← hL]; simp
      have he := splitN_even h3
      have h1 := splitN_lt (n := L.length) (by omega)
      have hp := splitN_pos L.length
      have hut := upL_take k h3
      match n, hn with
      | 0, hn => omega
      | n + 1, hn =>
        rw [lg_two k (l := upL k L) (by rw [upL_len]; omega), upL_len, he.2.1, hut.1, hut.2, lg_two k (l := L) (by omega),
          lg_up k n (by rw [List.length_take]; omega) (fun h => by have := congrArg List.length h; rw [List.length_take, List.length_nil] at this; omega),
          lg_up k n (by rw [List.length_drop]; omega) (fun h => by have := congrArg List.length h; rw [List.length_drop, List.length_nil] at this; omega)]
/-- The brother's place. -/
def bro (i : Nat) : Nat := i - i % 2 + 1 - i % 2
theorem bro_even {i s : Nat} (hs : s % 2 = 0) (h : s ≤ i) : bro i = s + bro (i - s) := by unfold bro; omega
theorem bro_lt {i s : Nat} (hs : s % 2 = 0) (h : i < s) : bro i < s := by unfold bro; omega
/-- The brother's digest, where there is one. -/
def fst' (l : List (List UInt8)) (i : Nat) : List (List UInt8) := if bro i < l.length then [l.getD (bro i) default] else []
theorem getD_take' {α : Type} [Inhabited α] {l : List α} {i s : Nat} (h : i < s) : (l.take s).getD i default = l.getD i default := by
  rw [List.getD_eq_getElem?_getD, List.getD_eq_getElem?_getD, List.getElem?_take_of_lt h]
theorem getD_drop' {α : Type} [Inhabited α] {l : List α} {i s : Nat} : (l.drop s).getD i default = l.getD (s + i) default := by
  rw [List.getD_eq_getElem?_getD, List.getD_eq_getElem?_getD, List.getElem?_drop]
theorem incL_up (k : Nat) : ∀ (n : Nat) {l : List (List UInt8)} {i : Nat}, l.length ≤ n → 2 ≤ l.length → i < l.length → incL k l i = fst' l i ++ incL k (upL k l) (i / 2)
  | n, l, i, hn, h2, hi => by
    rcases Nat.lt_or_ge l.length 3 with h3 | h3
    · match l, h2, h3 with
      | [a, b], _, _ =>
        have hs : splitN [a, b].length = 1 := rfl
        have hu : incL k (upL k [a, b]) (i / 2) = [] := incL_one (by rw [upL_len]; simp)
        rw [hu, List.append_nil]
        match i, hi with
        | 0, _ => rw [incL_left (by simp) hs (by omega), incL_one (by simp)]; simp [fst', bro, lg_one]
        | 1, _ => rw [incL_right (by simp) hs (by omega), incL_one (by simp)]; simp [fst', bro, lg_one]
        | i + 2, hi => simp only [List.length_cons, List.length_nil] at hi; omega
    · have he := splitN_even h3
      have h1 := splitN_lt (n := l.length) (by omega)
      have hp := splitN_pos l.length
      have hut := upL_take k h3
      have hul : (upL k l).length = (l.length + 1) / 2 := upL_len k l
      have hus : splitN (upL k l).length = splitN l.length / 2 := by rw [hul, he.2.1]
      generalize hS : splitN l.length = s at *
      have ht : (l.take s).length = s := by rw [List.length_take]; omega
      have hd : (l.drop s).length = l.length - s := by rw [List.length_drop]
      match n, hn with
      | 0, hn => omega
      | n + 1, hn =>
        by_cases hlt : i < s
        · rw [incL_left (by omega) hS hlt, incL_left (by omega) hus (by omega), hut.1, hut.2, lg_up k _ (Nat.le_refl _) (fun h => by have := congrArg List.length h; rw [hd, List.length_nil] at this; omega),
            incL_up k n (by omega) (by omega) (by omega), List.append_assoc]
          congr 1
          have hb := bro_lt he.1 hlt
          rw [fst', fst', if_pos (by omega), if_pos (by omega), getD_take' hb]
        · rw [incL_right (by omega) hS hlt, incL_right (by omega) hus (by omega), hut.1, hut.2, lg_up k _ (Nat.le_refl _) (fun h => by have := congrArg List.length h; rw [ht, List.length_nil] at this; omega)]
          have hb := bro_even he.1 (Nat.le_of_not_lt hlt)
          have hdv : i / 2 - s / 2 = (i - s) / 2 := by omega
          rw [hdv]
          rcases Nat.lt_or_ge (l.length - s) 2 with hq | hq
          · have hi0 : i - s = 0 := by omega
            have hu0 : (upL k (l.drop s)).length ≤ 1 := by rw [upL_len]; omega
            rw [incL_one (l := l.drop s) (by omega), incL_one hu0, fst', if_neg (by rw [hb, hi0]; simp only [bro]; omega)]
            rfl
          · rw [incL_up k n (by omega) (by omega) (by omega), List.append_assoc]
            congr 1
            rw [fst', fst', hd, hb]
            by_cases hbl : bro (i - s) < l.length - s
            · rw [if_pos hbl, if_pos (by omega), getD_drop']
            · rw [if_neg hbl, if_neg (by omega)]

/-- The digests that make the roots of the first m leaves and of all. -/
def conL (k : Nat) (l : List (List UInt8)) (m : Nat) (known : Bool) : List (List UInt8) :=
  if m = l.length then (if known = true then [] else [lg k l]) else
  if h : 2 ≤ l.length then
    if m ≤ splitN l.length then conL k (l.take (splitN l.length)) m known ++ [lg k (l.drop (splitN l.length))]
    else conL k (l.drop (splitN l.length)) (m - splitN l.length) false ++ [lg k (l.take (splitN l.length))]
  else []
termination_by l.length
decreasing_by
  · rw [List.length_take]; have := splitN_lt h; omega
  · rw [List.length_drop]; have := splitN_pos l.length; omega
theorem conL_end {k m : Nat} {l : List (List UInt8)} {known : Bool} (h : m = l.length) : conL k l m known = if known = true then [] else [lg k l] := by rw [conL, if_pos h]
theorem conL_left {k m : Nat} {l : List (List UInt8)} {known : Bool} (h0 : ¬ m = l.length) (h : 2 ≤ l.length) {s : Nat} (hs : splitN l.length = s) (hi : m ≤ s) : conL k l m known = conL k (l.take s) m known ++ [lg k (l.drop s)] := by subst hs; rw [conL, if_neg h0, dif_pos h, if_pos hi]
theorem conL_right {k m : Nat} {l : List (List UInt8)} {known : Bool} (h0 : ¬ m = l.length) (h : 2 ≤ l.length) {s : Nat} (hs : splitN l.length = s) (hi : ¬ m ≤ s) : conL k l m known = conL k (l.drop s) (m - s) false ++ [lg k (l.take s)] := by subst hs; rw [conL, if_neg h0, dif_pos h, if_neg hi]
theorem conL_mem {k : Nat} (h1 : 1 ≤ k) (h2 : k ≤ 32) : ∀ (n : Nat) {l : List (List UInt8)} {m : Nat} {known : Bool}, l.length ≤ n → (∀ d ∈ l, d.length = 32) → (∀ d ∈ l, fm (k : Int) d = true) → ∀ d ∈ conL k l m known, d.length = 32 ∧ fm (k : Int) d = true
  | n, l, m, known, hn, hl, hf, d, hd => by
    by_cases h0 : m = l.length
    · rw [conL_end h0] at hd
      cases known with
      | true => cases hd
      | false => rw [if_neg (by decide), List.mem_singleton] at hd; rw [hd]; exact ⟨lg_len h2 _ rfl hl, lg_fm h1 h2 hf⟩
    by_cases h : 2 ≤ l.length
    · have hs1 := splitN_lt h
      have hs2 := splitN_pos l.length
      have tl : ∀ d ∈ l.take (splitN l.length), d ∈ l := fun d hd => List.mem_of_mem_take hd
      have dl : ∀ d ∈ l.drop (splitN l.length), d ∈ l := fun d hd => List.mem_of_mem_drop hd
      match n, hn with
      | 0, hn => omega
      | n + 1, hn =>
        by_cases hi : m ≤ splitN l.length
        · rw [conL_left h0 h rfl hi] at hd
          rcases List.mem_append.1 hd with hd | hd
          · exact conL_mem h1 h2 n (by rw [List.length_take]; omega) (fun d hd => hl d (tl d hd)) (fun d hd => hf d (tl d hd)) d hd
          · rw [List.mem_singleton.1 hd]; exact ⟨lg_len h2 _ rfl (fun d hd => hl d (dl d hd)), lg_fm h1 h2 (fun d hd => hf d (dl d hd))⟩
        · rw [conL_right h0 h rfl hi] at hd
          rcases List.mem_append.1 hd with hd | hd
          · exact conL_mem h1 h2 n (by rw [List.length_drop]; omega) (fun d hd => hl d (dl d hd)) (fun d hd => hf d (dl d hd)) d hd
          · rw [List.mem_singleton.1 hd]; exact ⟨lg_len h2 _ rfl (fun d hd => hl d (tl d hd)), lg_fm h1 h2 (fun d hd => hf d (tl d hd))⟩
    · rw [conL, if_neg h0, dif_neg h] at hd; cases hd
theorem conL_len {k : Nat} : ∀ (n : Nat) {l : List (List UInt8)} {m : Nat} {known : Bool}, l.length ≤ n → 1 ≤ l.length → (conL k l m known).length ≤ l.length
  | n, l, m, known, hn, hl => by
    by_cases h0 : m = l.length
    · rw [conL_end h0]
      cases known with
      | true => exact Nat.zero_le _
      | false => exact hl
    by_cases h : 2 ≤ l.length
    · have hs1 := splitN_lt h
      have hs2 := splitN_pos l.length
      match n, hn with
      | 0, hn => omega
      | n + 1, hn =>
        by_cases hi : m ≤ splitN l.length
        · rw [conL_left h0 h rfl hi, List.length_append]
          have := conL_len (k := k) n (l := l.take (splitN l.length)) (m := m) (known := known) (by rw [List.length_take]; omega) (by rw [List.length_take]; omega)
          rw [List.length_take] at this; simp only [List.length_cons, List.length_nil]; omega
        · rw [conL_right h0 h rfl hi, List.length_append]
          have := conL_len (k := k) n (l := l.drop (splitN l.length)) (m := m - splitN l.length) (known := false) (by rw [List.length_drop]; omega) (by rw [List.length_drop]; omega)
          rw [List.length_drop] at this; simp only [List.length_cons, List.length_nil]; omega
    · rw [conL, if_neg h0, dif_neg h]; exact Nat.zero_le _
end Go.Ps

namespace Go.Ps

/-- The digests of an inclusion proof, by the splits. -/
def stN (i n : Nat) : Nat :=
  if h : 2 ≤ n then (if i < splitN n then stN i (splitN n) + 1 else stN (i - splitN n) (n - splitN n) + 1) else 0
termination_by n
decreasing_by
  · exact splitN_lt h
  · have := splitN_pos n; omega
theorem stN_one {i n : Nat} (h : n ≤ 1) : stN i n = 0 := by rw [stN, dif_neg (by omega)]
theorem incL_st (k : Nat) : ∀ (n : Nat) {l : List (List UInt8)} {i : Nat}, l.length ≤ n → (incL k l i).length = stN i l.length
  | n, l, i, hn => by
    by_cases h : 2 ≤ l.length
    · have hs1 := splitN_lt h
      have hs2 := splitN_pos l.length
      match n, hn with
      | 0, hn => omega
      | n + 1, hn =>
        rw [stN, dif_pos h]
        by_cases hi : i < splitN l.length
        · rw [incL_left h rfl hi, if_pos hi, List.length_append, incL_st k n (by rw [List.length_take]; omega), List.length_take, Nat.min_eq_left (by omega)]; rfl
        · rw [incL_right h rfl hi, if_neg hi, List.length_append, incL_st k n (by rw [List.length_drop]; omega), List.length_drop]; rfl
    · rw [incL_one (by omega), stN_one (by omega)]; rfl
theorem stN_up {i n : Nat} (h2 : 2 ≤ n) (hi : i < n) : stN i n = (if bro i < n then 1 else 0) + stN (i / 2) ((n + 1) / 2) := by
  have hl : (List.replicate n ([] : List UInt8)).length = n := List.length_replicate
  have h := congrArg List.length (incL_up 0 n (l := List.replicate n []) (i := i) (by omega) (by omega) (by omega))
  rw [List.length_append, incL_st 0 n (by omega), incL_st 0 n (by rw [upL_len]; omega), upL_len, hl] at h
  rw [h, fst', hl]
  split <;> rfl
theorem splitsL_st : ∀ (N : Nat) (i n : UInt64), n.toNat ≤ N → i < n → (splitsL i n).length = stN i.toNat n.toNat
  | N, i, n, hN, hi => by
    have hi' := UInt64.lt_iff_toNat_lt.1 hi
    by_cases h : 2 ≤ n.toNat
    · have hs1 := splitN_lt h
      have hs2 := splitN_pos n.toNat
      have hsn := splitU_nat h
      match N, hN with
      | 0, hN => omega
      | N + 1, hN =>
        rw [stN, dif_pos h]
        by_cases hlt : i < splitU n
        · have hlt' := UInt64.lt_iff_toNat_lt.1 hlt
          rw [splitsL_left h hlt, if_pos (by omega), List.length_cons, splitsL_st N i (splitU n) (by omega) hlt, hsn]
        · have hlt' : ¬ i.toNat < (splitU n).toNat := mt UInt64.lt_iff_toNat_lt.2 hlt
          have e1 : (i - splitU n).toNat = i.toNat - splitN n.toNat := by rw [UInt64.toNat_sub_of_le _ _ (UInt64.le_iff_toNat_le.2 (by omega)), hsn]
          have e2 : (n - splitU n).toNat = n.toNat - splitN n.toNat := by rw [UInt64.toNat_sub_of_le _ _ (UInt64.le_iff_toNat_le.2 (by omega)), hsn]
          rw [splitsL_right h hlt, if_neg (by omega), List.length_cons, splitsL_st N (i - splitU n) (n - splitU n) (by omega) (UInt64.lt_iff_toNat_lt.2 (by omega)), e1, e2]
    · rw [splitsL_end h, stN_one (by omega)]; rfl
theorem conL_cnt (k : Nat) : ∀ (N : Nat) {l : List (List UInt8)} {m : UInt64} {n : UInt64} {known : Bool}, l.length ≤ N → l.length = n.toNat → m ≠ 0 → m ≤ n → (conL k l m.toNat known).length = cntL m n known
  | N, l, m, n, known, hN, hl, h0, hle => by
    have hm0 : m.toNat ≠ 0 := fun h => h0 (UInt64.toNat.inj h)
    have hle' := UInt64.le_iff_toNat_le.1 hle
    by_cases he : m = n
    · subst he
      rw [conL_end hl.symm, cntL_end]; split <;> rfl
    have hne : m.toNat ≠ n.toNat := fun h => he (UInt64.toNat.inj h)
    have h : 2 ≤ n.toNat := by omega
    have hs1 := splitN_lt h
    have hs2 := splitN_pos n.toNat
    have hsn := splitU_nat h
    match N, hN with
    | 0, hN => omega
    | N + 1, hN =>
      by_cases hi : m ≤ splitU n
      · have hi' := UInt64.le_iff_toNat_le.1 hi
        rw [conL_left (by omega) (by omega) (s := splitN n.toNat) (by rw [hl]) (by omega), cntL_left he h hi, List.length_append,
          conL_cnt k N (n := splitU n) (by rw [List.length_take]; omega) (by rw [List.length_take, hsn]; omega) h0 hi]; rfl
      · have hi' : ¬ m.toNat ≤ (splitU n).toNat := mt UInt64.le_iff_toNat_le.2 hi
        have e1 : (m - splitU n).toNat = m.toNat - splitN n.toNat := by rw [UInt64.toNat_sub_of_le _ _ (UInt64.le_iff_toNat_le.2 (by omega)), hsn]
        have e2 : (n - splitU n).toNat = n.toNat - splitN n.toNat := by rw [UInt64.toNat_sub_of_le _ _ (UInt64.le_iff_toNat_le.2 (by omega)), hsn]
        rw [conL_right (by omega) (by omega) (s := splitN n.toNat) (by rw [hl]) (by omega), cntL_right he h hi, List.length_append, ← e1,
          conL_cnt k N (n := n - splitU n) (by rw [List.length_drop]; omega) (by rw [List.length_drop, e2]; omega) (fun h => by rw [h] at e1; have h9 : (0 : UInt64).toNat = 0 := rfl; omega) (UInt64.le_iff_toNat_le.2 (by omega))]; rfl
theorem splitsL_le64 {i n : UInt64} : (splitsL i n).length ≤ 64 := splitsL_len 64 i n (Nat.le_of_lt n.toNat_lt)
end Go.Ps
