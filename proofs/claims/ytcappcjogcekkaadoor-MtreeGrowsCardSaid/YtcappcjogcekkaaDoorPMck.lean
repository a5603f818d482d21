/- Plain law of layer 12: the way up, by a proof's last digests. -/
import Derived.Test.YtcappcjogcekkaaDoorPDig
set_option linter.unusedVariables false
set_option linter.unusedSimpArgs false
namespace Go.Ps

/-- The greatest power of two below n. -/
def splitN (n : Nat) : Nat := 2 ^ Nat.log2 (n - 1)
def splitU (n : UInt64) : UInt64 := UInt64.ofNat (splitN n.toNat)
theorem splitN_lt {n : Nat} (h : 2 ≤ n) : splitN n < n := by
  have := Nat.log2_self_le (n := n - 1) (by omega); unfold splitN; omega
theorem splitN_pos (n : Nat) : 1 ≤ splitN n := Nat.one_le_two_pow
theorem splitN_ge {n : Nat} (h : 2 ≤ n) : n ≤ 2 * splitN n := by
  have := Nat.lt_log2_self (n := n - 1)
  rw [Nat.pow_succ] at this
  unfold splitN; omega
theorem splitN_eq {n k : Nat} {j : Nat} (hk : k = 2 ^ j) (h1 : k < n) (h2 : n ≤ 2 * k) : splitN n = k := by
  have h3 : (n - 1).log2 = j := (Nat.log2_eq_iff (by have := Nat.one_le_two_pow (n := j); omega)).2 ⟨by omega, by rw [Nat.pow_succ]; omega⟩
  rw [splitN, h3, hk]
theorem splitU_nat {n : UInt64} (h : 2 ≤ n.toNat) : (splitU n).toNat = splitN n.toNat := by
  have h1 := splitN_lt h
  have h2 := n.toNat_lt
  rw [splitU, UInt64.toNat_ofNat', Nat.mod_eq_of_lt (by omega)]
theorem splitU_eq {n k : UInt64} {j : Nat} (hk : k.toNat = 2 ^ j) (h1 : k.toNat < n.toNat) (h2 : n.toNat ≤ 2 * k.toNat) : splitU n = k := by
  rw [splitU, splitN_eq hk h1 h2, UInt64.ofNat_toNat]

def nd (k : Nat) (l r : List UInt8) : List UInt8 := dig k (nodeI k l r)
theorem nd_len (k : Nat) (l r : List UInt8) (h : k ≤ 32) : (nd k l r).length = 32 := dig_len _ h
theorem cutw_idem (k : Nat) (d : List UInt8) (hd : d.length = 32) (hk : k ≤ 32) : cutw k (cutw k d) = cutw k d := by
  have h1 : (d.take k).length = k := by rw [List.length_take]; omega
  simp only [cutw]
  rw [List.take_append_of_le_length (by omega), List.take_of_length_le (by omega)]
theorem fm_cut {k : Nat} (h1 : 1 ≤ k) (h2 : k ≤ 32) (d : List UInt8) (hd : d.length = 32) : fm (k : Int) (cutw k d) = true := by
  simp only [fm, wd_of h1 h2, Bool.true_and, Int.toNat_natCast]
  exact decide_eq_true (cutw_idem k d hd h2)
theorem fm_nd {k : Nat} (h1 : 1 ≤ k) (h2 : k ≤ 32) (l r : List UInt8) : fm (k : Int) (nd k l r) = true := fm_cut h1 h2 _ (outAll_len _ _)
theorem fm_dig {k : Nat} (h1 : 1 ≤ k) (h2 : k ≤ 32) (p : List UInt8) : fm (k : Int) (dig k p) = true := fm_cut h1 h2 _ (outAll_len _ _)
theorem fm_zeros {k : Nat} (h1 : 1 ≤ k) (h2 : k ≤ 32) : fm (k : Int) zeros32 = true := by
  simp only [fm, wd_of h1 h2, Bool.true_and, Int.toNat_natCast]
  refine decide_eq_true ?_
  simp only [cutw, zeros32, List.take_replicate, List.replicate_append_replicate]
  congr 1; omega
theorem chk_two {k : Nat} (h1 : 1 ≤ k) (h2 : k ≤ 32) {l r : List UInt8} (hl : fm (k : Int) l = true) (hr : fm (k : Int) r = true) : chk (k : Int) [l, r] = 0 :=
  chk_all (wd_of h1 h2) (fun d hd => by simp only [List.mem_cons, List.not_mem_nil, or_false] at hd; rcases hd with rfl | rfl <;> assumption)
theorem digO_node {k : Nat} (h1 : 1 ≤ k) (h2 : k ≤ 32) {l r : List UInt8} (hl : fm (k : Int) l = true) (hr : fm (k : Int) r = true) : digO (k : Int) (nodeP (k : Int) l r) (chk (k : Int) [l, r]) = (nd k l r, 0) := by
  rw [nodeP, chk_two h1 h2 hl hr, if_pos rfl, digO_yes h1 h2, Int.toNat_natCast]; rfl

/-- The root to which a proof leads from a leaf, the proof's last digest first; and whether its count is right. -/
def upR (k : Nat) (leaf : List UInt8) : UInt64 → UInt64 → List (List UInt8) → List UInt8 × Bool
  | _, n, [] => if n = 1 then (leaf, true) else (zeros32, false)
  | i, n, e :: r => if n = 1 then (leaf, false) else if i < splitU n then (nd k (upR k leaf i (splitU n) r).1 e, (upR k leaf i (splitU n) r).2) else (nd k e (upR k leaf (i - splitU n) (n - splitU n) r).1, (upR k leaf (i - splitU n) (n - splitU n) r).2)
theorem upR_fm {k : Nat} (h1 : 1 ≤ k) (h2 : k ≤ 32) {leaf : List UInt8} (hl : fm (k : Int) leaf = true) : ∀ (rp : List (List UInt8)) (i n : UInt64), fm (k : Int) (upR k leaf i n rp).1 = true
  | [], i, n => by unfold upR; split; exact hl; exact fm_zeros h1 h2
  | e :: r, i, n => by
    unfold upR; split; exact hl
    split <;> exact fm_nd h1 h2 _ _
theorem upR_len {k : Nat} (h2 : k ≤ 32) {leaf : List UInt8} (hl : leaf.length = 32) : ∀ (rp : List (List UInt8)) (i n : UInt64), (upR k leaf i n rp).1.length = 32
  | [], i, n => by unfold upR; split; exact hl; rfl
  | e :: r, i, n => by
    unfold upR; split; exact hl
    split <;> exact nd_len _ _ _ h2
/-- The roots for m and n; whole: the old one is at hand. -/
def twoR (k : Nat) (old : List UInt8) : UInt64 → UInt64 → Bool → List (List UInt8) → (List UInt8 × List UInt8) × Bool
  | m, n, whole, [] => if m = n ∧ whole = true then ((old, old), true) else ((zeros32, zeros32), false)
  | m, n, whole, e :: r => if m = n ∧ whole = true then ((old, old), false) else if m = n then ((e, e), r.isEmpty) else
    if m ≤ splitU n then (((twoR k old m (splitU n) whole r).1.1, nd k (twoR k old m (splitU n) whole r).1.2 e), (twoR k old m (splitU n) whole r).2)
    else ((nd k e (twoR k old (m - splitU n) (n - splitU n) false r).1.1, nd k e (twoR k old (m - splitU n) (n - splitU n) false r).1.2), (twoR k old (m - splitU n) (n - splitU n) false r).2)
/-- The document's. -/
def twoD (k : Nat) (old : List UInt8) : UInt64 → UInt64 → Bool → List (List UInt8) → (List UInt8 × List UInt8) × Bool
  | m, n, whole, [] => if m = n ∧ whole = true then ((old, old), true) else ((old, old), false)
  | m, n, whole, e :: r => if m = n ∧ whole = true then ((old, old), false) else if m = n then (if r.isEmpty = true then ((e, e), true) else ((old, old), false)) else
    if m ≤ splitU n then (((twoD k old m (splitU n) whole r).1.1, nd k (twoD k old m (splitU n) whole r).1.2 e), (twoD k old m (splitU n) whole r).2)
    else ((nd k e (twoD k old (m - splitU n) (n - splitU n) false r).1.1, nd k e (twoD k old (m - splitU n) (n - splitU n) false r).1.2), (twoD k old (m - splitU n) (n - splitU n) false r).2)
theorem two_same (k : Nat) (old : List UInt8) : ∀ (rp : List (List UInt8)) (m n : UInt64) (whole : Bool), (twoR k old m n whole rp).2 = (twoD k old m n whole rp).2 ∧ ((twoR k old m n whole rp).2 = true → (twoR k old m n whole rp).1 = (twoD k old m n whole rp).1)
  | [], m, n, whole => by unfold twoR twoD; split <;> simp
  | e :: r, m, n, whole => by
    unfold twoR twoD
    split
    · simp
    split
    · split <;> simp_all
    split
    · have := two_same k old r m (splitU n) whole
      exact ⟨this.1, fun h => by rw [this.2 h]⟩
    · have := two_same k old r (m - splitU n) (n - splitU n) false
      exact ⟨this.1, fun h => by rw [this.2 h]⟩
theorem twoR_fm {k : Nat} (h1 : 1 ≤ k) (h2 : k ≤ 32) {old : List UInt8} (ho : fm (k : Int) old = true) : ∀ (rp : List (List UInt8)) (_ : ∀ d ∈ rp, fm (k : Int) d = true) (m n : UInt64) (whole : Bool),
    fm (k : Int) (twoR k old m n whole rp).1.1 = true ∧ fm (k : Int) (twoR k old m n whole rp).1.2 = true
  | [], _, m, n, whole => by unfold twoR; split; exact ⟨ho, ho⟩; exact ⟨fm_zeros h1 h2, fm_zeros h1 h2⟩
  | e :: r, hr, m, n, whole => by
    have he := hr e (by simp)
    unfold twoR
    split
    · exact ⟨ho, ho⟩
    split
    · exact ⟨he, he⟩
    split
    · exact ⟨(twoR_fm h1 h2 ho r (fun d hd => hr d (by simp [hd])) _ _ _).1, fm_nd h1 h2 _ _⟩
    · exact ⟨fm_nd h1 h2 _ _, fm_nd h1 h2 _ _⟩
theorem twoR_len {k : Nat} (h2 : k ≤ 32) {old : List UInt8} (ho : old.length = 32) : ∀ (rp : List (List UInt8)) (_ : ∀ d ∈ rp, d.length = 32) (m n : UInt64) (whole : Bool),
    (twoR k old m n whole rp).1.1.length = 32 ∧ (twoR k old m n whole rp).1.2.length = 32
  | [], _, m, n, whole => by unfold twoR; split; exact ⟨ho, ho⟩; exact ⟨rfl, rfl⟩
  | e :: r, hr, m, n, whole => by
    have he := hr e (by simp)
    unfold twoR
    split
    · exact ⟨ho, ho⟩
    split
    · exact ⟨he, he⟩
    split
    · exact ⟨(twoR_len h2 ho r (fun d hd => hr d (by simp [hd])) _ _ _).1, nd_len _ _ _ h2⟩
    · exact ⟨nd_len _ _ _ h2, nd_len _ _ _ h2⟩
theorem twoD_len {k : Nat} (h2 : k ≤ 32) {old : List UInt8} (ho : old.length = 32) : ∀ (rp : List (List UInt8)) (_ : ∀ d ∈ rp, d.length = 32) (m n : UInt64) (whole : Bool),
    (twoD k old m n whole rp).1.1.length = 32 ∧ (twoD k old m n whole rp).1.2.length = 32
  | [], _, m, n, whole => by unfold twoD; split <;> exact ⟨ho, ho⟩
  | e :: r, hr, m, n, whole => by
    have he := hr e (by simp)
    unfold twoD
    split
    · exact ⟨ho, ho⟩
    split
    · split; exact ⟨he, he⟩; exact ⟨ho, ho⟩
    split
    · exact ⟨(twoD_len h2 ho r (fun d hd => hr d (by simp [hd])) _ _ _).1, nd_len _ _ _ h2⟩
    · exact ⟨nd_len _ _ _ h2, nd_len _ _ _ h2⟩

/-! What the calls answer. -/
/-- The error of a width, of a proof, and of other digests. -/
def allE (w : Int) (proof l : List (List UInt8)) : Nat := if chk w l ≠ 0 then chk w l else chk w proof
theorem chk_app (w : Int) (l p : List (List UInt8)) : chk w (l ++ p) = allE w p l := by
  unfold allE
  cases hw : wd w with
  | false => rw [chk_no hw, chk_no hw, if_pos (by decide)]
  | true =>
    by_cases h1 : l.all (fm w) = true
    · have h2 : chk w l = 0 := by rw [chk, if_pos hw, if_pos h1]
      rw [h2, if_neg (by simp)]
      simp only [chk, if_pos hw, List.all_append, h1, Bool.true_and]
    · have h2 : chk w l = 3 := by rw [chk, if_pos hw, if_neg h1]
      rw [h2, if_pos (by decide), chk, if_pos hw, if_neg]
      rw [List.all_append, Bool.and_eq_true]; exact fun h => h1 h.1
def rootO (w : Int) (leaf : List UInt8) (i n : UInt64) (proof : List (List UInt8)) : List UInt8 × Nat :=
  if allE w proof [leaf] ≠ 0 then (zeros32, allE w proof [leaf]) else if n ≤ i then (zeros32, 4) else
  if (upR w.toNat leaf i n proof.reverse).2 = true then ((upR w.toNat leaf i n proof.reverse).1, 0) else (zeros32, 10)
def inclO (w : Int) (leaf : List UInt8) (i n : UInt64) (proof : List (List UInt8)) (root : List UInt8) : Nat :=
  if chk w [root] ≠ 0 then chk w [root] else if (rootO w leaf i n proof).2 ≠ 0 then (rootO w leaf i n proof).2 else if (rootO w leaf i n proof).1 ≠ root then 10 else 0
def rootsO (w : Int) (m n : UInt64) (old : List UInt8) (proof : List (List UInt8)) : (List UInt8 × List UInt8) × Nat :=
  if allE w proof [old] ≠ 0 then ((zeros32, zeros32), allE w proof [old]) else if m < 1 ∨ n ≤ m then ((zeros32, zeros32), 4) else
  if (twoR w.toNat old m n true proof.reverse).2 = true then ((twoR w.toNat old m n true proof.reverse).1, 0) else ((zeros32, zeros32), 10)
def consO (w : Int) (m n : UInt64) (old root : List UInt8) (proof : List (List UInt8)) : Nat :=
  if allE w proof [old, root] ≠ 0 then allE w proof [old, root] else if n < m then 4 else
  if (if m = n then proof.length = 0 ∧ old = root else if m = 0 then proof.length = 0 ∧ old = dig w.toNat [] else (rootsO w m n old proof).2 = 0 ∧ (rootsO w m n old proof).1 = (old, root)) then 0 else 10
theorem allE_ok {w : Int} {p l : List (List UInt8)} (h : allE w p l = 0) : wd w = true ∧ (∀ d ∈ l, fm w d = true) ∧ ∀ d ∈ p, fm w d = true := by
  unfold allE at h
  cases hw : wd w with
  | false => rw [chk_no hw, if_pos (by decide)] at h; cases h
  | true =>
    have h1 : chk w l = 0 := by
      by_cases h1 : chk w l = 0
      · exact h1
      · rw [if_pos h1] at h; exact absurd h h1
    rw [if_neg (by simp [h1])] at h
    have key : ∀ q, chk w q = 0 → ∀ d ∈ q, fm w d = true := fun q hq => by
      rw [chk, if_pos hw] at hq
      by_cases h2 : q.all (fm w) = true
      · exact List.all_eq_true.1 h2
      · rw [if_neg h2] at hq; cases hq
    exact ⟨rfl, key _ h1, key _ h⟩
theorem inclP_same (w : Int) (leaf : List UInt8) (i n : UInt64) (proof : List (List UInt8)) (root : List UInt8) :
    (if allE w proof [leaf, root] ≠ 0 then allE w proof [leaf, root] else if (rootO w leaf i n proof).2 = 0 ∧ (rootO w leaf i n proof).1 ≠ root then 10 else (rootO w leaf i n proof).2) = inclO w leaf i n proof root := by
  cases hw : wd w with
  | false => simp [inclO, allE, chk, hw]
  | true =>
    cases hr : fm w root with
    | false => simp [inclO, allE, chk, hw, hr]
    | true =>
      have h1 : chk w [root] = 0 := by simp [chk, hw, hr]
      have h2 : allE w proof [leaf, root] = allE w proof [leaf] := by simp [allE, chk, hw, hr]
      have h6 : inclO w leaf i n proof root = if (rootO w leaf i n proof).2 ≠ 0 then (rootO w leaf i n proof).2 else if (rootO w leaf i n proof).1 ≠ root then 10 else 0 := by rw [inclO, if_neg (by simp [h1])]
      rw [h6, h2]
      by_cases h3 : allE w proof [leaf] = 0
      · rw [if_neg (by simp [h3])]
        by_cases h4 : (rootO w leaf i n proof).2 = 0
        · simp [h4]
        · simp [h4]
      · rw [if_pos h3]
        have h5 : (rootO w leaf i n proof).2 = allE w proof [leaf] := by rw [rootO, if_pos h3]
        rw [h5, if_pos h3]
theorem consO_err {w : Int} {m n : UInt64} {old root : List UInt8} {proof : List (List UInt8)} (h : allE w proof [old, root] ≠ 0) : consO w m n old root proof = allE w proof [old, root] := by rw [consO, if_pos h]
theorem consO_gt {w : Int} {m n : UInt64} {old root : List UInt8} {proof : List (List UInt8)} (h : allE w proof [old, root] = 0) (h1 : n < m) : consO w m n old root proof = 4 := by rw [consO, if_neg (by simp [h]), if_pos h1]
theorem consO_eq {w : Int} {m n : UInt64} {old root : List UInt8} {proof : List (List UInt8)} (h : allE w proof [old, root] = 0) (h1 : ¬ n < m) (h2 : m = n) : consO w m n old root proof = if proof.length = 0 ∧ old = root then 0 else 10 := by
  rw [consO, if_neg (by simp [h]), if_neg h1]; simp only [if_pos h2]
theorem consO_zero {w : Int} {m n : UInt64} {old root : List UInt8} {proof : List (List UInt8)} (h : allE w proof [old, root] = 0) (h1 : ¬ n < m) (h2 : ¬ m = n) (h3 : m = 0) : consO w m n old root proof = if proof.length = 0 ∧ old = dig w.toNat [] then 0 else 10 := by
  rw [consO, if_neg (by simp [h]), if_neg h1]; simp only [if_neg h2, if_pos h3]
theorem consO_two {w : Int} {m n : UInt64} {old root : List UInt8} {proof : List (List UInt8)} (h : allE w proof [old, root] = 0) (h1 : ¬ n < m) (h2 : ¬ m = n) (h3 : ¬ m = 0) : consO w m n old root proof = if (rootsO w m n old proof).2 = 0 ∧ (rootsO w m n old proof).1 = (old, root) then 0 else 10 := by
  rw [consO, if_neg (by simp [h]), if_neg h1]; simp only [if_neg h2, if_neg h3]
theorem rootO_len {w : Int} {leaf : List UInt8} {i n : UInt64} {proof : List (List UInt8)} (h : leaf.length = 32) : (rootO w leaf i n proof).1.length = 32 := by
  unfold rootO
  split; rfl
  rename_i h1
  split; rfl
  split
  · have h9 := allE_ok (by simpa using h1)
    obtain ⟨k, rfl, _, h2⟩ := wd_nat h9.1
    rw [Int.toNat_natCast]
    exact upR_len h2 h _ _ _
  · rfl
theorem rootsO_len {w : Int} {old : List UInt8} {m n : UInt64} {proof : List (List UInt8)} (h : old.length = 32) (hp : ∀ d ∈ proof, d.length = 32) : (rootsO w m n old proof).1.1.length = 32 ∧ (rootsO w m n old proof).1.2.length = 32 := by
  unfold rootsO
  split; exact ⟨rfl, rfl⟩
  rename_i h1
  split; exact ⟨rfl, rfl⟩
  split
  · have h9 := allE_ok (by simpa using h1)
    obtain ⟨k, rfl, _, h2⟩ := wd_nat h9.1
    rw [Int.toNat_natCast]
    exact twoR_len h2 h _ (fun d hd => hp d (List.mem_reverse.1 hd)) _ _ _
  · exact ⟨rfl, rfl⟩
end Go.Ps
