import Derived.Test.YtpmnhmfahgchgaaDoorPDig
set_option linter.unusedVariables false
set_option linter.unusedSimpArgs false
namespace Go.Ps

theorem u8_small {a b : UInt64} (ha : a < 128) (hb : b < 128) (h : a.toUInt8 = b.toUInt8) : a = b := by
  apply UInt64.toNat.inj
  have h1 := congrArg UInt8.toNat h
  rw [UInt64.toNat_toUInt8, UInt64.toNat_toUInt8] at h1
  have h2 : a.toNat < 128 := by have := UInt64.lt_iff_toNat_lt.1 ha; simpa using this
  have h3 : b.toNat < 128 := by have := UInt64.lt_iff_toNat_lt.1 hb; simpa using this
  omega
theorem grp_toNat (v : UInt64) : (v.toUInt8 ||| 128).toNat = v.toNat % 128 + 128 := by
  rw [← group_eq, UInt8.toNat_add, UInt64.toNat_toUInt8, UInt64.toNat_mod]
  show (v.toNat % 128 % 256 + 128) % 256 = _
  omega
theorem uvar_pre : ∀ (n : Nat) (a b : UInt64) (x y : List UInt8), a.toNat ≤ n → uvar a ++ x = uvar b ++ y → a = b ∧ x = y
  | n, a, b, x, y, hn, h => by
    have hbig : ∀ v : UInt64, ¬ v < 128 → 128 ≤ v.toNat := fun v hv => by
      have : ¬ v.toNat < (128 : UInt64).toNat := fun h2 => hv (UInt64.lt_iff_toNat_lt.2 h2)
      simpa using this
    have hsm : ∀ v : UInt64, v < 128 → v.toUInt8.toNat < 128 := fun v hv => by
      have := UInt64.lt_iff_toNat_lt.1 hv
      rw [UInt64.toNat_toUInt8]
      have : v.toNat < 128 := by simpa using this
      omega
    by_cases ha : a < 128
    · by_cases hb : b < 128
      · rw [uvar_lt ha, uvar_lt hb] at h
        injection h with h1 h2
        exact ⟨u8_small ha hb h1, h2⟩
      · rw [uvar_lt ha, uvar_ge hb] at h
        injection h with h1 h2
        have h3 := hsm a ha
        rw [h1, grp_toNat] at h3; omega
    · by_cases hb : b < 128
      · rw [uvar_ge ha, uvar_lt hb] at h
        injection h with h1 h2
        have h3 := hsm b hb
        rw [← h1, grp_toNat] at h3; omega
      · rw [uvar_ge ha, uvar_ge hb] at h
        injection h with h1 h2
        have h3 := shr7_lt a ha
        match n, hn with
        | 0, hn => have := hbig a ha; omega
        | m + 1, hn =>
          obtain ⟨h4, h5⟩ := uvar_pre m (a >>> 7) (b >>> 7) x y (by omega) h2
          refine ⟨?_, h5⟩
          have h6 := congrArg UInt8.toNat h1
          rw [grp_toNat, grp_toNat] at h6
          have h7 := congrArg UInt64.toNat h4
          rw [UInt64.toNat_shiftRight, UInt64.toNat_shiftRight, show (7 : UInt64).toNat % 64 = 7 from rfl, Nat.shiftRight_eq_div_pow, Nat.shiftRight_eq_div_pow] at h7
          apply UInt64.toNat.inj
          omega
theorem ofNat_inj {m n : Nat} (hm : m < 2 ^ 64) (hn : n < 2 ^ 64) (h : UInt64.ofNat m = UInt64.ofNat n) : m = n := by
  have := congrArg UInt64.toNat h
  rw [UInt64.toNat_ofNat', UInt64.toNat_ofNat', Nat.mod_eq_of_lt hm, Nat.mod_eq_of_lt hn] at this
  exact this
theorem blob_pre {p q x y : List UInt8} (hp : p.length < 2 ^ 64) (hq : q.length < 2 ^ 64) (h : blob p ++ x = blob q ++ y) : p = q ∧ x = y := by
  rw [blob, blob, List.append_assoc, List.append_assoc] at h
  obtain ⟨h1, h2⟩ := uvar_pre _ _ _ _ _ (Nat.le_refl _) h
  exact List.append_inj h2 (ofNat_inj hp hq h1)
theorem pairs_pre : ∀ (ps qs : List (List UInt8 × List UInt8)), ps.length = qs.length → (∀ s ∈ ps, s.1.length < 2 ^ 64 ∧ s.2.length < 2 ^ 64) → (∀ s ∈ qs, s.1.length < 2 ^ 64 ∧ s.2.length < 2 ^ 64) → pairsB ps = pairsB qs → ps = qs
  | [], [], _, _, _, _ => rfl
  | [], _ :: _, h, _, _, _ => by cases h
  | _ :: _, [], h, _, _, _ => by cases h
  | (k, v) :: ps, (k', v') :: qs, h, hp, hq, he => by
    simp only [pairsB, List.flatMap_cons, List.append_assoc] at he
    have h1 := hp _ (.head _)
    have h2 := hq _ (.head _)
    obtain ⟨e1, h3⟩ := blob_pre h1.1 h2.1 he
    obtain ⟨e2, h4⟩ := blob_pre h1.2 h2.2 h3
    have h5 := pairs_pre ps qs (by simpa using h) (fun s hs => hp s (.tail _ hs)) (fun s hs => hq s (.tail _ hs)) h4
    subst e1; subst e2; subst h5; rfl
theorem bucket_inj {ps qs : List (List UInt8 × List UInt8)} (hl : ps.length < 2 ^ 64) (hl2 : qs.length < 2 ^ 64) (hp : ∀ s ∈ ps, s.1.length < 2 ^ 64 ∧ s.2.length < 2 ^ 64) (hq : ∀ s ∈ qs, s.1.length < 2 ^ 64 ∧ s.2.length < 2 ^ 64) : bucketI ps = bucketI qs ↔ ps = qs := by
  constructor
  · intro h
    simp only [bucketI, List.append_assoc, List.cons_append, List.nil_append] at h
    injection h with _ h
    obtain ⟨h1, h2⟩ := uvar_pre _ _ _ _ _ (Nat.le_refl _) h
    exact pairs_pre ps qs (ofNat_inj hl hl2 h1) hp hq h2
  · rintro rfl; rfl
theorem be_inj8 {x y : UInt64} (h : be x 8 = be y 8) : x = y := by
  apply UInt64.toNat.inj
  have key : ∀ j, j < 8 → x.toNat / 256 ^ j % 256 = y.toNat / 256 ^ j % 256 := by
    intro j hj
    have h1 := congrArg (fun l => l[7 - j]?) h
    simp only [be] at h1
    rw [List.getElem?_map, List.getElem?_map, List.getElem?_range (by omega), Option.map_some, Option.map_some] at h1
    have h2 := congrArg UInt8.toNat (Option.some.inj h1)
    rw [show 8 - 1 - (7 - j) = j by omega, UInt64.toNat_toUInt8, UInt64.toNat_toUInt8, shr_div x j (by omega), shr_div y j (by omega)] at h2
    exact h2
  have step : ∀ j, j ≤ 8 → x.toNat % 256 ^ j = y.toNat % 256 ^ j := by
    intro j
    induction j with
    | zero => intro _; rw [Nat.pow_zero, Nat.mod_one, Nat.mod_one]
    | succ j ih => intro hj; rw [Nat.mod_pow_succ, Nat.mod_pow_succ, ih (by omega), key j (by omega)]
  have h8 := step 8 (Nat.le_refl _)
  have hx := x.toNat_lt
  have hy := y.toNat_lt
  rw [Nat.mod_eq_of_lt (by omega), Nat.mod_eq_of_lt (by omega)] at h8
  exact h8
theorem be_inj2 {x y : UInt16} (h : be x.toUInt64 2 = be y.toUInt64 2) : x = y := by
  apply UInt16.toNat.inj
  have key : ∀ j, j < 2 → x.toNat / 256 ^ j % 256 = y.toNat / 256 ^ j % 256 := by
    intro j hj
    have h1 := congrArg (fun l => l[1 - j]?) h
    simp only [be] at h1
    rw [List.getElem?_map, List.getElem?_map, List.getElem?_range (by omega), Option.map_some, Option.map_some] at h1
    have h2 := congrArg UInt8.toNat (Option.some.inj h1)
    rw [show 2 - 1 - (1 - j) = j by omega, UInt64.toNat_toUInt8, UInt64.toNat_toUInt8, shr_div _ j (by omega), shr_div _ j (by omega)] at h2
    simpa using h2
  have h0 := key 0 (by omega)
  have h1 := key 1 (by omega)
  have hx : x.toNat < 65536 := x.toNat_lt
  have hy : y.toNat < 65536 := y.toNat_lt
  simp only [Nat.pow_zero, Nat.pow_one, Nat.div_one] at h0 h1
  omega
/-- Digests of a width: told by their first bytes. -/
theorem cutw_inj {w : Nat} {d e : List UInt8} (hd : cutw w d = d) (he : cutw w e = e) (h : d.take w = e.take w) : d = e := by
  rw [← hd, ← he, cutw, cutw, h]
theorem fm_cut {w : Int} {d : List UInt8} (h : fm w d = true) : cutw w.toNat d = d := by
  simp only [fm, Bool.and_eq_true, decide_eq_true_eq] at h; exact h.2
theorem chk_mem {w : Int} {l : List (List UInt8)} (h : chk w l = 0) {d : List UInt8} (hd : d ∈ l) : cutw w.toNat d = d := by
  have hw := chk_wd h
  rw [chk, if_pos hw] at h
  by_cases h1 : l.all (fm w) = true
  · exact fm_cut (List.all_eq_true.1 h1 d hd)
  · rw [if_neg h1] at h; cases h
theorem two_inj {w : Nat} {l r l' r' : List UInt8} (hl : l.length = 32) (hl' : l'.length = 32) (h : l.take w ++ r.take w = l'.take w ++ r'.take w) : l.take w = l'.take w ∧ r.take w = r'.take w :=
  List.append_inj h (by rw [List.length_take, List.length_take, hl, hl'])
theorem node_inj {w : Nat} {l r l' r' : List UInt8} (hl : l.length = 32) (hl' : l'.length = 32) (c1 : cutw w l = l) (c2 : cutw w r = r) (c3 : cutw w l' = l') (c4 : cutw w r' = r') : nodeI w l r = nodeI w l' r' ↔ l = l' ∧ r = r' := by
  constructor
  · intro h
    simp only [nodeI, List.append_assoc, List.cons_append, List.nil_append] at h
    injection h with _ h
    obtain ⟨h1, h2⟩ := two_inj hl hl' h
    exact ⟨cutw_inj c1 c3 h1, cutw_inj c2 c4 h2⟩
  · rintro ⟨rfl, rfl⟩; rfl
theorem root_inj {w : Nat} {s s' : UInt64} {l r l' r' : List UInt8} (hl : l.length = 32) (hl' : l'.length = 32) (c1 : cutw w l = l) (c2 : cutw w r = r) (c3 : cutw w l' = l') (c4 : cutw w r' = r') : rootI w s l r = rootI w s' l' r' ↔ s = s' ∧ l = l' ∧ r = r' := by
  constructor
  · intro h
    simp only [rootI, List.append_assoc, List.cons_append, List.nil_append] at h
    injection h with _ h
    obtain ⟨h0, h⟩ := List.append_inj h (by rw [be_len, be_len])
    obtain ⟨h1, h2⟩ := two_inj hl hl' h
    exact ⟨be_inj8 h0, cutw_inj c1 c3 h1, cutw_inj c2 c4 h2⟩
  · rintro ⟨rfl, rfl, rfl⟩; rfl
theorem kids_inj {w : Nat} : ∀ (ks qs : List (List UInt8)), ks.length = qs.length → (∀ d ∈ ks, d.length = 32 ∧ cutw w d = d) → (∀ d ∈ qs, d.length = 32 ∧ cutw w d = d) → kidsB w ks = kidsB w qs → ks = qs
  | [], [], _, _, _, _ => rfl
  | [], _ :: _, h, _, _, _ => by cases h
  | _ :: _, [], h, _, _, _ => by cases h
  | k :: ks, q :: qs, h, hk, hq, he => by
    simp only [kidsB, List.flatMap_cons] at he
    have h1 := hk _ (.head _)
    have h2 := hq _ (.head _)
    obtain ⟨e1, h3⟩ := List.append_inj he (by rw [List.length_take, List.length_take, h1.1, h2.1])
    have h5 := kids_inj ks qs (by simpa using h) (fun s hs => hk s (.tail _ hs)) (fun s hs => hq s (.tail _ hs)) h3
    rw [cutw_inj h1.2 h2.2 e1, h5]
theorem branch_inj {w : Nat} {b c : UInt16} {ks qs : List (List UInt8)} (hb : ones b = ks.length) (hc : ones c = qs.length) (hk : ∀ d ∈ ks, d.length = 32 ∧ cutw w d = d) (hq : ∀ d ∈ qs, d.length = 32 ∧ cutw w d = d) : branchI w b ks = branchI w c qs ↔ b = c ∧ ks = qs := by
  constructor
  · intro h
    simp only [branchI, List.append_assoc, List.cons_append, List.nil_append] at h
    injection h with _ h
    obtain ⟨h0, h2⟩ := List.append_inj h (by rw [be_len, be_len])
    have h1 := be_inj2 h0
    exact ⟨h1, kids_inj ks qs (by rw [← hb, ← hc, h1]) hk hq h2⟩
  · rintro ⟨rfl, rfl⟩; rfl
theorem leaf_inj {p q : List UInt8} : leafI p = leafI q ↔ p = q := by simp [leafI]
theorem key_inj {p q : List UInt8} : keyI p = keyI q ↔ p = q := by simp [keyI]
theorem chkB_zero {w : Int} {bm : UInt16} {ks : List (List UInt8)} (h : chkB w bm ks = 0) : chk w ks = 0 ∧ ¬ bm = 0 ∧ ones bm = ks.length := by
  unfold chkB at h
  by_cases h1 : chk w ks ≠ 0
  · rw [if_pos h1] at h; exact absurd h h1
  · rw [if_neg h1] at h
    by_cases h2 : bm = 0 ∨ ones bm ≠ ks.length
    · rw [if_pos h2] at h; cases h
    · exact ⟨by omega, fun h3 => h2 (.inl h3), Decidable.byContradiction fun h3 => h2 (.inr h3)⟩
end Go.Ps
