import Derived.Test.YtpmnhmfahgchgaaDoorPTag
import Derived.Test.YtpmnhmfahgchgaaDoorSxV
set_option linter.unusedVariables false
set_option linter.unusedSimpArgs false
namespace Go.Sx
open Go.Ps

def sameO (a b : Cop) : Bool :=
  if a.kind = 1 ∨ a.kind = 3 then decide (a.P.xs = b.P.xs) else if a.kind = 2 then decide (a.L = b.L) && decide (a.R = b.R) else if a.kind = 4 then decide (prs a.pairs.xs = prs b.pairs.xs)
  else if a.kind = 5 then decide (a.bm = b.bm) && decide (a.kids.xs = b.kids.xs) else decide (a.size = b.size) && decide (a.log = b.log) && decide (a.map = b.map)
def Cop.setW (o : Cop) (w : Int) : Cop := { o with w := w }
theorem Cop.cells_setW (o : Cop) (w : Int) : o.cells.set 1 (vInt w) = (o.setW w).cells := rfl
theorem Cop.setW_ok {W : World} {o : Cop} (h : o.ok W) {w : Int} (hw : -9223372036854775808 ≤ w ∧ w ≤ 9223372036854775807) : (o.setW w).ok W :=
  ⟨h.k, hw, h.p, h.ll, h.rl, h.pr, h.pl, h.pm, h.pe, h.kr, h.kl, h.km, h.ke, h.gl, h.ml⟩
theorem RowE.addr0 {a : Option Addr} {k c size : Nat} {T : TypeId} {xs : List Value} {e : Ent} (h : RowE (.slice a k c) T size k xs e) (h0 : 0 < k) : ∃ b, a = some ⟨b, 0, none⟩ := by
  rcases h.2 with ⟨h1, h2, _⟩ | ⟨b, cap, rest, hv, _⟩
  · omega
  · simp only [Value.slice.injEq] at hv; exact ⟨b, hv.1⟩
theorem flat2_get {α : Type} [Inhabited α] (f g : α → Value) : ∀ (ps : List α) (k : Nat), k < ps.length → (ps.flatMap fun x => [f x, g x])[k * 2]? = some (f (ps.getD k default)) ∧ (ps.flatMap fun x => [f x, g x])[k * 2 + 1]? = some (g (ps.getD k default))
  | [], k, h => by simp at h
  | x :: r, 0, _ => ⟨rfl, rfl⟩
  | x :: r, k + 1, h => by
    have ih := flat2_get f g r k (by simpa using h)
    rw [List.flatMap_cons, show (k + 1) * 2 = k * 2 + 1 + 1 by omega]
    exact ih
theorem cell_of_rd {w : World} {b o : Nat} {xs : List Value} (h : Rd w (some ⟨b, o, none⟩) xs) {j e : Nat} {u : Value} (hj : xs[j]? = some u) (he : o + j = e) : w.cell? ⟨b, e, none⟩ = some u := by
  obtain ⟨b', o', h1, h2⟩ := h j u hj
  simp only [Option.some.injEq, Addr.mk.injEq] at h1
  obtain ⟨rfl, rfl, _⟩ := h1
  subst he; exact h2
theorem take_step {α : Type} [Inhabited α] {p q : List α} {i : Nat} (hp : i < p.length) (hq : i < q.length) (h : p.take i = q.take i) (he : p.getD i default = q.getD i default) : p.take (i + 1) = q.take (i + 1) := by
  rw [take_getD hp, take_getD hq, h, he]
theorem getD_ne' {α : Type} [Inhabited α] {p q : List α} {i : Nat} (he : p.getD i default ≠ q.getD i default) : ¬ p = q := fun h => he (by rw [h])
theorem prs_get {ps : List (Sl UInt8 × Sl UInt8)} {i : Nat} (h : i < ps.length) : (prs ps).getD i default = ((ps.getD i default).1.xs, (ps.getD i default).2.xs) := by
  rw [prs, List.getD_eq_getElem?_getD, List.getElem?_map, List.getD_eq_getElem?_getD, List.getElem?_eq_getElem h]; rfl
theorem prs_len (ps : List (Sl UInt8 × Sl UInt8)) : (prs ps).length = ps.length := List.length_map _
def tagK (k : Int) : UInt8 := if k = 1 then 0 else if k = 2 then 1 else if k = 3 then 2 else if k = 4 then 3 else if k = 5 then 4 else 6
theorem tagK_five (k : Int) : tagK k ≠ 5 := by
  unfold tagK
  by_cases h1 : k = 1
  · rw [if_pos h1]; decide
  by_cases h2 : k = 2
  · rw [if_neg h1, if_pos h2]; decide
  by_cases h3 : k = 3
  · rw [if_neg h1, if_neg h2, if_pos h3]; decide
  by_cases h4 : k = 4
  · rw [if_neg h1, if_neg h2, if_neg h3, if_pos h4]; decide
  by_cases h5 : k = 5
  · rw [if_neg h1, if_neg h2, if_neg h3, if_neg h4, if_pos h5]; decide
  · rw [if_neg h1, if_neg h2, if_neg h3, if_neg h4, if_neg h5]; decide
theorem opIn_fst (o : Cop) (h : (opIn o).2 = 0) : ∃ r, (opIn o).1 = tagK o.kind :: r := by
  unfold opIn tagK at *
  by_cases h1 : o.kind = 1
  · simp only [h1, if_true] at h ⊢; exact ⟨_, rfl⟩
  by_cases h2 : o.kind = 2
  · simp only [h2, if_true, if_false, Int.reduceEq] at h ⊢
    exact ⟨o.L.take o.w.toNat ++ o.R.take o.w.toNat, by rw [nodeP, if_pos h, nodeI, List.append_assoc]; rfl⟩
  by_cases h3 : o.kind = 3
  · simp only [h3, if_true, if_false, Int.reduceEq] at h ⊢; exact ⟨_, rfl⟩
  by_cases h4 : o.kind = 4
  · simp only [h4, if_true, if_false, Int.reduceEq] at h ⊢
    exact ⟨uvar (UInt64.ofNat (prs o.pairs.xs).length) ++ pairsB (prs o.pairs.xs), by rw [bucketI, List.append_assoc]; rfl⟩
  by_cases h5 : o.kind = 5
  · simp only [h5, if_true, if_false, Int.reduceEq] at h ⊢
    exact ⟨be o.bm.toUInt64 2 ++ kidsB o.w.toNat o.kids.xs, by rw [branchP, if_pos h, branchI, List.append_assoc]; rfl⟩
  · simp only [h1, h2, h3, h4, h5, if_false] at h ⊢
    exact ⟨be o.size 8 ++ (o.log.take o.w.toNat ++ o.map.take o.w.toNat), by rw [rootP, if_pos h, rootI, List.append_assoc, List.append_assoc]; rfl⟩
theorem opIn_head (o : Cop) (h : (opIn o).2 = 0) : 0 < (opIn o).1.length ∧ (opIn o).1.getD 0 default ≠ 5 := by
  obtain ⟨r, h1⟩ := opIn_fst o h
  rw [h1]; exact ⟨by simp, tagK_five _⟩
theorem prs_small {W : World} {ps : List (Sl UInt8 × Sl UInt8)} (h : ∀ s ∈ ps, SlOk W s.1 ∧ SlOk W s.2) : ∀ s ∈ prs ps, s.1.length < 2 ^ 64 ∧ s.2.length < 2 ^ 64 := by
  intro s hs
  obtain ⟨x, hx, rfl⟩ := List.mem_map.1 hs
  have h1 := h x hx
  have h2 := h1.1.2.2
  have h3 := h1.2.2.2
  dsimp only
  omega
theorem kind_tag {a b : Int} (ha : 1 ≤ a ∧ a ≤ 6) (hb : 1 ≤ b ∧ b ≤ 6) (h : tagK a = tagK b) : a = b := by
  have h6 : ∀ x : Int, 1 ≤ x ∧ x ≤ 6 → x = 1 ∨ x = 2 ∨ x = 3 ∨ x = 4 ∨ x = 5 ∨ x = 6 := fun x hx => by omega
  rcases h6 a ha with rfl | rfl | rfl | rfl | rfl | rfl <;> rcases h6 b hb with rfl | rfl | rfl | rfl | rfl | rfl <;> first | rfl | (revert h; decide)
theorem one_thing {W W' : World} {a b : Cop} (ha : a.ok W) (hb : b.ok W') (hka : known a = true) (hkb : known b = true) (hw : a.w = b.w) (ea : (opIn a).2 = 0) (eb : (opIn b).2 = 0) :
    (a.kind = b.kind → decide ((opIn a).1 = (opIn b).1) = sameO a b) ∧ (¬ a.kind = b.kind → decide ((opIn a).1 = (opIn b).1) = false) := by
  have hra : 1 ≤ a.kind ∧ a.kind ≤ 6 := by simpa [known] using hka
  have hrb : 1 ≤ b.kind ∧ b.kind ≤ 6 := by simpa [known] using hkb
  refine ⟨fun hk => ?_, fun hk => ?_⟩
  · rw [Bool.eq_iff_iff, decide_eq_true_eq]
    unfold opIn at ea eb ⊢
    unfold sameO
    rw [← hk] at eb ⊢
    by_cases h1 : a.kind = 1
    · simp only [h1, if_true, true_or, decide_eq_true_eq]; exact leaf_inj
    by_cases h2 : a.kind = 2
    · simp only [h2, if_true, if_false, Int.reduceEq, or_self, Bool.and_eq_true, decide_eq_true_eq] at ea eb ⊢
      rw [nodeP, nodeP, if_pos ea, if_pos eb, ← hw]
      rw [← hw] at eb
      exact node_inj ha.ll hb.ll (chk_mem ea (by simp)) (chk_mem ea (by simp)) (chk_mem eb (by simp)) (chk_mem eb (by simp))
    by_cases h3 : a.kind = 3
    · simp only [h3, if_true, if_false, Int.reduceEq, or_true, decide_eq_true_eq]; exact key_inj
    by_cases h4 : a.kind = 4
    · simp only [h4, if_true, if_false, Int.reduceEq, or_self, decide_eq_true_eq]
      have hpa := ha.pm
      have hpb := hb.pm
      exact bucket_inj (by rw [prs_len]; omega) (by rw [prs_len]; omega) (prs_small ha.pe) (prs_small hb.pe)
    by_cases h5 : a.kind = 5
    · simp only [h5, if_true, if_false, Int.reduceEq, or_self, Bool.and_eq_true, decide_eq_true_eq] at ea eb ⊢
      rw [branchP, branchP, if_pos ea, if_pos eb, ← hw]
      rw [← hw] at eb
      obtain ⟨c1, _, o1⟩ := chkB_zero ea
      obtain ⟨c2, _, o2⟩ := chkB_zero eb
      exact branch_inj o1 o2 (fun d hd => ⟨ha.ke d hd, chk_mem c1 hd⟩) (fun d hd => ⟨hb.ke d hd, chk_mem c2 hd⟩)
    · simp only [h1, h2, h3, h4, h5, if_false, or_self, Bool.and_eq_true, decide_eq_true_eq] at ea eb ⊢
      rw [rootP, rootP, if_pos ea, if_pos eb, ← hw]
      rw [← hw] at eb
      rw [root_inj ha.gl hb.gl (chk_mem ea (by simp)) (chk_mem ea (by simp)) (chk_mem eb (by simp)) (chk_mem eb (by simp)), and_assoc]
  · rw [decide_eq_false_iff_not]
    intro h
    obtain ⟨r, h1⟩ := opIn_fst a ea
    obtain ⟨s, h2⟩ := opIn_fst b eb
    rw [h1, h2] at h
    injection h with h3 _
    exact hk (kind_tag hra hrb h3)
end Go.Sx
