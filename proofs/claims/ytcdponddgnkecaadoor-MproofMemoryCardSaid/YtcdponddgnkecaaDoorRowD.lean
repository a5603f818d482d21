import Derived.Test.YtcdponddgnkecaaDoorSxX
import Derived.Test.YtcdponddgnkecaaDoorMtV
set_option linter.unusedVariables false
set_option linter.unusedSimpArgs false
namespace Go.Sx
open Go.Ps
section
variable {P : Program} {n : Nat} {F : Fr} {ty : TypeId} {w0 w : World} {olds : List Nat}

abbrev flatD (L : List (List UInt8)) : List Value := L.flatMap fun d => d.map vU8
theorem flatD_len : ∀ {L : List (List UInt8)}, (∀ d ∈ L, d.length = 32) → (flatD L).length = L.length * 32
  | [], _ => rfl
  | x :: r, h => by
    have := flatD_len (L := r) (fun d hd => h d (.tail _ hd))
    simp only [flatD, List.flatMap_cons, List.length_append, List.length_map, List.length_cons] at this ⊢
    rw [this, h x (.head _)]; omega
theorem flat_set : ∀ (L : List (List UInt8)) (t : Nat) (d : List UInt8) (rest : List Value), (∀ d ∈ L, d.length = 32) → t < L.length →
    (flatD L ++ rest).take (t * 32) ++ d.map vU8 ++ (flatD L ++ rest).drop (t * 32 + 32) = flatD (L.set t d) ++ rest
  | [], t, _, _, _, h => by simp at h
  | x :: r, 0, d, rest, hl, _ => by
    have hx : (x.map vU8).length = 32 := by rw [List.length_map]; exact hl x (.head _)
    simp only [flatD, List.flatMap_cons, Nat.zero_mul, List.take_zero, List.nil_append, Nat.zero_add, List.set_cons_zero, List.append_assoc]
    rw [List.drop_left' hx]
  | x :: r, t + 1, d, rest, hl, h => by
    have hx : (x.map vU8).length = 32 := by rw [List.length_map]; exact hl x (.head _)
    have ih := flat_set r t d rest (fun d hd => hl d (.tail _ hd)) (by simpa using h)
    simp only [flatD, List.flatMap_cons, List.set_cons_succ, List.append_assoc] at ih ⊢
    rw [← ih, show (t + 1) * 32 = (x.map vU8).length + t * 32 by rw [hx]; omega, List.take_append, show (x.map vU8).length + t * 32 + 32 = (x.map vU8).length + (t * 32 + 32) by omega, List.drop_append]
    rw [List.take_of_length_le (by omega), List.drop_of_length_le (by omega)]
    simp only [List.nil_append, List.append_assoc, Nat.add_sub_cancel_left]
theorem RowE.open {a : Option Addr} {c k : Nat} {T : TypeId} {L : List (List UInt8)} {e : Ent} (h : RowE (.slice a k c) T 32 k (flatD L) e) (h0 : 0 < k) (hl : ∀ d ∈ L, d.length = 32) :
    ∃ b rest, a = some ⟨b, 0, none⟩ ∧ e = some (b, blk (flatD L ++ rest) T) ∧ ∀ L' : List (List UInt8), L'.length = L.length → (∀ d ∈ L', d.length = 32) → RowE (.slice (some ⟨b, 0, none⟩) k c) T 32 k (flatD L') (some (b, blk (flatD L' ++ rest) T)) := by
  obtain ⟨hn, ⟨_, h1, _⟩ | ⟨b, cap, rest, hv, hc, hcm, hcl, he⟩⟩ := h
  · omega
  · simp only [Value.slice.injEq] at hv
    obtain ⟨rfl, _, rfl⟩ := hv
    refine ⟨b, rest, rfl, he, fun L' hn' hl' => ?_⟩
    have e1 := flatD_len hl
    have e2 := flatD_len hl'
    refine ⟨by rw [e2, hn', ← e1]; exact hn, .inr ⟨b, c, rest, rfl, hc, hcm, ?_, rfl⟩⟩
    rw [List.length_append] at hcl ⊢
    rw [e2, hn', ← e1]; exact hcl
theorem does_set {l : List Ent} {T U : TypeId} {x y : Operand} {b t : Nat} {d : List UInt8} {L : List (List UInt8)} {rest : List Value} (i : Nat) (hx : ev F x = some (.pointer (some ⟨b, t * 32, none⟩))) (hy : ev F y = some (.agg (d.map vU8).toArray))
    (hp : pick l i = some (b, blk (flatD L ++ rest) U)) (hS : ∀ w, (sizeOf T).run P w = .ok 32 w) (hd : d.length = 32) (hl : ∀ d ∈ L, d.length = 32) (ht : t < L.length) :
    Does P n F (Mem w0 olds l) (.store T x y) ty (fun _ w' => Mem w0 olds (upd l i (some (b, blk (flatD (L.set t d) ++ rest) U))) w') :=
  does_store_agg_to (flatD (L.set t d) ++ rest) i hx hy hp (one_u8s _) hS (by rw [List.length_map]; exact hd) (by rw [List.length_append, flatD_len hl]; omega) (flat_set L t d rest hl ht)
theorem set_upto {L : List (List UInt8)} {f : Nat → List UInt8} {j : Nat} (h : ∀ t < j, L.getD t default = f t) (hj : j < L.length) : ∀ t < j + 1, (L.set j (f j)).getD t default = f t := by
  intro t ht
  rw [List.getD_eq_getElem?_getD, List.getElem?_set]
  by_cases e : j = t
  · subst e; rw [if_pos rfl, if_pos hj]; rfl
  · rw [if_neg e, ← List.getD_eq_getElem?_getD]; exact h t (by omega)
theorem set_len32 {L : List (List UInt8)} {d : List UInt8} {j : Nat} (h : ∀ d ∈ L, d.length = 32) (hd : d.length = 32) : ∀ x ∈ L.set j d, x.length = 32 := fun x hx =>
  (List.mem_or_eq_of_mem_set hx).elim (h x) (fun e => e ▸ hd)
/-- Rows of digests, each in an entry of its own. -/
def RowsE (T : TypeId) : List (Sl (List UInt8)) → List Ent → Prop
  | [], [] => True
  | s :: ks, e :: es => RowE (.slice s.a s.xs.length s.c) T 32 s.xs.length (flatD s.xs) e ∧ RowsE T ks es
  | _, _ => False
theorem RowsE.snoc {T : TypeId} : ∀ {ks : List (Sl (List UInt8))} {es : List Ent} {s : Sl (List UInt8)} {e : Ent}, RowsE T ks es → RowE (.slice s.a s.xs.length s.c) T 32 s.xs.length (flatD s.xs) e → RowsE T (ks ++ [s]) (es ++ [e])
  | [], [], _, _, _, h => ⟨h, trivial⟩
  | _ :: _, _ :: _, _, _, h, hr => ⟨h.1, RowsE.snoc h.2 hr⟩
  | [], _ :: _, _, _, h, _ => h.elim
  | _ :: _, [], _, _, h, _ => h.elim
theorem RowsE.split {T : TypeId} : ∀ {ks : List (Sl (List UInt8))} {es : List Ent} {i : Nat}, RowsE T ks es → i < ks.length → ∃ es1 e es2, es = es1 ++ e :: es2 ∧
    RowE (.slice (ks.getD i default).a (ks.getD i default).xs.length (ks.getD i default).c) T 32 (ks.getD i default).xs.length (flatD (ks.getD i default).xs) e ∧
    ∀ e', RowE (.slice (ks.getD i default).a (ks.getD i default).xs.length (ks.getD i default).c) T 32 (ks.getD i default).xs.length (flatD (ks.getD i default).xs) e' → RowsE T ks (es1 ++ e' :: es2)
  | [], _, _, _, h => by simp at h
  | _ :: _, [], _, h, _ => h.elim
  | s :: ks, e :: es, 0, h, _ => ⟨[], e, es, rfl, h.1, fun e' he => ⟨he, h.2⟩⟩
  | s :: ks, e :: es, i + 1, h, hi => by
    obtain ⟨es1, e1, es2, h1, h2, h3⟩ := RowsE.split h.2 (i := i) (by simpa using hi)
    exact ⟨e :: es1, e1, es2, by rw [h1]; rfl, h2, fun e' he => ⟨h.1, h3 e' he⟩⟩
theorem RowsE.rd {T : TypeId} {ks : List (Sl (List UInt8))} {es : List Ent} {i : Nat} (h : RowsE T ks es) (hi : i < ks.length) (hh : Held es w) : Rd w (ks.getD i default).a (flatD (ks.getD i default).xs) := by
  obtain ⟨es1, e, es2, rfl, h2, _⟩ := h.split hi
  exact h2.held (hh.sub (List.singleton_sublist.2 (List.mem_append_right _ (.head _))))
theorem Mem.pull {H A B T : List Ent} {e : Ent} (h : Mem w0 olds (H ++ ((A ++ e :: B) ++ T)) w) : Mem w0 olds (e :: none :: (H ++ ((A ++ B) ++ T))) w := by
  have h1 : Mem w0 olds (e :: (H ++ ((A ++ B) ++ T))) w := h.perm (by
    have e1 : H ++ ((A ++ e :: B) ++ T) = (H ++ A) ++ e :: (B ++ T) := by simp
    have e2 : e :: (H ++ ((A ++ B) ++ T)) = e :: ((H ++ A) ++ (B ++ T)) := by simp
    rw [e1, e2]; exact List.perm_middle.symm)
  exact h1.place.perm (.swap _ _ _)
theorem Mem.push {H A B T : List Ent} {e eg : Ent} (h : Mem w0 olds (e :: eg :: (H ++ ((A ++ B) ++ T))) w) : Mem w0 olds (H ++ ((A ++ e :: B) ++ (eg :: T))) w := by
  refine h.perm ?_
  have e1 : H ++ ((A ++ e :: B) ++ (eg :: T)) = (H ++ A) ++ e :: (B ++ eg :: T) := by simp
  have e2 : e :: eg :: (H ++ ((A ++ B) ++ T)) = e :: eg :: ((H ++ A ++ B) ++ T) := by simp
  have e3 : e :: ((H ++ A) ++ (B ++ eg :: T)) = e :: ((H ++ A ++ B) ++ eg :: T) := by simp
  rw [e1, e2]
  refine List.Perm.trans List.perm_middle ?_
  rw [e3]
  exact .cons _ List.perm_middle
theorem Mem.two {H es T : List Ent} {p q : Ent} (h : Mem w0 olds (q :: p :: (H ++ (es ++ T))) w) : Mem w0 olds (H ++ ((es ++ [p, q]) ++ T)) w := by
  refine h.perm ?_
  have e1 : H ++ ((es ++ [p, q]) ++ T) = (H ++ es) ++ p :: q :: T := by simp
  have e2 : q :: p :: (H ++ (es ++ T)) = q :: p :: ((H ++ es) ++ T) := by simp
  rw [e1, e2]
  exact ((List.Perm.swap _ _ _).trans ((List.Perm.cons _ List.perm_middle.symm).trans List.perm_middle.symm)).symm
end
def dgk (x y z : UInt8) : List UInt8 := ([x, y, z] : List UInt8) ++ List.replicate 29 0
theorem dgk_len (x y z : UInt8) : (dgk x y z).length = 32 := rfl
def KOk (N : Nat) (ks : List (Sl (List UInt8))) : Prop := ∀ t < ks.length, (ks.getD t default).xs.length ≤ N ∧ (∀ d ∈ (ks.getD t default).xs, d.length = 32) ∧
  ∀ j < (ks.getD t default).xs.length, (ks.getD t default).xs.getD j default = dgk (UInt8.ofNat (t / 2)) (UInt8.ofNat j) (UInt8.ofNat (77 + t % 2))
theorem KOk.nil (N : Nat) : KOk N [] := fun t h => by simp at h
theorem KOk.snoc2 {N i : Nat} {ks : List (Sl (List UInt8))} {p q : Sl (List UInt8)} (h : KOk N ks) (hn : ks.length = 2 * i) (hp : p.xs.length ≤ N) (hq : q.xs.length ≤ N) (hpl : ∀ d ∈ p.xs, d.length = 32) (hql : ∀ d ∈ q.xs, d.length = 32)
    (hpv : ∀ j < p.xs.length, p.xs.getD j default = dgk (UInt8.ofNat i) (UInt8.ofNat j) 77) (hqv : ∀ j < q.xs.length, q.xs.getD j default = dgk (UInt8.ofNat i) (UInt8.ofNat j) 78) : KOk N (ks ++ [p, q]) := by
  intro t ht
  rw [List.length_append] at ht
  simp only [List.length_cons, List.length_nil] at ht
  by_cases h1 : t < ks.length
  · have e : (ks ++ [p, q]).getD t default = ks.getD t default := by
      rw [List.getD_eq_getElem?_getD, List.getD_eq_getElem?_getD, List.getElem?_append_left h1]
    rw [e]; exact h t h1
  · by_cases h2 : t = ks.length
    · subst h2
      have e : (ks ++ [p, q]).getD ks.length default = p := by
        rw [List.getD_eq_getElem?_getD, List.getElem?_append_right (Nat.le_refl _), Nat.sub_self]; rfl
      rw [e, hn, show 2 * i / 2 = i by omega, show 77 + 2 * i % 2 = 77 by omega]; exact ⟨hp, hpl, hpv⟩
    · obtain rfl : t = ks.length + 1 := by omega
      have e : (ks ++ [p, q]).getD (ks.length + 1) default = q := by
        rw [List.getD_eq_getElem?_getD, List.getElem?_append_right (by omega), Nat.add_sub_cancel_left]; rfl
      rw [e, hn, show (2 * i + 1) / 2 = i by omega, show 77 + (2 * i + 1) % 2 = 78 by omega]; exact ⟨hq, hql, hqv⟩
end Go.Sx
