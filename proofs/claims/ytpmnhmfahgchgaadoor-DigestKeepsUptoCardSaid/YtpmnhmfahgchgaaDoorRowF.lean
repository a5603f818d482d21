import Derived.Test.YtpmnhmfahgchgaaDoorRowB
import Derived.Test.YtpmnhmfahgchgaaDoorSxY
set_option linter.unusedVariables false
set_option linter.unusedSimpArgs false
namespace Go.Sx
open Go.Ps
/-- Each entry as the law of its place tells. -/
def EAll (R : Nat → Ent → Prop) (n : Nat) (es : List Ent) : Prop := es.length = n ∧ ∀ i, i < n → R i (es.getD i none)
theorem EAll.split {R : Nat → Ent → Prop} {n : Nat} {es : List Ent} (h : EAll R n es) {i : Nat} (hi : i < n) :
    ∃ es1 e es2, es = es1 ++ e :: es2 ∧ R i e ∧ ∀ (R' : Nat → Ent → Prop) (e' : Ent), R' i e' → (∀ j x, j ≠ i → j < n → R j x → R' j x) → EAll R' n (es1 ++ e' :: es2) := by
  have hl : i < es.length := by rw [h.1]; exact hi
  refine ⟨es.take i, es.getD i none, es.drop (i + 1), ?_, h.2 i hi, fun R' e' he hr => ⟨?_, fun j hj => ?_⟩⟩
  · rw [List.getD_eq_getElem?_getD, List.getElem?_eq_getElem hl, Option.getD_some, ← List.drop_eq_getElem_cons hl, List.take_append_drop]
  · rw [List.length_append, List.length_cons, List.length_take, List.length_drop, Nat.min_eq_left (Nat.le_of_lt hl), h.1]; omega
  · have e : es.take i ++ e' :: es.drop (i + 1) = es.set i e' := by rw [List.set_eq_take_append_cons_drop, if_pos hl]
    rw [e, List.getD_eq_getElem?_getD, List.getElem?_set]
    by_cases hji : i = j
    · subst hji; rw [if_pos rfl, if_pos hl]; exact he
    · rw [if_neg hji, ← List.getD_eq_getElem?_getD]; exact hr j _ (fun h => hji h.symm) hj (h.2 j hj)
theorem EAll.at {R : Nat → Ent → Prop} {n : Nat} {es : List Ent} (h : EAll R n es) {i : Nat} (hi : i < n) {w : World} (hh : Held es w) : ∃ e, R i e ∧ Held [e] w := by
  obtain ⟨es1, e, es2, rfl, hr, _⟩ := h.split hi
  exact ⟨e, hr, hh.sub (List.singleton_sublist.2 (List.mem_append_right _ (.head _)))⟩
theorem EAll.to {R R' : Nat → Ent → Prop} {n : Nat} {es : List Ent} (h : EAll R n es) (hr : ∀ i e, i < n → R i e → R' i e) : EAll R' n es := ⟨h.1, fun i hi => hr i _ hi (h.2 i hi)⟩
theorem EAll.snoc {R : Nat → Ent → Prop} {n : Nat} {es : List Ent} (h : EAll R n es) {e : Ent} (he : R n e) : EAll R (n + 1) (es ++ [e]) := by
  refine ⟨by rw [List.length_append, h.1]; rfl, fun i hi => ?_⟩
  rw [List.getD_eq_getElem?_getD]
  by_cases hin : i < n
  · rw [List.getElem?_append_left (by rw [h.1]; exact hin), ← List.getD_eq_getElem?_getD]; exact h.2 i hin
  · obtain rfl : i = n := by omega
    rw [List.getElem?_append_right (by rw [h.1]; exact Nat.le_refl _), h.1, Nat.sub_self]; exact he
theorem EAll.app {R : Nat → Ent → Prop} {n m : Nat} {es fs : List Ent} (h : EAll R n es) (hf : EAll (fun i => R (n + i)) m fs) : EAll R (n + m) (es ++ fs) := by
  refine ⟨by rw [List.length_append, h.1, hf.1], fun i hi => ?_⟩
  rw [List.getD_eq_getElem?_getD]
  by_cases hin : i < n
  · rw [List.getElem?_append_left (by rw [h.1]; exact hin), ← List.getD_eq_getElem?_getD]; exact h.2 i hin
  · rw [List.getElem?_append_right (by rw [h.1]; omega), h.1, ← List.getD_eq_getElem?_getD]
    have := hf.2 (i - n) (by omega)
    dsimp only at this
    rwa [show n + (i - n) = i by omega] at this
theorem getD_snoc {α : Type} {l : List α} {x d : α} {i : Nat} (h : i < l.length) : (l ++ [x]).getD i d = l.getD i d := by
  rw [List.getD_eq_getElem?_getD, List.getElem?_append_left h, ← List.getD_eq_getElem?_getD]
theorem getD_last {α : Type} {l : List α} {x d : α} {n : Nat} (h : l.length = n) : (l ++ [x]).getD n d = x := by
  rw [List.getD_eq_getElem?_getD, List.getElem?_append_right (by omega), h, Nat.sub_self]; rfl

def ms (r i n : Nat) : List UInt8 := (List.range n).map (mk r i)
def mt (r i k n : Nat) : List UInt8 := (List.range n).map fun j => mk r i (k + j)
theorem ms_len (r i n : Nat) : (ms r i n).length = n := by rw [ms, List.length_map, List.length_range]
theorem mt_len (r i k n : Nat) : (mt r i k n).length = n := by rw [mt, List.length_map, List.length_range]
theorem ms_get {r i n j : Nat} (h : j < n) : (ms r i n).getD j default = mk r i j := by
  rw [List.getD_eq_getElem?_getD, ms, List.getElem?_map, List.getElem?_range h]; rfl
theorem mt_succ (r i k n : Nat) : mt r i k (n + 1) = mt r i k n ++ [mk r i (k + n)] := by rw [mt, mt, List.range_succ, List.map_append]; rfl
theorem ms_app (r i k : Nat) : ∀ n, ms r i (k + n) = ms r i k ++ mt r i k n
  | 0 => by rw [Nat.add_zero]; exact (List.append_nil _).symm
  | n + 1 => by rw [mt_succ, ← List.append_assoc, ← ms_app r i k n, ← Nat.add_assoc, ms, ms, List.range_succ, List.map_append]; rfl
theorem ms_of {r i n : Nat} {L : List UInt8} (hl : L.length = n) (h : ∀ j < n, L.getD j default = mk r i j) : L = ms r i n := by
  refine List.ext_getElem? fun j => ?_
  by_cases hj : j < n
  · have h1 := h j hj
    rw [List.getD_eq_getElem?_getD, List.getElem?_eq_getElem (by omega)] at h1
    rw [List.getElem?_eq_getElem (by omega), ms, List.getElem?_map, List.getElem?_range hj]
    exact congrArg some h1
  · rw [List.getElem?_eq_none (by omega), List.getElem?_eq_none (by rw [ms_len]; omega)]
theorem set_upto1 {L : List UInt8} {f : Nat → UInt8} {j : Nat} (h : ∀ q < j, L.getD q default = f q) (hj : j < L.length) : ∀ q < j + 1, (L.set j (f j)).getD q default = f q := fun q hq => by
  rw [List.getD_eq_getElem?_getD, List.getElem?_set]
  by_cases hjq : j = q
  · subst hjq; rw [if_pos rfl, if_pos hj]; rfl
  · rw [if_neg hjq, ← List.getD_eq_getElem?_getD]; exact h q (by omega)
def stp (k : Nat) : Nat := if k = 0 then 1 else if k = 1 then 24 else 90
def gn (s : Nat) : Nat := if s = 1 then 24 else s
theorem stp_b (k : Nat) : 1 ≤ stp k ∧ stp k ≤ 90 := by
  unfold stp
  by_cases h : k = 0
  · rw [if_pos h]; omega
  · rw [if_neg h]
    by_cases h : k = 1
    · rw [if_pos h]; omega
    · rw [if_neg h]; omega
theorem stp_get {k : Nat} (h : k < 3) : ([1, 24, 90] : List Int).getD k default = (stp k : Int) := by
  have : k = 0 ∨ k = 1 ∨ k = 2 := by omega
  rcases this with rfl | rfl | rfl <;> rfl
theorem gn_b {s : Nat} (h : 1 ≤ s ∧ s ≤ 90) : gn s ≤ 90 := by unfold gn; split <;> omega
theorem GrE.rdG {T : TypeId} {size k c j cg : Nat} {a ag : Option Addr} {xs ys : List Value} {er eg : Ent} (h : GrE T size a k c xs ys j ag cg er eg) {w : World} (h1 : Held [er] w) (h2 : Held [eg] w) : Rd w ag (xs ++ ys) := by
  rcases h with ⟨_, rfl, _, h⟩ | ⟨_, h⟩
  · exact h.held h1
  · exact h.held h2
theorem GrE.le {T : TypeId} {size k c j cg : Nat} {a ag : Option Addr} {xs ys : List Value} {er eg : Ent} (h : GrE T size a k c xs ys j ag cg er eg) : k + j ≤ cg := by
  rcases h with ⟨_, _, rfl, h⟩ | ⟨_, h⟩ <;> exact h.le
/-- The i-th list's length. -/
def nK (ks : List (Sl UInt8)) (i : Nat) : Nat := (ks.getD i default).xs.length
/-- The i-th list's slice over its entry, with these bytes. -/
def KRow (T : TypeId) (ks : List (Sl UInt8)) (i : Nat) (L : List UInt8) (e : Ent) : Prop :=
  RowE (.slice (ks.getD i default).a (nK ks i) (ks.getD i default).c) T 1 (nK ks i) (L.map vU8) e
def ARow (T : TypeId) (ks : List (Sl UInt8)) (r t : Nat) (i : Nat) (e : Ent) : Prop := ∃ L, L.length = nK ks i ∧ (i < t → L = ms r i (nK ks i)) ∧ KRow T ks i L e
def AGr (T : TypeId) (ks gs : List (Sl UInt8)) (fs : List Ent) (r m t : Nat) (i : Nat) (e : Ent) : Prop :=
  (i < t → (gs.getD i default).xs = ms r i (nK ks i + m) ∧ GrE T 1 (ks.getD i default).a (nK ks i) (ks.getD i default).c ((ms r i (nK ks i)).map vU8) ((mt r i (nK ks i) m).map vU8) m (gs.getD i default).a (gs.getD i default).c e (fs.getD i none)) ∧
  (t ≤ i → KRow T ks i (ms r i (nK ks i)) e)
theorem AGr.here {T : TypeId} {ks gs : List (Sl UInt8)} {fs : List Ent} {r m t : Nat} {s : Sl UInt8} {ag : Option Addr} {cg : Nat} {er eg : Ent} (hgl : gs.length = t) (hfl : fs.length = t) (hs : ks.getD t default = s)
    (h : GrE T 1 s.a s.xs.length s.c ((ms r t s.xs.length).map vU8) ((mt r t s.xs.length m).map vU8) m ag cg er eg) : AGr T ks (gs ++ [⟨ag, cg, ms r t (s.xs.length + m)⟩]) (fs ++ [eg]) r m (t + 1) t er := by
  refine ⟨fun _ => ?_, fun h => absurd h (by omega)⟩
  rw [getD_last hgl, getD_last hfl, nK, hs]
  exact ⟨rfl, h⟩
theorem AGr.other {T : TypeId} {ks gs : List (Sl UInt8)} {fs : List Ent} {r m t j : Nat} {g : Sl UInt8} {f x : Ent} (hgl : gs.length = t) (hfl : fs.length = t) (hj : j ≠ t) (h : AGr T ks gs fs r m t j x) : AGr T ks (gs ++ [g]) (fs ++ [f]) r m (t + 1) j x := by
  refine ⟨fun hl => ?_, fun hl => h.2 (by omega)⟩
  rw [getD_snoc (by omega), getD_snoc (by omega)]
  exact h.1 (by omega)
theorem AGr.rds {T : TypeId} {ks gs : List (Sl UInt8)} {es fs : List Ent} {r m n t : Nat} (h : EAll (AGr T ks gs fs r m n) n es) (hf : fs.length = n) (ht : t < n) {w : World} (h1 : Held es w) (h2 : Held fs w) :
    Rd w (ks.getD t default).a ((ms r t (nK ks t)).map vU8) ∧ Rd w (gs.getD t default).a ((ms r t (nK ks t + m)).map vU8) := by
  obtain ⟨e, hg, hh⟩ := h.at ht h1
  have hg := (hg.1 ht).2
  refine ⟨(hg.row (by rw [List.length_map, ms_len, Nat.mul_one])).held hh, ?_⟩
  rw [ms_app, List.map_append]
  refine hg.rdG hh (h2.sub (List.singleton_sublist.2 ?_))
  rw [List.getD_eq_getElem?_getD, List.getElem?_eq_getElem (by omega)]
  exact List.getElem_mem _
theorem AGr.les {T : TypeId} {ks gs : List (Sl UInt8)} {es fs : List Ent} {r m n t : Nat} (h : EAll (AGr T ks gs fs r m n) n es) (ht : t < n) : nK ks t ≤ (ks.getD t default).c ∧ nK ks t + m ≤ (gs.getD t default).c := by
  have hg := ((h.2 t ht).1 ht).2
  exact ⟨(hg.row (by rw [List.length_map, ms_len, Nat.mul_one])).le, hg.le⟩
theorem AGr.back {T : TypeId} {ks gs : List (Sl UInt8)} {es fs : List Ent} {r m n : Nat} (h : EAll (AGr T ks gs fs r m n) n es) : EAll (fun i e => KRow T ks i (ms r i (nK ks i)) e) n es :=
  h.to fun _ _ hi hx => (hx.1 hi).2.row (by rw [List.length_map, ms_len, Nat.mul_one])
theorem ARow.at {T : TypeId} {ks : List (Sl UInt8)} {r t i : Nat} {e : Ent} {s : Sl UInt8} (h : ARow T ks r t i e) (hs : ks.getD i default = s) : ∃ L : List UInt8, L.length = s.xs.length ∧ RowE (.slice s.a s.xs.length s.c) T 1 s.xs.length (L.map vU8) e := by
  obtain ⟨L, h1, _, h3⟩ := h
  rw [KRow, nK, hs] at h3
  rw [nK, hs] at h1
  exact ⟨L, h1, h3⟩
theorem ARow.set {T : TypeId} {ks : List (Sl UInt8)} {r i : Nat} {e : Ent} {s : Sl UInt8} {L : List UInt8} (hs : ks.getD i default = s) (hl : L.length = s.xs.length) (hv : ∀ q < s.xs.length, L.getD q default = mk r i q)
    (h : RowE (.slice s.a s.xs.length s.c) T 1 s.xs.length (L.map vU8) e) : ARow T ks r (i + 1) i e := by
  refine ⟨L, by rw [nK, hs]; exact hl, fun _ => by rw [nK, hs]; exact ms_of hl hv, ?_⟩
  rw [KRow, nK, hs]; exact h
theorem ARow.other {T : TypeId} {ks : List (Sl UInt8)} {r t j : Nat} {e : Ent} (hj : j ≠ t) (h : ARow T ks r t j e) : ARow T ks r (t + 1) j e := by
  obtain ⟨L, h1, h2, h3⟩ := h
  exact ⟨L, h1, fun h => h2 (by omega), h3⟩
theorem ARow.anew {T : TypeId} {ks : List (Sl UInt8)} {r t j r' : Nat} {e : Ent} (h : ARow T ks r t j e) : ARow T ks r' 0 j e := by
  obtain ⟨L, h1, _, h3⟩ := h
  exact ⟨L, h1, fun h => absurd h (Nat.not_lt_zero _), h3⟩
theorem ARow.all {T : TypeId} {ks : List (Sl UInt8)} {r n : Nat} {es : List Ent} (h : EAll (ARow T ks r n) n es) : EAll (fun i e => KRow T ks i (ms r i (nK ks i)) e) n es :=
  h.to fun i e hi ⟨L, _, h2, h3⟩ => by rw [h2 hi] at h3; exact h3
theorem KRow.some {T : TypeId} {ks : List (Sl UInt8)} {r i : Nat} {e : Ent} (h : KRow T ks i (ms r i (nK ks i)) e) : ARow T ks 0 0 i e := ⟨_, ms_len _ _ _, fun h => absurd h (Nat.not_lt_zero _), h⟩
theorem KRow.at {T : TypeId} {ks : List (Sl UInt8)} {r i : Nat} {e : Ent} {s : Sl UInt8} (h : KRow T ks i (ms r i (nK ks i)) e) (hs : ks.getD i default = s) : RowE (.slice s.a s.xs.length s.c) T 1 s.xs.length ((ms r i s.xs.length).map vU8) e := by
  rw [KRow, nK, hs] at h; exact h
section
variable {w0 w : World} {olds : List Nat}
theorem Mem.pullF {H A B T : List Ent} {e : Ent} (h : Mem w0 olds (H ++ ((A ++ e :: B) ++ T)) w) : Mem w0 olds (e :: (H ++ ((A ++ B) ++ T))) w := h.perm (by
  have e1 : H ++ ((A ++ e :: B) ++ T) = (H ++ A) ++ e :: (B ++ T) := by simp
  have e2 : e :: (H ++ ((A ++ B) ++ T)) = e :: ((H ++ A) ++ (B ++ T)) := by simp
  rw [e1, e2]; exact List.perm_middle.symm)
theorem Mem.backF {H A B T : List Ent} {e : Ent} (h : Mem w0 olds (e :: (H ++ ((A ++ B) ++ T))) w) : Mem w0 olds (H ++ ((A ++ e :: B) ++ T)) w := h.perm (by
  have e1 : H ++ ((A ++ e :: B) ++ T) = (H ++ A) ++ e :: (B ++ T) := by simp
  have e2 : e :: (H ++ ((A ++ B) ++ T)) = e :: ((H ++ A) ++ (B ++ T)) := by simp
  rw [e1, e2]; exact List.perm_middle)
theorem Mem.pull1 {H A B : List Ent} {e : Ent} (h : Mem w0 olds (H ++ (A ++ e :: B)) w) : Mem w0 olds (e :: (H ++ (A ++ B))) w := by
  have h1 := Mem.pullF (H := H) (A := A) (B := B) (T := []) (e := e) (w0 := w0) (olds := olds) (w := w) (by simpa using h)
  simpa using h1
theorem Mem.back1 {H A B : List Ent} {e : Ent} (h : Mem w0 olds (e :: (H ++ (A ++ B))) w) : Mem w0 olds (H ++ (A ++ e :: B)) w := by
  have h1 := Mem.backF (H := H) (A := A) (B := B) (T := []) (e := e) (w0 := w0) (olds := olds) (w := w) (by simpa using h)
  simpa using h1
theorem Mem.snocF {H A T : List Ent} {e : Ent} (h : Mem w0 olds (e :: (H ++ (A ++ T))) w) : Mem w0 olds (H ++ (A ++ (T ++ [e]))) w := h.perm (by
  have e1 : H ++ (A ++ (T ++ [e])) = (H ++ A ++ T) ++ e :: [] := by simp
  have e2 : e :: (H ++ (A ++ T)) = e :: ((H ++ A ++ T) ++ []) := by simp
  rw [e1, e2]; exact List.perm_middle)
end
/-- The call over lists with room behind them. -/
def cut40 (f : Sl UInt8) : Sl UInt8 := ⟨f.a, f.c, f.xs.take (f.xs.length - 40)⟩
theorem cut40_rm (a : Option Addr) (c : Nat) (p : List UInt8) : cut40 ⟨a, c, p ++ rm⟩ = ⟨a, c, p⟩ := by
  rw [cut40, List.length_append, rm_len, Nat.add_sub_cancel, List.take_left' rfl]
def qOf (o : Cop) (P : Sl UInt8) (pr : Sl (Sl UInt8 × Sl UInt8)) (kd : Sl (List UInt8)) : Cop := { o with P := P, pairs := pr, kids := kd }
theorem qOf_P (o : Cop) (P : Sl UInt8) : o.cells.set 2 P.v = (qOf o P o.pairs o.kids).cells := rfl
theorem qOf_pairs {o : Cop} (hl : o.L.length = 32) (hr : o.R.length = 32) (P : Sl UInt8) (pr : Sl (Sl UInt8 × Sl UInt8)) (kd : Sl (List UInt8)) : (qOf o P o.pairs kd).cells.set 67 pr.v = (qOf o P pr kd).cells := by
  simp only [Cop.cells, qOf, List.set_cons_succ]
  rw [List.set_append_right _ _ (by rw [List.length_map, hl]; decide), List.length_map, hl, List.set_append_right _ _ (by rw [List.length_map, hr]; decide), List.length_map, hr]; rfl
theorem qOf_kids {o : Cop} (hl : o.L.length = 32) (hr : o.R.length = 32) (P : Sl UInt8) (pr : Sl (Sl UInt8 × Sl UInt8)) (kd : Sl (List UInt8)) : (qOf o P pr o.kids).cells.set 69 kd.v = (qOf o P pr kd).cells := by
  simp only [Cop.cells, qOf, List.set_cons_succ]
  rw [List.set_append_right _ _ (by rw [List.length_map, hl]; decide), List.length_map, hl, List.set_append_right _ _ (by rw [List.length_map, hr]; decide), List.length_map, hr]; rfl
def FRow (T : TypeId) (Fs : List (Sl UInt8)) (i : Nat) (e : Ent) : Prop := KRow T Fs i (Fs.getD i default).xs e
theorem FRow.snoc {T : TypeId} {Fs : List (Sl UInt8)} {es : List Ent} {s : Sl UInt8} {e : Ent} (h : EAll (FRow T Fs) Fs.length es) (hr : RowE (.slice s.a s.xs.length s.c) T 1 s.xs.length (s.xs.map vU8) e) : EAll (FRow T (Fs ++ [s])) (Fs ++ [s]).length (es ++ [e]) := by
  have h1 : EAll (FRow T (Fs ++ [s])) Fs.length es := h.to fun i e hi hx => by
    rw [FRow, KRow, nK, getD_snoc hi]; exact hx
  rw [List.length_append]
  refine h1.snoc ?_
  rw [FRow, KRow, nK, getD_last rfl]; exact hr
def SpI (T : TypeId) (o : Cop) (i : Nat) (Fs : List (Sl UInt8)) (es : List Ent) (P : Sl UInt8) (ps : List (Sl UInt8 × Sl UInt8)) : Prop :=
  ps.length = i ∧ P.xs = o.P.xs ∧ (P :: ps.flatMap fun x => [x.1, x.2]) = Fs.map cut40 ∧ Fs.map (·.xs) = (o.P :: (o.pairs.xs.take i).flatMap fun x => [x.1, x.2]).map (fun s => s.xs ++ rm) ∧ EAll (FRow T Fs) Fs.length es ∧ prs ps = prs (o.pairs.xs.take i)
theorem SpI.len {T : TypeId} {o : Cop} {i : Nat} {Fs : List (Sl UInt8)} {es : List Ent} {P : Sl UInt8} {ps : List (Sl UInt8 × Sl UInt8)} (h : SpI T o i Fs es P ps) : Fs.length = 1 + 2 * i := by
  have h1 := congrArg List.length h.2.2.1
  have h2 : ∀ l : List (Sl UInt8 × Sl UInt8), (l.flatMap fun x => [x.1, x.2]).length = 2 * l.length := fun l => by
    induction l with
    | nil => rfl
    | cons x r ih => rw [List.flatMap_cons, List.length_append, ih]; simp only [List.length_cons, List.length_nil]; omega
  rw [List.length_cons, h2, List.length_map, h.1] at h1; omega
theorem SpI.start {T : TypeId} {o : Cop} {a : Option Addr} {c : Nat} {e : Ent} (h : RowE (.slice a (o.P.xs.length + 40) c) T 1 (o.P.xs.length + 40) ((o.P.xs ++ rm).map vU8) e) : SpI T o 0 [⟨a, c, o.P.xs ++ rm⟩] [e] ⟨a, c, o.P.xs⟩ [] := by
  refine ⟨rfl, rfl, ?_, rfl, ⟨rfl, fun i hi => ?_⟩, rfl⟩
  · rw [List.map_cons, cut40_rm]; rfl
  · obtain rfl : i = 0 := by simp at hi; omega
    have e1 : nK [(⟨a, c, o.P.xs ++ rm⟩ : Sl UInt8)] 0 = o.P.xs.length + 40 := by show (o.P.xs ++ rm).length = _; rw [List.length_append, rm_len]
    rw [FRow, KRow, e1]; exact h
theorem SpI.step {T : TypeId} {o : Cop} {i : Nat} {Fs : List (Sl UInt8)} {es : List Ent} {P : Sl UInt8} {ps : List (Sl UInt8 × Sl UInt8)} (h : SpI T o i Fs es P ps) (hi : i < o.pairs.xs.length) {k v : Sl UInt8} (hx : o.pairs.xs.getD i default = (k, v)) {a1 a2 : Option Addr} {c1 c2 : Nat} {e1 e2 : Ent}
    (h1 : RowE (.slice a1 (k.xs.length + 40) c1) T 1 (k.xs.length + 40) ((k.xs ++ rm).map vU8) e1) (h2 : RowE (.slice a2 (v.xs.length + 40) c2) T 1 (v.xs.length + 40) ((v.xs ++ rm).map vU8) e2) :
    SpI T o (i + 1) (Fs ++ [⟨a1, c1, k.xs ++ rm⟩] ++ [⟨a2, c2, v.xs ++ rm⟩]) (es ++ [e1, e2]) P (ps ++ [(⟨a1, c1, k.xs⟩, ⟨a2, c2, v.xs⟩)]) := by
  refine ⟨by rw [List.length_append, h.1]; rfl, h.2.1, ?_, ?_, ?_, ?_⟩
  · rw [List.flatMap_append, ← List.cons_append, h.2.2.1, List.map_append, List.map_append, List.map_cons, cut40_rm, List.map_cons, cut40_rm, List.append_assoc]; rfl
  · rw [List.map_append, List.map_append, h.2.2.2.1, take_getD (l := o.pairs.xs) hi, hx, List.flatMap_append, ← List.cons_append, List.map_append, List.append_assoc]; rfl
  · have e3 : es ++ [e1, e2] = (es ++ [e1]) ++ [e2] := by rw [List.append_assoc]; rfl
    rw [e3]
    refine FRow.snoc (FRow.snoc h.2.2.2.2.1 ?_) ?_
    · dsimp only; rw [List.length_append, rm_len]; exact h1
    · dsimp only; rw [List.length_append, rm_len]; exact h2
  · rw [take_getD (l := o.pairs.xs) hi, hx, prs, List.map_append, prs, List.map_append]
    have h9 := h.2.2.2.2.2
    rw [prs, prs] at h9; rw [h9]; rfl
section
variable {P : Program} {n : Nat} {F : Fr}
/-- What is known told anew. -/
theorem lt_mem {l : List Oper} {S : World → Prop} {late : List Nat} {listed : Array Bool} {M M' : World → Prop} {Q : Po} {r : Tr} (hM : ∀ w, M w → M' w) (h : LT P n l S late r listed F M' Q) : LT P n l S late r listed F M Q := fun a w hf hm => h a w hf (hM w hm)
theorem lt_call_frame {l : List Oper} {S : World → Prop} {late : List Nat} {listed : Array Bool} {Q : Po} {r : Tr} {i t : Nat} {op : Op} {ty : TypeId} {ps : String} {af : Array Edge} {g : Option (Nat × Bool)} {w0 : World} {olds : List Nat} {σ : Type} {f : FuncId} {args : Array Value} (V : σ → Value) (L : σ → List Ent) (I : σ → Prop) (l1 l2 : List Ent)
    (ho : nth l i = some ⟨some t, op, ty, ps, af, g⟩) (hg : WG l F g) (hv : CallsTo P n F (Mem w0 olds (l1 ++ l2)) op ty f args) (ht : Nat.blt t n = true)
    (hc : ∀ w, Mem w0 olds (l1 ++ l2) w → Mem w (keys l1) l1 w → Calls P f args w fun en w' => ∃ u, en = .returned u ∧ ∃ s, u = V s ∧ I s ∧ Mem w (keys l1) (L s) w')
    (hS : clean late (listed.setIfInBounds i true) = true → ∀ s w, Mem w0 olds (L s ++ l2) w → S w)
    (h : ∀ s, I s → LT P n l S late r (listed.setIfInBounds i true) ((t, V s) :: F) (Mem w0 olds (L s ++ l2)) Q) : LT P n l S late (.one i 2 r) listed F (Mem w0 olds (l1 ++ l2)) Q :=
  lt_call (fun _ u w' => ∃ s, u = V s ∧ I s ∧ Mem w0 olds (L s ++ l2) w') ho hg hv ht
    (fun w hm => (hc w hm hm.startL).mono fun _ _ ⟨u, he, s, hu, hi, hm'⟩ => ⟨u, he, s, hu, hi, hm.frame hm'⟩)
    (fun hc w u w' _ hr => by obtain ⟨s, _, _, hm⟩ := hr; exact hS hc s w' hm)
    (fun _ u _ a w' hf ⟨s, hu, hi, hm'⟩ => by subst hu; exact h s hi a w' hf hm')
theorem Mem.argFree {w0 w : World} {l1 l2 : List Ent} {a : Option Addr} {xs : List Value} (hm : Mem w0 [] (l1 ++ l2) w) (hr : Rd w0 a xs) : 0 < xs.length → ∀ b o, a = some ⟨b, o, none⟩ → b ∉ keys l1 := fun h b o e hb => by
  have h1 := hr.lt e h
  rcases hm.fresh b (by rw [keys_app]; exact List.mem_append_left _ hb) with h2 | h2
  · omega
  · cases h2
theorem two2p {H es : List Ent} {p q : Ent} : (H ++ (es ++ [p, q])).Perm (q :: p :: (H ++ es)) := by
  have e1 : H ++ (es ++ [p, q]) = (H ++ es) ++ p :: q :: [] := by simp
  rw [e1]
  refine List.Perm.trans List.perm_middle ?_
  refine List.Perm.trans ((List.perm_middle (l₂ := [])).cons p) ?_
  rw [List.append_nil]; exact .swap _ _ _
theorem Mem.two3 {w0 w : World} {olds : List Nat} {H es : List Ent} {x y p q : Ent} (h : Mem w0 olds (x :: y :: q :: p :: (H ++ es)) w) : Mem w0 olds (x :: y :: (H ++ (es ++ [p, q]))) w := h.perm ((two2p.cons y).cons x)
theorem Mem.initSp {w0 w : World} {olds : List Nat} {x y e p q : Ent} (h : Mem w0 olds [x, y, e, p, q] w) : Mem w0 olds [x, y, none, p, q, e] w :=
  h.place.perm (((List.perm_middle (l₁ := [x, y]) (a := none) (l₂ := [p, q, e]))).trans ((((List.perm_append_comm (l₁ := [p, q]) (l₂ := [e])).cons y).cons x).cons none))
theorem ow_mem {ops : Array Oper} {l : List Oper} {M M' : World → Prop} {Q : Po} (hM : ∀ w, M w → M' w) (h : OW P n ops l F M' Q) : OW P n ops l F M Q := fun s w hf hm => h s w hf (hM w hm)
end
end Go.Sx
