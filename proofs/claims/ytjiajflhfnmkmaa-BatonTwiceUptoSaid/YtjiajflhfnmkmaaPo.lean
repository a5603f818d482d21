/- A PLAY OF THE BATON: what the row rests on. -/
import Derived.Test.YtjiajflhfnmkmaaPn
import Derived.Test.YtjiajflhfnmkmaaPk
import Derived.Deep.Slices
set_option linter.unusedVariables false
set_option linter.unusedSimpArgs false
set_option linter.unusedSectionVars false
section
namespace Go.Sx
variable [Gnd]
open Go.ChangeShapes Go.WideShapes Go.ChangeAt Go.RowKit
/-- A slice that is read: its place, its room, its elements. -/
structure Sl (α : Type) where
  a : Option Addr
  c : Nat
  xs : List α
instance {α : Type} : Inhabited (Sl α) := ⟨⟨none, 0, []⟩⟩
def Sl.v {α : Type} (s : Sl α) : Value := .slice s.a s.xs.length s.c
def Sl.nil {α : Type} : Sl α := ⟨none, 0, []⟩
/-- What holds of it in a world. -/
structure Sl.ok {α : Type} (cl : α → List Value) (bsz : Nat) (kk : World → α → Prop) (w : World) (s : Sl α) : Prop where
  rd : Rd w s.a (s.xs.flatMap cl)
  le : s.xs.length ≤ s.c
  max : s.c ≤ maxLen
  bytes : s.c * bsz ≤ 140737488351232
  each : ∀ x ∈ s.xs, kk w x
def Sl.sz {α : Type} (sz : α → Nat) (s : Sl α) : Nat := s.c + (s.xs.map sz).sum
/-- How a bulk counts. -/
structure Bulk {H : Type} (B : DataW H → Nat) : Prop where
  pos : ∀ d, 0 < B d
  slice : ∀ el sp, B (.slice el sp) = (el.map B).sum + (sp.map B).sum + 1
  agg : ∀ ps, B (.agg ps) = (ps.map B).sum + 1
  str : ∀ bs, B (.lit (.string bs)) = bs.length + 1
section
variable {H : Type} (enc : TypeId × Value → H) (P : Program) (B : DataW H → Nat)
/-- Cells that read as a datum of the type are those of some x. -/
def Opener {α : Type} (t : TypeId) (cells : α → List Value) (ok : World → α → Prop) (sz : α → Nat) : Prop :=
  ∀ ⦃W : World⦄ ⦃fuel : Nat⦄ ⦃cs : List Value⦄ ⦃d : DataW H⦄ ⦃ps : List MemPlace⦄, DataW.trod enc P W 0 (fun _ => true) true fuel t cs = some (d, ps) →
    (∀ n ∈ d.weights P t, n ≤ reachBytes) → ∃ x, cs = cells x ∧ ok W x ∧ sz x < B d
def noOk {α : Type} : World → α → Prop := fun _ _ => True
def noSz {α : Type} : α → Nat := fun _ => 0
variable {enc P B}
/-- An int within its bounds. -/
def okInt : World → Int → Prop := fun _ z => -9223372036854775808 ≤ z ∧ z ≤ 9223372036854775807
theorem opener_int (hB : Bulk B) {t : TypeId} (ht : P.underlying t = some (.int .i64)) : Opener enc P B t (fun x => [vInt x]) okInt noSz := by
  intro W fuel cs d ps h _
  obtain ⟨n, rfl, hx, hw⟩ := DataW.trod_int ht h
  exact ⟨n, rfl, dec_int n hw, hB.pos _⟩
theorem opener_bool (hB : Bulk B) {t : TypeId} (ht : P.underlying t = some .bool) : Opener enc P B t (fun x => [.bool x]) noOk noSz := by
  intro W fuel cs d ps h _
  obtain ⟨n, rfl, hx⟩ := DataW.trod_bool ht h
  exact ⟨n, rfl, trivial, hB.pos _⟩
theorem mem_weightsAll {e : TypeId} {l : List (DataW H)} {d : DataW H} (h : d ∈ l) {n : Nat} (hn : n ∈ d.weights P e) : n ∈ DataW.weightsAll P e l := by
  induction l with
  | nil => cases h
  | cons x r ih =>
    simp only [DataW.weightsAll, List.mem_append]
    cases List.mem_cons.1 h with
    | inl e => subst e; exact .inl hn
    | inr e => exact .inr (ih e)
theorem choose_list {α : Type} {p : Nat → α → Prop} : ∀ n : Nat, (∀ i, i < n → ∃ x, p i x) → ∃ l : List α, l.length = n ∧ ∀ i x, l[i]? = some x → p i x
  | 0, _ => ⟨[], rfl, fun i x h => by simp at h⟩
  | n + 1, h => by
    obtain ⟨l, hl, hp⟩ := choose_list n (fun i hi => h i (by omega))
    obtain ⟨y, hy⟩ := h n (by omega)
    refine ⟨l ++ [y], by simp [hl], fun i x hx => ?_⟩
    rcases Nat.lt_or_ge i l.length with hi | hi
    · rw [List.getElem?_append_left hi] at hx; exact hp i x hx
    · rw [List.getElem?_append_right hi] at hx
      have h1 : i - l.length = 0 := by have := (List.getElem?_eq_some_iff.1 hx).1; simpa using this
      rw [h1] at hx
      simp at hx
      subst hx
      have : i = n := by omega
      subst this
      exact hy
/-- Fields one behind the other: their types and places. -/
def Fields (enc : TypeId × Value → H) (P : Program) (B : DataW H → Nat) {α : Type} (fs : List (TypeId × Nat)) (k : Nat) (cells : α → List Value) (ok : World → α → Prop) (sz : α → Nat) : Prop :=
  ∀ ⦃W : World⦄ ⦃fuel : Nat⦄ ⦃cs : List Value⦄ ⦃xs : List (DataW H × List MemPlace)⦄, xs.length = fs.length →
    (∀ (i : Nat) (t : TypeId) (o : Nat), fs[i]? = some (t, o) → DataW.trod enc P W 0 (fun _ => true) true fuel t ((cs.drop o).take (P.cellsOf t)) = xs[i]?) →
    (∀ n ∈ DataW.weightsEach P (fs.map (·.1)) (xs.map (·.1)), n ≤ reachBytes) → ∃ x, cs.drop k = cells x ++ cs.drop (k + (fs.map fun f => P.cellsOf f.1).sum) ∧ ok W x ∧ sz x ≤ ((xs.map (·.1)).map B).sum
theorem fields_nil {k : Nat} : Fields enc P B [] k (fun (_ : Unit) => []) noOk noSz := by
  intro W fuel cs xs hl _ _
  exact ⟨(), by simp, trivial, Nat.zero_le _⟩
theorem fields_cons {α β : Type} {fs : List (TypeId × Nat)} {k n : Nat} {t : TypeId} {c1 : α → List Value} {o1 : World → α → Prop} {s1 : α → Nat} {c2 : β → List Value} {o2 : World → β → Prop} {s2 : β → Nat}
    (hn : P.cellsOf t = n) (h1 : Opener enc P B t c1 o1 s1) (h2 : Fields enc P B fs (k + n) c2 o2 s2) :
    Fields enc P B ((t, k) :: fs) k (fun (x : α × β) => c1 x.1 ++ c2 x.2) (fun w x => o1 w x.1 ∧ o2 w x.2) (fun x => s1 x.1 + s2 x.2) := by
  intro W fuel cs xs hl hx hw
  cases xs with
  | nil => simp at hl
  | cons y ys =>
    obtain ⟨d, ps⟩ := y
    have hy := hx 0 t k rfl
    rw [hn] at hy
    obtain ⟨x, hcx, hox, hsx⟩ := h1 hy (fun q hq => hw q (by simp only [List.map_cons, DataW.weightsEach, List.mem_append]; exact .inl hq))
    obtain ⟨z, hcz, hoz, hsz⟩ := @h2 W fuel cs ys (by simpa using hl) (fun i u o hg => by simpa using hx (i + 1) u o (by simpa using hg))
      (fun q hq => hw q (by simp only [List.map_cons, DataW.weightsEach, List.mem_append]; exact .inr hq))
    refine ⟨(x, z), ?_, ⟨hox, hoz⟩, by simp only [List.map_cons, List.sum_cons]; omega⟩
    have h3 : cs.drop k = (cs.drop k).take n ++ cs.drop (k + n) := by rw [← List.drop_drop, List.take_append_drop]
    rw [h3, hcx, hcz]
    simp only [List.map_cons, List.sum_cons, hn, List.append_assoc, Nat.add_assoc]
theorem opener_struct {α : Type} {t : TypeId} {fs : Array Field} {L : List (TypeId × Nat)} {cells : α → List Value} {ok : World → α → Prop} {sz : α → Nat} (hB : Bulk B) (ht : P.underlying t = some (.struct fs)) (hfs : fs.toList.map (fun f => (f.type, f.offset)) = L) (hct : P.cellsOf t = (L.map fun f => P.cellsOf f.1).sum)
    (h : Fields enc P B L 0 cells ok sz) : Opener enc P B t cells ok sz := by
  intro W fuel cs d ps h1 hw
  obtain ⟨xs, m, rfl, hx, hl, hxl, hel⟩ := DataW.trod_struct ht h1
  have hd : d = .agg (xs.map (·.1)) := congrArg Prod.fst hx
  subst hd
  subst hfs
  have hmm : (fs.toList.map (fun f => (f.type, f.offset))).map (·.1) = fs.toList.map (·.type) := by rw [List.map_map]; rfl
  obtain ⟨x, hc, ho, hs⟩ := @h W m cs xs (by simpa using hxl) (fun i u o hf => by
    rw [List.getElem?_map, Option.map_eq_some_iff] at hf
    obtain ⟨f, hf, he⟩ := hf
    simp only [Prod.mk.injEq] at he
    obtain ⟨rfl, rfl⟩ := he
    exact hel i f (by simpa using hf)) (fun q hq => hw q (by rw [hmm] at hq; simp only [DataW.weights, ht]; exact hq))
  refine ⟨x, ?_, ho, by rw [hB.agg]; omega⟩
  rw [← hct, Nat.zero_add, List.drop_zero, ← hl, List.drop_length, List.append_nil] at hc
  exact hc
theorem sum_le_bulk {α : Type} {sz : α → Nat} : ∀ (l : List α) (D : Nat → DataW H), (∀ i x, l[i]? = some x → sz x < B (D i)) → l.length + (l.map sz).sum ≤ (((List.range l.length).map D).map B).sum
  | [], _, _ => by simp
  | x :: r, D, h => by
    have ih := sum_le_bulk r (fun i => D (i + 1)) (fun i y hy => h (i + 1) y (by simpa using hy))
    have h1 := h 0 x rfl
    have h2 : ((List.range (r.length + 1)).map D) = D 0 :: (List.range r.length).map (fun i => D (i + 1)) := by
      rw [List.range_succ_eq_map, List.map_cons, List.map_map]; rfl
    simp only [List.length_cons, List.map_cons, List.sum_cons, h2] at *
    omega
theorem len_le_bulk (hB : Bulk B) : ∀ l : List (DataW H), l.length ≤ (l.map B).sum
  | [] => by simp
  | d :: r => by have := len_le_bulk hB r; have := hB.pos d; simp only [List.length_cons, List.map_cons, List.sum_cons]; omega
theorem flatMap_get {α : Type} {cells : α → List Value} {n : Nat} : ∀ (l : List α), (∀ x ∈ l, (cells x).length = n) → ∀ (j : Nat) (v : Value), (l.flatMap cells)[j]? = some v → ∃ i k, ∃ x, j = i * n + k ∧ k < n ∧ l[i]? = some x ∧ (cells x)[k]? = some v
  | [], _, j, v, h => by simp at h
  | x :: r, hl, j, v, h => by
    have hx := hl x (by simp)
    rw [List.flatMap_cons] at h
    rcases Nat.lt_or_ge j n with hj | hj
    · rw [List.getElem?_append_left (by omega)] at h
      exact ⟨0, j, x, by simp, hj, by simp, h⟩
    · rw [List.getElem?_append_right (by omega), hx] at h
      obtain ⟨i, k, y, hjk, hk, hy, hv⟩ := flatMap_get r (fun y hy => hl y (by simp [hy])) (j - n) v h
      exact ⟨i + 1, k, y, by rw [Nat.add_mul]; omega, hk, by simpa using hy, hv⟩
theorem spot_none {w : World} {a : Addr} {v : Value} (h : w.cell? a = some v) : a.spot = none := by
  cases hs : a.spot with
  | none => rfl
  | some s =>
    exfalso
    unfold World.cell? at h
    rw [hs] at h
    split at h <;> simp at h
theorem opener_slice {α : Type} {n b : Nat} {t e : TypeId} {cells : α → List Value} {ok : World → α → Prop} {sz : α → Nat} (hB : Bulk B) (ht : P.underlying t = some (.slice e)) (hc : P.cellsOf e = n) (hb : P.bytesOf e = b) (hn : 0 < n)
    (ho : Opener enc P B e cells ok sz) : Opener enc P B t (fun s : Sl α => [s.v]) (Sl.ok cells b ok) (Sl.sz sz) := by
  intro W fuel cs d ps h hw
  rcases Deep.open_slice ht h with ⟨rfl, hx⟩ | ⟨a, len, cap, m, k, D, Pl, rfl, _, hl, hm, hmm, hx, hel⟩
  · have hd : d = .nil := congrArg Prod.fst hx
    subst hd
    exact ⟨Sl.nil, rfl, ⟨Rd.nil _ _, Nat.le_refl _, Nat.zero_le _, by simp [Sl.nil], fun x hx => by cases hx⟩, by simp [Sl.sz, Sl.nil, hB.pos]⟩
  · simp only [if_true] at hmm
    subst hmm
    have hd : d = .slice ((List.range len).map D) ((List.range (m - len)).map fun j => D (len + j)) := congrArg Prod.fst hx
    subst hd
    simp only [DataW.weights, ht, List.length_map, List.length_range, hb, List.mem_cons, List.mem_append] at hw
    rw [hc] at hel
    have hall : ∀ i, i < len → ∃ x, W.cells? 0 (a.add (i * n)) n = some (cells x) ∧ ok W x ∧ sz x < B (D i) := by
      intro i hi
      obtain ⟨cs', h1, h2⟩ := hel i (by omega)
      obtain ⟨x, rfl, hox, hs⟩ := ho h2 (fun q hq => hw q (.inr (.inl (mem_weightsAll (d := D i) (List.mem_map_of_mem (by simpa using hi)) hq))))
      exact ⟨x, h1, hox, hs⟩
    obtain ⟨l, hll, hf⟩ := choose_list (α := α) (p := fun i x => W.cells? 0 (a.add (i * n)) n = some (cells x) ∧ ok W x ∧ sz x < B (D i)) len hall
    subst hll
    refine ⟨⟨some a, m, l⟩, by simp [Sl.v], ⟨?_, hl, hm, ?_, ?_⟩, ?_⟩
    · intro j v hj
      obtain ⟨i, q, x, rfl, hq, hx, hv⟩ := flatMap_get (n := n) _ (fun x hx => by
        obtain ⟨i, hi⟩ := List.mem_iff_getElem?.1 hx
        exact (World.cells?_some (hf i _ hi).1).2.1) j v hj
      have h1 := (World.cells?_some (hf i _ hx).1).2.2 q hq
      rw [hv] at h1
      have hil : 0 < l.length := by have h9 : i < l.length := (List.getElem?_eq_some_iff.1 hx).1; omega
      have h0 := (World.cells?_some (hf 0 l[0] (by simp)).1).2
      have h00 := h0.2 0 hn
      rw [List.getElem?_eq_getElem (by omega), Nat.zero_mul] at h00
      have hadd : ∀ a : Addr, a.add 0 = a := fun a => by unfold Addr.add; simp
      rw [hadd, hadd] at h00
      have hspot := spot_none h00
      obtain ⟨b', o, s⟩ := a
      have hs : s = none := hspot
      subst hs
      rw [add_none, add_none] at h1
      exact ⟨b', o, rfl, by rw [Nat.add_assoc] at h1; exact h1⟩
    · have h1 := hw ((l.length + (m - l.length)) * b) (.inl rfl)
      have h2 : l.length + (m - l.length) = m := by omega
      rw [h2] at h1
      exact Nat.le_trans h1 (by decide)
    · intro x hx
      obtain ⟨i, hi⟩ := List.mem_iff_getElem?.1 hx
      exact (hf i _ hi).2.1
    · rw [hB.slice]
      have h1 := sum_le_bulk (sz := sz) l D (fun i x hi => (hf i x hi).2.2)
      have h2 := len_le_bulk hB ((List.range (m - l.length)).map fun j => D (l.length + j))
      simp only [List.length_map, List.length_range] at h2
      simp only [Sl.sz]
      omega
end
end Go.Sx
end
section
namespace Go.Sx
variable [Gnd]
end Go.Sx
end
section
namespace Go.Sx
variable [Gnd]
end Go.Sx
end
section
namespace Go.Sx
variable [Gnd]
theorem flatMap_part {α : Type} {cells : α → List Value} {n : Nat} : ∀ (l : List α), (∀ x ∈ l, (cells x).length = n) → ∀ (i : Nat) (x : α), l[i]? = some x → ((l.flatMap cells).drop (i * n)).take n = cells x
  | [], _, i, x, h => by simp at h
  | y :: r, hl, 0, x, h => by
    have hy := hl y (by simp)
    simp at h; subst h
    rw [List.flatMap_cons, Nat.zero_mul, List.drop_zero, List.take_append_of_le_length (by omega), List.take_of_length_le (by omega)]
  | y :: r, hl, i + 1, x, h => by
    have hy := hl y (by simp)
    rw [List.flatMap_cons, Nat.succ_mul, Nat.add_comm, ← List.drop_drop, List.drop_left' hy]
    exact flatMap_part r (fun z hz => hl z (by simp [hz])) i x (by simpa using h)
theorem flatMap_one {α : Type} (V : α → Value) (l : List α) : (l.flatMap fun x => [V x]) = l.map V := by
  induction l with
  | nil => rfl
  | cons x r ih => rw [List.flatMap_cons, ih]; rfl
/-- The cells of the element i of a list of structures. -/
theorem Rd.part {α : Type} {cells : α → List Value} {n : Nat} {w : World} {b o : Nat} {l : List α} (h : Rd w (some ⟨b, o, none⟩) (l.flatMap cells)) (hl : ∀ x ∈ l, (cells x).length = n) {i : Nat} {x : α} (hi : l[i]? = some x) :
    Rd w (some ⟨b, o + i * n, none⟩) (cells x) :=
  h.sub (i * n) (by rw [hl x (List.mem_of_getElem? hi)]; exact flatMap_part l hl i x hi)
theorem Rd.all {w : World} {b o : Nat} {cs : List Value} (h : Rd w (some ⟨b, o, none⟩) cs) : ∀ j v, cs[j]? = some v → w.cell? ⟨b, o + j, none⟩ = some v := fun _ _ hj => h.cell hj
section
variable {P : Program} [C : Co P] {n : Nat} {F : Fr} {S : World → Prop} {ty : TypeId}
omit C in
/-- An element of a list of structures, loaded whole. -/
theorem val_load_elem {α : Type} [Inhabited α] {T : TypeId} {x : Operand} {b o e m i : Nat} {cells : α → List Value} {l : List α} (hx : ev F x = some (.pointer (some ⟨b, e, none⟩))) (hA : ∀ w, (isAgg T).run P w = .ok true w) (hS : ∀ w, (sizeOf T).run P w = .ok m w)
    (hl : ∀ x ∈ l, (cells x).length = m) (hi : i < l.length) (he : o + i * m = e) (hrd : ∀ w, S w → Rd w (some ⟨b, o, none⟩) (l.flatMap cells)) : Val P n F S (.load T x) ty (.agg (cells (l.getD i default)).toArray) := by
  subst he
  have h1 : l[i]? = some (l.getD i default) := by simp [List.getD_eq_getElem?_getD, hi]
  exact val_load_agg hx hA hS (hl _ (List.mem_of_getElem? h1)) (fun w hw j v hj => ((hrd w hw).part hl h1).cell hj)
end
end Go.Sx
end
section
namespace Go.Sx
variable [Gnd]
open Go.Conc
section
variable {P : Program} {X : Type} {R : X → Co P} {n : Nat} {b : Frame} {cs : List Frame} {x : X} {k : List Item} {F : Fr} {M : World → Prop}
/-- The operation panics, with whatever value. -/
def PanicsE (P : Program) (n : Nat) (F : Fr) (S : World → Prop) (op : Op) (ty : TypeId) : Prop :=
  ∀ a w, Fits n F a → S w → ∀ d ps af g, ∃ e w', (execOp a.eval ⟨d, op, ty, ps, af, g⟩).run P w = .halt (.panic e) w' ∧ RV w w'
theorem pt_panicE {ops : Array Oper} {i : Nat} {t : Option Nat} {op : Op} {ty : TypeId} {ps : String} {af : Array Edge} {rest : List Nat} [hS : Stb M] (hb : b.kind ≠ .early) (ho : ops[i]? = some ⟨t, op, ty, ps, af, none⟩)
    (hv : PanicsE P n F M op ty) (h : ∀ e a w, Fits n F a → Lf M w → ReI R x (G { b.at a (.inRegion ops (i :: rest) :: k) with mode := .panicking [{ v := e, recovered := false }] } cs) w) (hT : Tame P n F op ty := by infer_instance) : Pt R n b cs x (.inRegion ops (i :: rest) :: k) F M := by
  intro a w hf hm
  have hwant : Region.wanted ⟨t, op, ty, ps, af, none⟩ (yielded ops a.tmps) = true := by simp [Region.wanted]
  refine (R x).step rfl fun w₁ h₁ => ?_
  have hm₁ := (hm.rely h₁).here
  obtain ⟨e, w', hr, hrv⟩ := hv a (pz w₁) hf hm₁ t ps af none
  obtain ⟨w₂, es, h2, h3, h4⟩ := pl_panic (hT.tame a hf t ps af none) hr
  exact ⟨_, _, _, stepG_runT (main := (R x).main) (b := b) (k := k) (cs := cs) (rest := rest) ho hwant hb h2, (R x).good h4.seen, h e a w₂ hf ⟨_, hS.stb hm₁ hrv, h3 ▸ RV.refl _⟩⟩
theorem run_bounds (P : Program) (k : IntKind) (x y : Int) (c : BoundsCode) (w : World) : ∃ e w', (boundsPanic k x y c : Sem Value).run P w = .halt (.panic e) w' ∧ RV w w' := by
  unfold boundsPanic
  dsimp only
  split
  · by_cases hq : (Question.extern "runtime.boundsError.signed" 2).forced = true
    · simp [Question.forced] at hq
    · have e1 : (choose (.extern "runtime.boundsError.signed" 2)).run P w = .ok ((Question.extern "runtime.boundsError.signed" 2).cut (w.tape w.drawn (.extern "runtime.boundsError.signed" 2))) { w with drawn := w.drawn + 1 } := by
        show (if (Question.extern "runtime.boundsError.signed" 2).forced then _ else _) = _
        rw [if_neg hq]; rfl
      refine ⟨.iface P.rt.boundsError (.agg #[.int .i64 (IntKind.i64.wrap x), .int .i64 y, .bool ((Question.extern "runtime.boundsError.signed" 2).cut (w.tape w.drawn (.extern "runtime.boundsError.signed" 2)) == 1), .int .u8 c.toNat]), { w with drawn := w.drawn + 1 }, ?_, ⟨rfl, rfl, rfl, fun _ _ h => h⟩⟩
      simp [e1, runtimePanic, goPanic]
      exact fun h => absurd h hq
  · exact ⟨_, w, rfl, RV.refl _⟩
theorem panics_index {T E : TypeId} {y z : Operand} {a : Option Addr} {len cap m : Nat} {ty : TypeId} (hx : ev F y = some (.slice a len cap)) (hy : ev F z = some (vInt len)) (hT : P.underlying T = some (.slice E)) (hS : ∀ w, (sizeOf E).run P w = .ok m w) :
    PanicsE P n F M (.indexAddr T y z) ty := fun s w hf _ d ps af g => by
  obtain ⟨e, w', h1, h2⟩ := run_bounds P .i64 len len .index w
  obtain ⟨e0, w0, h10, h20⟩ := run_bounds P .i64 len 0 .index w
  cases a with
  | some a =>
    refine ⟨e, w', ?_, h2⟩
    simp [execOp, ev_eval hf hx, ev_eval hf hy, Instr.indexAt, asIntOf, run_underlying hT, vInt, h1]
  | none =>
    refine ⟨e0, w0, ?_, h20⟩
    simp [execOp, ev_eval hf hx, ev_eval hf hy, Instr.indexAt, asIntOf, run_underlying hT, vInt, h10]
end
end Go.Sx
namespace Go.Bt
variable [Gnd]
open Go.Conc Go.ConcN Go.RowKit Go.Proofs
open Go.Sx (Rly RV pz pzo pz_heap spec isWg Gud Co blk RowE Rd Mem CallV vInt callV_of_callI callI_of_pt Pt pt_seq pt_sw pt_back pt_ret pt_region pt_regionEnd pt_val pt_block pt_inBlock pt_exit pt_if pt_skip pt_do pt_draw pt_call pt_loop_inv pt_panicE lz_val val_assign val_move val_load val_nilCheck val_fieldAddr val_len val_geq_int val_lss_int val_eql_int val_add_int val_load_elem val_load_at val_indexAddr_slice acts_alloc does_store_all tame_nilCheck tame_int callsTo res_nothing res_slot Lf ReI Stb re_fall panics_index pick_v)
section
variable {u0 : World} {sb : Nat} {pv : Value} {B : Bd} {v v' u : World}
theorem cell_rv' {a : Addr} {x : Value} {w z : World} (hc : w.cell? a = some x) (hr : RV w z) : z.cell? a = some x := by
  unfold World.cell? at hc ⊢
  cases hb : w.heap[a.block]? with
  | none => simp only [hb] at hc; cases hc
  | some o => simp only [hb] at hc; simp only [hr.heap _ _ hb]; exact hc
theorem SSt.cell {bs pk : Value} {eb ep : Go.Sx.Ent} (h : SSt u0 sb pv B bs pk eb ep v) : v.cell? ⟨sb, 1, none⟩ = some bs := by rw [Go.Sx.cell_of_blk h.st]; rfl
/-- The board's notes stand in their row. -/
theorem SSt.rd {a : Option Addr} {m c : Nat} {pk : Value} {eb ep : Go.Sx.Ent} (h : SSt u0 sb pv B (.slice a m c) pk eb ep v) : m = B.notes.length ∧ Rd v a (flatB B.notes) ∧ (0 < m → ∃ b, a = some ⟨b, 0, none⟩) := by
  rcases h.rb with ⟨hl, ⟨h1, h2, _⟩ | ⟨b', cap, rest, h1, _, _, _, h2⟩⟩
  · cases h1
    refine ⟨h2.symm, fun j x hx => ?_, fun h => by omega⟩
    have : flatB B.notes = [] := by
      rw [← List.length_eq_zero_iff, hl, h2]
    rw [this] at hx; cases hx
  · cases h1
    refine ⟨rfl, fun j x hx => ⟨b', 0, rfl, ?_⟩, fun _ => ⟨b', rfl⟩⟩
    rw [Go.Sx.cell_of_blk (h.hb _ _ h2).1, Nat.zero_add, List.getElem?_append_left (List.getElem?_eq_some_iff.1 hx).1]
    exact hx
variable [C : Co Try.prog]
set_option maxRecDepth 100000 in
set_option maxHeartbeats 4000000 in
/-- Does v stand on the board? -/
theorem stands_v {x : Int} (h : ShS u0 sb pv B v) (hlen : B.notes.length ≤ 8796093022208) : CallV Try.prog 62 #[vPtr sb, vI x] v (fun r u => r = .returned (.bool (stands B.notes x)) ∧ RV v u) := by
  obtain ⟨bs, pk, eb, ep, hS⟩ := h
  obtain ⟨a, c, rfl, _⟩ := hS.rb.slice
  obtain ⟨-, hrd, hpos⟩ := hS.rd
  refine callV_of_callI (callI_of_pt (vs := [vPtr sb, vI x]) Try.func62 rfl rfl fun cf cs g1 g2 => ?_)
  refine Pt.imp (M' := fun u => RV v u) (fun u hu => hu ▸ RV.refl _) ?_
  refine pt_seq (pt_region ?_)
  refine pt_val (by decide) rfl (val_assign (v := .bool false) rfl) rfl ?_
  refine pt_regionEnd (pt_seq (pt_seq (pt_region ?_)))
  refine pt_val (by decide) rfl (val_move (v := vPtr sb) rfl) rfl ?_
  refine pt_val (by decide) rfl (val_nilCheck (a := ⟨sb, 0, none⟩) rfl) rfl ?_ (tame_nilCheck rfl)
  refine pt_val (by decide) rfl (val_fieldAddr (b := sb) (o := 0) (e := 1) rfl Try.underlying40 rfl rfl Try.sizeOf32 rfl) rfl ?_
  refine pt_val (by decide) rfl (val_load rfl Try.isAgg32 (v := .slice a B.notes.length c) (fun w h => cell_rv' hS.cell h)) rfl ?_
  refine pt_val (by decide) rfl (val_len (len := B.notes.length) rfl Try.underlying32) rfl ?_
  refine pt_val (by decide) rfl (val_move (v := vInt (0 : Nat)) rfl) rfl ?_
  refine pt_regionEnd (pt_block ?_)
  refine pt_loop_inv (fun j : Nat => j ≤ B.notes.length ∧ ∀ i y, i < j → B.notes[i]? = some y → y.2 ≠ x) (fun j => [(10, .slice a B.notes.length c), (11, vInt B.notes.length), (12, vInt j), (1, vI x)]) (fun _ => ()) (fun _ z => RV v z) (fun j => B.notes.length - j) 0 ⟨Nat.zero_le _, fun _ _ h => by omega⟩ ⟨rfl, rfl, rfl, rfl, trivial⟩ rfl (fun _ h => h) ?_
  rintro j ⟨hle, hno⟩ hloop
  refine pt_seq (pt_region ?_)
  refine pt_val (by decide) rfl (val_lss_int (a := (j : Int)) (b := (B.notes.length : Int)) rfl rfl) rfl ?_ (tame_int rfl rfl)
  refine pt_regionEnd (pt_seq (pt_if rfl (fun hlt => ?_) (fun hge => ?_)))
  · have hj : j < B.notes.length := by omega
    obtain ⟨b, rfl⟩ := hpos (by omega)
    refine pt_skip (pt_seq (pt_block (pt_seq (Pt.world fun z hz => ?_))))
    refine Pt.imp (M' := Mem z [] []) (fun w hw => hw ▸ Mem.refl z) (pt_region ?_)
    refine pt_val (by decide) rfl (val_indexAddr_slice (m := 2) j (0 + j * 2) rfl rfl Try.underlying32 Try.sizeOf56 rfl hj rfl) rfl ?_
    refine pt_val (by decide) rfl (val_load_elem (cells := fun y : Int × Int => [vI y.1, vI y.2]) (l := B.notes) (o := 0) (i := j) rfl Try.isAgg56 Try.sizeOf56 (fun _ _ => rfl) hj rfl (fun w hw => (fun k y hy => let ⟨b', o', e1, e2⟩ := hrd k y hy; ⟨b', o', e1, cell_rv' e2 (hz.trans (Mem.rv hw))⟩))) rfl ?_
    have hget : B.notes[j]? = some (B.notes.getD j default) := by rw [List.getD_eq_getElem?_getD, List.getElem?_eq_getElem hj]; rfl
    generalize B.notes.getD j default = y at hget
    refine pt_new (by decide) rfl (acts_alloc Try.zeroValue56) rfl fun t6 ht6 => ?_
    refine pt_do (by decide) rfl (does_store_all 0 (cs := [vI y.1, vI y.2]) rfl rfl rfl (by intro x hx; simp only [List.mem_cons, List.not_mem_nil, or_false] at hx; rcases hx with rfl | rfl <;> rfl) Try.sizeOf56 rfl rfl) fun _ _ => ?_
    refine pt_regionEnd (pt_seq (pt_region ?_))
    refine pt_val (by decide) rfl (val_fieldAddr (b := t6) (o := 0) (e := 1) rfl Try.underlying56 rfl rfl Try.sizeOf3 rfl) rfl ?_
    refine pt_val (by decide) rfl (val_load_at (l := [some (t6, blk [vI y.1, vI y.2] 56)]) (v := vI y.2) 0 rfl rfl Try.isAgg3 rfl) rfl ?_
    refine pt_val (by decide) rfl (val_move (v := vI x) rfl) rfl ?_
    refine pt_val (by decide) rfl (val_eql_int (a := y.2) (b := x) rfl rfl) rfl ?_ (tame_int rfl rfl)
    refine Pt.imp (M' := fun w => RV v w) (fun w hw => hz.trans (Mem.rv hw)) (pt_regionEnd ?_)
    refine pt_if rfl (fun he => ?_) (fun hne => ?_)
    · refine pt_seq (pt_region ?_)
      refine pt_val (by decide) rfl (val_assign (v := .bool true) rfl) rfl ?_
      refine pt_regionEnd (pt_ret (fn := Try.f62) (v := .bool true) Try.func62 rfl (fun a hf => res_slot rfl rfl hf) fun w hw => g1 _ () w (hw.mono fun q hq => ⟨?_, hq⟩))
      have : stands B.notes x = true := by
        unfold stands
        rw [List.any_eq_true]
        exact ⟨y, List.mem_of_getElem? hget, by simp [he]⟩
      rw [this]
    · refine pt_skip (pt_inBlock (pt_region ?_))
      refine pt_val (by decide) rfl (val_add_int (a := (j : Int)) (b := 1) _ rfl rfl rfl (by omega)) rfl ?_ (tame_int rfl rfl)
      refine pt_val (by decide) rfl (val_move (v := vInt (j + 1 : Nat)) rfl) rfl ?_
      refine pt_regionEnd (Pt.weaken ?_ (fun _ h => h) (hloop (j + 1) ⟨hj, fun i y' hi hy' => ?_⟩ (by omega)))
      · exact ⟨rfl, rfl, rfl, rfl, trivial⟩
      · by_cases hij : i = j
        · subst hij; rw [hget] at hy'; cases hy'; exact hne
        · exact hno i y' (by omega) hy'
  · refine pt_exit rfl (pt_seq (pt_region ?_))
    refine pt_val (by decide) rfl (val_assign (v := .bool false) rfl) rfl ?_
    refine pt_regionEnd (pt_ret (fn := Try.f62) (v := .bool false) Try.func62 rfl (fun a hf => res_slot rfl rfl hf) fun w hw => g1 _ () w (hw.mono fun q hq => ⟨?_, hq⟩))
    have : stands B.notes x = false := by
      unfold stands
      rw [List.any_eq_false]
      intro y hy
      obtain ⟨i, hi⟩ := List.mem_iff_getElem?.1 hy
      have := hno i y (by have := (List.getElem?_eq_some_iff.1 hi).1; omega) hi
      simpa using this
    rw [this]
end
end Go.Bt
end
section
namespace Go.Bt
variable [Gnd]
open Go.Conc Go.ConcN Go.RowKit Go.Proofs
open Go.Sx (Rly RV pz pzo pz_heap spec isWg Gud Co blk RowE Rd Mem CallV vInt callV_of_callI callI_of_pt Pt pt_seq pt_sw pt_back pt_ret pt_region pt_regionEnd pt_val pt_block pt_inBlock pt_exit pt_if pt_skip pt_do pt_draw pt_call pt_loop_inv pt_panicE lz_val val_assign val_move val_load val_nilCheck val_fieldAddr val_len val_geq_int val_lss_int val_eql_int val_add_int val_load_elem val_load_at val_indexAddr_slice acts_alloc does_store_all tame_nilCheck tame_int callsTo res_nothing res_slot Lf ReI Stb re_fall panics_index pick_v CallI)
section
variable {u0 : World} {sb : Nat} {pv : Value} {B : Bd} {v v' u : World} [C : Co Try.prog]
theorem cell_b {b : Nat} {x : Value} {T : TypeId} {xs : List Value} {k : Nat} {w z : World} (h : w.heap[b]? = some (blk xs T)) (hx : xs[k]? = some x) (hr : RV w z) : z.cell? ⟨b, k, none⟩ = some x := by
  rw [Go.Sx.cell_of_blk (hr.heap _ _ h)]; exact hx
/-- A contract used in a walk of one goroutine. -/
theorem callI_of_v {f : FuncId} {args : Array Value} {v : World} {T : Go.Ending → World → Prop} (h : CallV Try.prog f args v T) : CallI (fun _ : Unit => C) f args () v (fun e _ w => T e w) :=
  fun w hw c cs h1 h2 => h w hw c cs (fun r w' hx => h1 r () w' hx) (fun ch w' hx => h2 ch () w' hx)
set_option maxRecDepth 100000 in
theorem never_v : CallV Try.prog 63 #[] v (fun r u => r = .returned (.bool false) ∧ RV v u) := by
  refine callV_of_callI (callI_of_pt (vs := []) Try.func63 rfl rfl fun cf cs g1 g2 => ?_)
  refine Pt.imp (M' := fun u => RV v u) (fun u hu => hu ▸ RV.refl _) ?_
  refine pt_seq (pt_region ?_)
  refine pt_val (by decide) rfl (val_assign (v := .bool false) rfl) rfl ?_
  refine pt_regionEnd (pt_seq (pt_region ?_))
  refine pt_val (by decide) rfl (val_assign (v := .bool false) rfl) rfl ?_
  exact pt_regionEnd (pt_ret (fn := Try.f63) (v := .bool false) Try.func63 rfl (fun a hf => res_slot rfl rfl hf) fun w hw => g1 _ () w (hw.mono fun q hq => ⟨rfl, hq⟩))
set_option maxRecDepth 100000 in
set_option maxHeartbeats 2000000 in
theorem wait_v {b4 b6 : Nat} {d x : Int} (h : ShS u0 sb pv B v) (h4 : v.heap[b4]? = some (blk [vPtr sb] 27)) (h6 : v.heap[b6]? = some (blk [vI d, vI x] 61)) :
    CallV Try.prog 60 #[vPtr b4, vPtr b6] v (fun r u => r = .returned (.bool (decide (x ≤ (B.notes.length : Int)))) ∧ RV v u) := by
  obtain ⟨bs, pk, eb, ep, hS⟩ := h
  obtain ⟨a, c, rfl, _⟩ := hS.rb.slice
  refine callV_of_callI (callI_of_pt (vs := [vPtr b4, vPtr b6]) Try.func60 rfl rfl fun cf cs g1 g2 => ?_)
  refine Pt.imp (M' := fun u => RV v u) (fun u hu => hu ▸ RV.refl _) ?_
  refine pt_seq (pt_region ?_)
  refine pt_val (by decide) rfl (val_assign (v := .bool false) rfl) rfl ?_
  refine pt_regionEnd (pt_seq ?_)
  refine pt_draw (S := fun u => RV v u) 8 [0, 1, 2, 3, 4, 5, 6, 7] [] (by kernel_rfl) (by decide) (by kernel_rfl) (by kernel_rfl) (by kernel_rfl) (fun t => (Go.Sx.go_forced (L := 8) (by kernel_rfl)).trans (congrArg (8 :: ·) Go.Sx.go_end)) (by kernel_rfl) (fun _ h => h) ?_
  refine lz_val rfl (val_load rfl Try.isAgg27 (v := vPtr sb) (fun w hw => cell_b h4 rfl hw)) rfl ?_
  refine lz_val rfl (val_nilCheck (a := ⟨sb, 0, none⟩) rfl) rfl ?_ (tame_nilCheck rfl)
  refine lz_val rfl (val_fieldAddr (b := sb) (o := 0) (e := 1) rfl Try.underlying40 rfl rfl Try.sizeOf32 rfl) rfl ?_
  refine lz_val rfl (val_load rfl Try.isAgg32 (v := .slice a B.notes.length c) (fun w hw => cell_rv' hS.cell hw)) rfl ?_
  refine lz_val rfl (val_len (len := B.notes.length) rfl Try.underlying32) rfl ?_
  refine lz_val rfl (val_fieldAddr (b := b6) (o := 0) (e := 1) rfl Try.underlying61 rfl rfl Try.sizeOf3 rfl) rfl ?_
  refine lz_val rfl (val_load rfl Try.isAgg3 (v := vI x) (fun w hw => cell_b h6 rfl hw)) rfl ?_
  refine lz_val rfl (val_geq_int (a := (B.notes.length : Int)) (b := x) rfl rfl) rfl ?_ (tame_int rfl rfl)
  show Pt _ _ _ _ _ _ _ _
  refine pt_val (by decide) rfl (val_assign (v := .bool (decide (x ≤ (B.notes.length : Int)))) rfl) rfl ?_
  exact pt_regionEnd (pt_ret (fn := Try.f60) (v := .bool (decide (x ≤ (B.notes.length : Int)))) Try.func60 rfl (fun a hf => res_slot rfl rfl hf) fun w hw => g1 _ () w (hw.mono fun q hq => ⟨rfl, hq⟩))
set_option maxRecDepth 100000 in
set_option maxHeartbeats 2000000 in
theorem flag_v {b4 b6 : Nat} {d x : Int} (h : ShS u0 sb pv B v) (hlen : B.notes.length ≤ 8796093022208) (h4 : v.heap[b4]? = some (blk [vPtr sb] 27)) (h6 : v.heap[b6]? = some (blk [vI d, vI x] 61)) :
    CallV Try.prog 61 #[vPtr b4, vPtr b6] v (fun r u => r = .returned (.bool (stands B.notes x)) ∧ RV v u) := by
  refine callV_of_callI (callI_of_pt (vs := [vPtr b4, vPtr b6]) Try.func61 rfl rfl fun cf cs g1 g2 => ?_)
  refine Pt.imp (M' := fun u => RV v u) (fun u hu => hu ▸ RV.refl _) ?_
  refine pt_seq (pt_region ?_)
  refine pt_val (by decide) rfl (val_assign (v := .bool false) rfl) rfl ?_
  refine pt_regionEnd (pt_seq (pt_region ?_))
  refine pt_val (by decide) rfl (val_load rfl Try.isAgg27 (v := vPtr sb) (fun w hw => cell_b h4 rfl hw)) rfl ?_
  refine pt_val (by decide) rfl (val_fieldAddr (b := b6) (o := 0) (e := 1) rfl Try.underlying61 rfl rfl Try.sizeOf3 rfl) rfl ?_
  refine pt_val (by decide) rfl (val_load rfl Try.isAgg3 (v := vI x) (fun w hw => cell_b h6 rfl hw)) rfl ?_
  refine pt_call (T := fun w r _ u => r = .returned (.bool (stands B.notes x)) ∧ RV w u) (by decide) rfl (callsTo (xs := [.tmp 3, .tmp 5]) (vs := [vPtr sb, vI x]) Try.func62 rfl (by decide) rfl) (by infer_instance) (fun w hw => callI_of_v (stands_v (h.rv hw) hlen)) (fun t' ht => by cases ht; rfl) (fun w r x' hw => ?_) (fun w ch x' hw a w' hf hl => ?_)
  · refine Pt.world fun z hz => ?_
    obtain ⟨hr, hz⟩ := hz
    cases hr
    refine Pt.imp (M' := fun u => RV v u) (fun y hy => hy ▸ RV.trans hw hz) ?_
    refine pt_val (by decide) rfl (val_assign (v := .bool (stands B.notes x)) rfl) rfl ?_
    exact pt_regionEnd (pt_ret (fn := Try.f61) (v := .bool (stands B.notes x)) Try.func61 rfl (fun a hf => res_slot rfl rfl hf) fun w hw => g1 _ () w (hw.mono fun q hq => ⟨rfl, hq⟩))
  · obtain ⟨z, ⟨hr, _⟩, _⟩ := hl
    cases hr
set_option maxRecDepth 100000 in
set_option maxHeartbeats 2000000 in
theorem broken_v (h : ShS u0 sb pv B v) : CallV Try.prog 35 #[vPtr sb] v (fun r u => ∃ e, r = .panicked [{ v := e, recovered := false }] ∧ RV v u) := by
  obtain ⟨bs, pk, eb, ep, hS⟩ := h
  obtain ⟨a, c, rfl, _⟩ := hS.rb.slice
  refine callV_of_callI (callI_of_pt (vs := [vPtr sb]) Try.func35 rfl rfl fun cf cs g1 g2 => ?_)
  refine Pt.imp (M' := fun u => RV v u) (fun u hu => hu ▸ RV.refl _) ?_
  refine pt_seq (pt_region ?_)
  refine pt_val (by decide) rfl (val_assign (v := .bool false) rfl) rfl ?_
  refine pt_regionEnd (pt_seq ?_)
  refine pt_draw (S := fun u => RV v u) 9 [0, 1, 2, 3, 4, 5, 6, 7, 8] [10, 11, 12, 13] (by kernel_rfl) (by decide) (by kernel_rfl) (by kernel_rfl) (by kernel_rfl) (fun t => (Go.Sx.go_forced (L := 9) (by kernel_rfl)).trans (congrArg (9 :: ·) ((Go.Sx.go_forced (L := 10) (by kernel_rfl)).trans (congrArg (10 :: ·) ((Go.Sx.go_forced (L := 11) (by kernel_rfl)).trans (congrArg (11 :: ·) ((Go.Sx.go_forced (L := 12) (by kernel_rfl)).trans (congrArg (12 :: ·) ((Go.Sx.go_forced (L := 13) (by kernel_rfl)).trans (congrArg (13 :: ·) Go.Sx.go_end)))))))))) (by kernel_rfl) (fun _ h => h) ?_
  refine lz_val rfl (val_move (v := vPtr sb) rfl) rfl ?_
  refine lz_val rfl (val_nilCheck (a := ⟨sb, 0, none⟩) rfl) rfl ?_ (tame_nilCheck rfl)
  refine lz_val rfl (val_fieldAddr (b := sb) (o := 0) (e := 1) rfl Try.underlying40 rfl rfl Try.sizeOf32 rfl) rfl ?_
  refine lz_val rfl (val_load rfl Try.isAgg32 (v := .slice a B.notes.length c) (fun w hw => cell_rv' hS.cell hw)) rfl ?_
  refine lz_val rfl (val_move (v := vPtr sb) rfl) rfl ?_
  refine lz_val rfl (val_nilCheck (a := ⟨sb, 0, none⟩) rfl) rfl ?_ (tame_nilCheck rfl)
  refine lz_val rfl (val_fieldAddr (b := sb) (o := 0) (e := 1) rfl Try.underlying40 rfl rfl Try.sizeOf32 rfl) rfl ?_
  refine lz_val rfl (val_load rfl Try.isAgg32 (v := .slice a B.notes.length c) (fun w hw => cell_rv' hS.cell hw)) rfl ?_
  refine lz_val rfl (val_len (len := B.notes.length) rfl Try.underlying32) rfl ?_
  show Pt _ _ _ _ _ _ _ _
  refine pt_panicE (by decide) rfl (panics_index (m := 2) rfl rfl Try.underlying32 Try.sizeOf56) fun e a w hf hl => ?_
  exact re_fall Try.func35 hf.defers (g2 _ () w (hl.mono fun q hq => ⟨e, rfl, hq⟩))
set_option maxRecDepth 100000 in
set_option maxHeartbeats 2000000 in
theorem asked_v {b4 b5 b6 b7 T : Nat} {i d x k : Int} (h : ShS u0 sb pv B v) (h1 : B.notes.length + 1 ≤ 8796093022208) (h2 : B.pks.length + 1 ≤ 8796093022208) (h4 : v.heap[b4]? = some (blk [vPtr sb] 27)) (h5 : v.heap[b5]? = some (blk [vI i] 3)) (h6 : v.heap[b6]? = some (blk [vI d, vI x] 61)) (h7 : v.heap[b7]? = some (blk [vPtr T] 44))
    (hT : ∃ gr bk, v.heap[T]? = some (pzo (.cells #[gr, bk, vI k] 48))) (hf6 : ¬ footS sb v b6) :
    CallV Try.prog 64 #[vPtr b7, vPtr b4, vPtr b5, vPtr b6] v (fun r u => r = .returned (.bool (decide (x ≤ k))) ∧ ShS u0 sb pv (B.note i k k) u ∧ SK sb v u) := by
  have hTc : v.cell? ⟨T, 2, none⟩ = some (vI k) := by
    obtain ⟨gr, bk, hT⟩ := hT
    unfold World.cell?; rw [hT]; rfl
  refine callV_of_callI (callI_of_pt (vs := [vPtr b7, vPtr b4, vPtr b5, vPtr b6]) Try.func64 rfl rfl fun cf cs g1 g2 => ?_)
  refine Pt.imp (M' := fun u => RV v u) (fun u hu => hu ▸ RV.refl _) ?_
  refine pt_seq (pt_region ?_)
  refine pt_val (by decide) rfl (val_assign (v := .bool false) rfl) rfl ?_
  refine pt_regionEnd (pt_seq (pt_region ?_))
  refine pt_val (by decide) rfl (val_load rfl Try.isAgg44 (v := vPtr T) (fun w hw => cell_b h7 rfl hw)) rfl ?_
  refine pt_call (T := fun w r _ u => r = .returned (vInt k) ∧ RV w u) (by decide) rfl (callsTo (xs := [.tmp 6]) (vs := [vPtr T]) Try.func21 rfl (by decide) rfl) (by infer_instance) (fun w hw => callI_of_v (pick_v (cell_rv' hTc hw))) (fun t' ht => by cases ht; rfl) (fun w r x' hw => ?_) (fun w ch x' hw a w' hf hl => ?_)
  · refine Pt.world fun z hz => ?_
    obtain ⟨hr, hz⟩ := hz
    cases hr
    refine Pt.imp (M' := fun u => RV v u) (fun y hy => hy ▸ RV.trans hw hz) ?_
    refine pt_val (by decide) rfl (val_assign (v := vInt k) rfl) rfl ?_
    refine pt_regionEnd (pt_seq (pt_region ?_))
    refine pt_val (by decide) rfl (val_load rfl Try.isAgg27 (v := vPtr sb) (fun w hw => cell_b h4 rfl hw)) rfl ?_
    refine pt_val (by decide) rfl (val_load rfl Try.isAgg3 (v := vI i) (fun w hw => cell_b h5 rfl hw)) rfl ?_
    refine pt_val (by decide) rfl (val_move (v := vInt k) rfl) rfl ?_
    refine pt_val (by decide) rfl (val_load rfl Try.isAgg44 (v := vPtr T) (fun w hw => cell_b h7 rfl hw)) rfl ?_
    refine pt_call (T := fun w r _ u => r = .returned (.tuple #[]) ∧ ShS u0 sb pv (B.note i k k) u ∧ SK sb w u) (by decide) rfl (callsTo (xs := [.tmp 8, .tmp 9, .tmp 10, .tmp 11]) (vs := [vPtr sb, vI i, vI k, vPtr T]) Try.func34 rfl (by decide) rfl) (by infer_instance) (fun w hw => callI_of_v (note_v (y := .nilFunc) (h.rv hw) (let ⟨gr, bk, hT⟩ := hT; ⟨gr, bk, hw.heap _ _ hT⟩) h1 h2)) (fun t' ht => by cases ht; rfl) (fun w r x' hw => ?_) (fun w ch x' hw a w' hf hl => ?_)
    · refine Pt.world fun z2 hz2 => ?_
      obtain ⟨hr, hsh, hsk⟩ := hz2
      cases hr
      have hK : SK sb v z2 := (SK.of_rv h.rt hw).trans hsk
      have h6' : z2.heap[b6]? = some (blk [vI d, vI x] 61) := hK.keep _ _ h6 hf6
      refine Pt.imp (M' := fun u => RV z2 u) (fun y hy => hy ▸ RV.refl _) ?_
      refine pt_regionEnd (pt_seq (pt_region ?_))
      refine pt_val (by decide) rfl (val_move (v := vInt k) rfl) rfl ?_
      refine pt_val (by decide) rfl (val_fieldAddr (b := b6) (o := 0) (e := 1) rfl Try.underlying61 rfl rfl Try.sizeOf3 rfl) rfl ?_
      refine pt_val (by decide) rfl (val_load rfl Try.isAgg3 (v := vI x) (fun w hw => cell_b h6' rfl hw)) rfl ?_
      refine pt_val (by decide) rfl (val_geq_int (a := k) (b := x) rfl rfl) rfl ?_ (tame_int rfl rfl)
      refine pt_val (by decide) rfl (val_assign (v := .bool (decide (x ≤ k))) rfl) rfl ?_
      exact pt_regionEnd (pt_ret (fn := Try.f64) (v := .bool (decide (x ≤ k))) Try.func64 rfl (fun a hf => res_slot rfl rfl hf) fun w hw => g1 _ () w (hw.mono fun q hq => ⟨rfl, hsh.rv hq, hK.trans (SK.of_rv hsh.rt hq)⟩))
    · obtain ⟨z, ⟨hr, _⟩, _⟩ := hl
      cases hr
  · obtain ⟨z, ⟨hr, _⟩, _⟩ := hl
    cases hr
end
end Go.Bt
end
section
namespace Go.Bt
variable [Gnd]
open Go.Conc Go.ConcN Go.RowKit Go.Proofs
open Go.Sx (Rly RV pz pzo pz_heap spec isWg Gud Co blk RowE Rd Mem CallV vInt CallI)
theorem runL_grow (a k : Int) : ∀ (l : List Ins) (j : Nat) (B : Bd), B.notes.length ≤ (runL a k l j B).2.notes.length ∧ B.pks.length ≤ (runL a k l j B).2.pks.length
  | [], j, B => ⟨Nat.le_refl _, Nat.le_refl _⟩
  | o :: r, j, B => by
    have hn : ∀ x, B.notes.length ≤ (B.note a x k).notes.length ∧ B.pks.length ≤ (B.note a x k).pks.length := fun x => by simp [Bd.note]
    have hr : B.notes.length ≤ (rdyB a k o B).notes.length ∧ B.pks.length ≤ (rdyB a k o B).pks.length := by
      unfold rdyB; split
      · exact hn k
      · exact ⟨Nat.le_refl _, Nat.le_refl _⟩
    unfold runL
    split
    · have := runL_grow a k r (j + 1) (B.note a o.2 k); have := hn o.2; omega
    split
    · have := runL_grow a k r (j + 1) (B.note a k k); have := hn k; omega
    split
    · exact ⟨Nat.le_refl _, Nat.le_refl _⟩
    split
    · split
      · exact hr
      · exact hr
      · have := runL_grow a k r (j + 1) (rdyB a k o B); omega
    split
    · exact ⟨Nat.le_refl _, Nat.le_refl _⟩
    · exact runL_grow a k r (j + 1) B
/-- What is asked of a play beforehand. -/
structure Pre (ps : List (List Ins)) (qs : List Int) (K : Nat) : Prop where
  n : 0 < ps.length
  big : ∀ k, k ≤ K → (macN ps qs k).bd.notes.length + 1 ≤ 8796093022208 ∧ (macN ps qs k).bd.pks.length + 1 ≤ 8796093022208
/-- Actor i runs, within pick kn: it stands at place j, the board is B. -/
structure InRun (ps : List (List Ins)) (qs : List Int) (K i kn j : Nat) (B : Bd) : Prop where
  lt : kn < K
  who : whoOf ps.length qs kn = i
  ac : acN ps qs i (kn + 1) = (runL i kn ((ps.getD i []).drop j) j B).1
  bd : (macN ps qs (kn + 1)).bd = (runL i kn ((ps.getD i []).drop j) j B).2
  mv : movedN ps qs kn = true
section
variable {ps : List (List Ins)} {qs : List Int} {K i kn j : Nat} {B : Bd}
theorem InRun.size (hP : Pre ps qs K) (h : InRun ps qs K i kn j B) : B.notes.length + 1 ≤ 8796093022208 ∧ B.pks.length + 1 ≤ 8796093022208 := by
  have h1 := hP.big (kn + 1) h.lt
  have h2 := runL_grow i kn ((ps.getD i []).drop j) j B
  rw [h.bd] at h1
  omega
theorem InRun.to {j' : Nat} {B' : Bd} (h : InRun ps qs K i kn j B) (e : runL i kn ((ps.getD i []).drop j) j B = runL i kn ((ps.getD i []).drop j') j' B') : InRun ps qs K i kn j' B' :=
  ⟨h.lt, h.who, by rw [← e]; exact h.ac, by rw [← e]; exact h.bd, h.mv⟩
theorem drop_at {l : List Ins} {o : Ins} (h : l[j]? = some o) : l.drop j = o :: l.drop (j + 1) := by
  obtain ⟨hlt, rfl⟩ := List.getElem?_eq_some_iff.1 h
  exact List.drop_eq_getElem_cons hlt
variable {o : Ins}
theorem InRun.write (h : InRun ps qs K i kn j B) (hj : (ps.getD i [])[j]? = some o) (ho : o.1 = 1) : InRun ps qs K i kn (j + 1) (B.note i o.2 kn) :=
  h.to (by rw [drop_at hj]; unfold runL; rw [if_pos ho]; cases (ps.getD i []).drop (j + 1) <;> rfl)
theorem InRun.pick (h : InRun ps qs K i kn j B) (hj : (ps.getD i [])[j]? = some o) (ho : o.1 = 9) : InRun ps qs K i kn (j + 1) (B.note i kn kn) := by
  refine h.to ?_
  rw [drop_at hj]; conv => lhs; unfold runL
  rw [if_neg (by omega), if_pos ho]
theorem InRun.skip (h : InRun ps qs K i kn j B) (hj : (ps.getD i [])[j]? = some o) (h1 : o.1 ≠ 1) (h2 : o.1 ≠ 9) (h3 : o.1 ≠ 2) (h4 : isUntil o.1 = false) (h5 : o.1 ≠ 7) (h6 : o.1 ≠ 11) : InRun ps qs K i kn (j + 1) B := by
  refine h.to ?_
  rw [drop_at hj]; conv => lhs; unfold runL
  rw [if_neg h1, if_neg h2, if_neg h3, if_neg (by rw [h4]; simp), if_neg (by omega)]
/-- It gives the baton back. -/
theorem InRun.step (h : InRun ps qs K i kn j B) (hj : (ps.getD i [])[j]? = some o) (ho : o.1 = 2) : acN ps qs i (kn + 1) = ⟨(j + 1 : Nat), false, false⟩ ∧ (macN ps qs (kn + 1)).bd = B := by
  have e : runL i kn ((ps.getD i []).drop j) j B = (⟨(j : Int) + 1, false, false⟩, B) := by
    rw [drop_at hj]; conv => lhs; unfold runL
    rw [if_neg (by omega), if_neg (by omega), if_pos ho]
  rw [h.ac, h.bd, e]; exact ⟨rfl, rfl⟩
/-- It ends here. -/
theorem InRun.stop (h : InRun ps qs K i kn j B) (hj : (ps.getD i [])[j]? = some o) (ho : o.1 = 7 ∨ o.1 = 11) : (acN ps qs i (kn + 1)).over = true ∧ (macN ps qs (kn + 1)).bd = B := by
  have e : runL i kn ((ps.getD i []).drop j) j B = (⟨j, false, true⟩, B) := by
    rw [drop_at hj]; conv => lhs; unfold runL
    have hu : isUntil o.1 = false := by rcases ho with ho | ho <;> rw [ho] <;> rfl
    rw [if_neg (by omega), if_neg (by omega), if_neg (by omega), if_neg (by rw [hu]; simp), if_pos ho]
  rw [h.ac, h.bd, e]; exact ⟨rfl, rfl⟩
theorem InRun.fin (h : InRun ps qs K i kn j B) (hj : (ps.getD i []).length ≤ j) : (acN ps qs i (kn + 1)).over = true ∧ (macN ps qs (kn + 1)).bd = B := by
  have e : runL i kn ((ps.getD i []).drop j) j B = (⟨j, false, true⟩, B) := by
    rw [List.drop_eq_nil_of_le hj]; rfl
  rw [h.ac, h.bd, e]; exact ⟨rfl, rfl⟩
/-- It comes to a question, for the first time or again. -/
def AtQ (ps : List (List Ins)) (qs : List Int) (K i j : Nat) (o : Ins) (first : Bool) (kn : Nat) (B : Bd) : Prop :=
  (ps.getD i [])[j]? = some o ∧ isUntil o.1 = true ∧ ((first = true ∧ InRun ps qs K i kn j B) ∨ (first = false ∧ kn < K ∧ whoOf ps.length qs kn = i ∧ acN ps qs i kn = ⟨j, true, false⟩ ∧ (macN ps qs kn).bd = B))
theorem until_ne {d : Int} (h : isUntil d = true) : d ≠ 1 ∧ d ≠ 9 ∧ d ≠ 2 ∧ d ≠ 7 ∧ d ≠ 11 := by
  refine ⟨?_, ?_, ?_, ?_, ?_⟩ <;> (rintro rfl; simp [isUntil] at h)
theorem AtQ.run1 (h : InRun ps qs K i kn j B) (hj : (ps.getD i [])[j]? = some o) (hu : isUntil o.1 = true) : runL i kn ((ps.getD i []).drop j) j B = match rdyA i kn o B with
    | .no => (⟨j, true, false⟩, rdyB i kn o B)
    | .broken => (⟨j, false, true⟩, rdyB i kn o B)
    | .yes => runL i kn ((ps.getD i []).drop (j + 1)) (j + 1) (rdyB i kn o B) := by
  obtain ⟨h1, h2, h3, _⟩ := until_ne hu
  rw [drop_at hj]; conv => lhs; unfold runL
  rw [if_neg h1, if_neg h2, if_neg h3, if_pos hu]
  cases rdyA i kn o B <;> rfl
theorem AtQ.pick2 (hP : Pre ps qs K) (hw : whoOf ps.length qs kn = i) (ha : acN ps qs i kn = ⟨j, true, false⟩) (hb : (macN ps qs kn).bd = B) (hj : (ps.getD i [])[j]? = some o) : acPick i kn (ps.getD i []) (acN ps qs i kn) (macN ps qs kn).bd = match rdyA i kn o B with
    | .no => (⟨j, true, false⟩, rdyB i kn o B, false)
    | .broken => (⟨j, true, true⟩, rdyB i kn o B, true)
    | .yes => ((runL i kn ((ps.getD i []).drop (j + 1)) (j + 1) (rdyB i kn o B)).1, (runL i kn ((ps.getD i []).drop (j + 1)) (j + 1) (rdyB i kn o B)).2, true) := by
  unfold acPick
  rw [ha, hb]
  simp only [Bool.false_eq_true, if_false, if_true, Int.toNat_natCast, hj]
  rw [if_neg (by omega)]
  cases rdyA i kn o B <;> rfl
/-- The answer is no. -/
theorem AtQ.no (hP : Pre ps qs K) {first : Bool} (h : AtQ ps qs K i j o first kn B) (ha : rdyA i kn o B = .no) : movedN ps qs kn = first ∧ acN ps qs i (kn + 1) = ⟨j, true, false⟩ ∧ (macN ps qs (kn + 1)).bd = rdyB i kn o B := by
  obtain ⟨hj, hu, ⟨rfl, h⟩ | ⟨rfl, hlt, hw, hac, hbd⟩⟩ := h
  · have e := AtQ.run1 h hj hu
    rw [ha] at e
    rw [h.mv, h.ac, h.bd, e]; exact ⟨rfl, rfl, rfl⟩
  · have e := AtQ.pick2 hP hw hac hbd hj
    rw [ha] at e
    subst hw
    refine ⟨?_, ?_, ?_⟩
    · unfold movedN; rw [e]
    · rw [ac_step hP.n, e]
    · rw [bd_step hP.n, e]
theorem AtQ.yes (hP : Pre ps qs K) {first : Bool} (h : AtQ ps qs K i j o first kn B) (ha : rdyA i kn o B = .yes) : InRun ps qs K i kn (j + 1) (rdyB i kn o B) := by
  obtain ⟨hj, hu, ⟨rfl, h⟩ | ⟨rfl, hlt, hw, hac, hbd⟩⟩ := h
  · have e := AtQ.run1 h hj hu
    rw [ha] at e
    exact h.to e
  · have e := AtQ.pick2 hP hw hac hbd hj
    rw [ha] at e
    subst hw
    refine ⟨hlt, rfl, ?_, ?_, ?_⟩
    · rw [ac_step hP.n, e]
    · rw [bd_step hP.n, e]
    · unfold movedN; rw [e]
theorem AtQ.broken (hP : Pre ps qs K) {first : Bool} (h : AtQ ps qs K i j o first kn B) (ha : rdyA i kn o B = .broken) : movedN ps qs kn = true ∧ (acN ps qs i (kn + 1)).over = true ∧ (macN ps qs (kn + 1)).bd = rdyB i kn o B := by
  obtain ⟨hj, hu, ⟨rfl, h⟩ | ⟨rfl, hlt, hw, hac, hbd⟩⟩ := h
  · have e := AtQ.run1 h hj hu
    rw [ha] at e
    rw [h.mv, h.ac, h.bd, e]; exact ⟨rfl, rfl, rfl⟩
  · have e := AtQ.pick2 hP hw hac hbd hj
    rw [ha] at e
    subst hw
    refine ⟨?_, ?_, ?_⟩
    · unfold movedN; rw [e]
    · rw [ac_step hP.n, e]
    · rw [bd_step hP.n, e]
theorem AtQ.size (hP : Pre ps qs K) {first : Bool} (h : AtQ ps qs K i j o first kn B) : B.notes.length + 1 ≤ 8796093022208 ∧ B.pks.length + 1 ≤ 8796093022208 := by
  obtain ⟨hj, hu, ⟨rfl, h⟩ | ⟨rfl, hlt, hw, hac, hbd⟩⟩ := h
  · exact h.size hP
  · have := hP.big kn (by omega)
    rw [hbd] at this; exact this
end
end Go.Bt
end
section
namespace Go.Bt
variable [Gnd]
open Go.Conc Go.ConcN Go.RowKit Go.Proofs
open Go.Sx (Rly RV pz pzo pz_heap spec isWg Gud Co blk RowE Rd Mem CallV vInt CallI CallsTo Tame ev)
/-- The blocks of an Until's frame. -/
structure Loc4 (sb i T b4 b5 b6 b7 : Nat) (o : Ins) (v : World) : Prop where
  h4 : v.heap[b4]? = some (blk [vPtr sb] 27)
  h5 : v.heap[b5]? = some (blk [vI i] 3)
  h6 : v.heap[b6]? = some (blk [vI o.1, vI o.2] 61)
  h7 : v.heap[b7]? = some (blk [vPtr T] 44)
  nf : ¬ footS sb v b4 ∧ ¬ footS sb v b5 ∧ ¬ footS sb v b6 ∧ ¬ footS sb v b7
section
variable {u0 : World} {sb i T b4 b5 b6 b7 : Nat} {pv : Value} {B : Bd} {v v' u : World} {o : Ins} {e : Ent}
theorem Loc4.sk (h : Loc4 sb i T b4 b5 b6 b7 o v) (hk : SK sb v v') : Loc4 sb i T b4 b5 b6 b7 o v' := by
  have nf : ∀ b ob, v.heap[b]? = some ob → ¬ footS sb v b → ¬ footS sb v' b := fun b ob hb hn hf => by
    rcases hk.grow b hf with h1 | h1
    · exact hn h1
    · have := (Array.getElem?_eq_some_iff.1 hb).1; omega
  exact ⟨hk.keep _ _ h.h4 h.nf.1, hk.keep _ _ h.h5 h.nf.2.1, hk.keep _ _ h.h6 h.nf.2.2.1, hk.keep _ _ h.h7 h.nf.2.2.2, nf _ _ h.h4 h.nf.1, nf _ _ h.h5 h.nf.2.1, nf _ _ h.h6 h.nf.2.2.1, nf _ _ h.h7 h.nf.2.2.2⟩
theorem Loc4.rv (h : Loc4 sb i T b4 b5 b6 b7 o v) (hR : RtS sb v) (hr : RV v v') : Loc4 sb i T b4 b5 b6 b7 o v' := h.sk (SK.of_rv hR hr)
theorem trow_nf (h : ShS u0 sb pv B v) {y : Value} (hT : TRow e y v) : ¬ footS sb v e.T := by
  obtain ⟨bs, pk, eb, ep, hS⟩ := h
  have hT : v.heap[e.T]? = some (pzo (.cells #[vCh e.gr, vCh e.bk, y] 48)) := hT
  intro hf
  rcases hS.foot hf with h1 | ⟨c, hc⟩ | ⟨c, hc⟩
  · rw [h1, hS.st, Option.some.injEq] at hT; simp [blk, pzo, Go.Sx.ord] at hT
  · have := (hS.hb _ _ hc).1
    rw [this, Option.some.injEq] at hT; simp [blk, pzo, Go.Sx.ord] at hT
  · have := (hS.hp _ _ hc).1
    rw [this, Option.some.injEq] at hT; simp [blk, pzo, Go.Sx.ord] at hT
theorem TRow.sk (h : ShS u0 sb pv B v) {y : Value} (hT : TRow e y v) (hk : SK sb v v') : TRow e y v' := hk.keep _ _ hT (trow_nf h hT)
theorem TRow.rv' {y : Value} (hT : TRow e y v) (hr : RV v v') : TRow e y v' := hr.heap _ _ hT
/-- What a ready answers. -/
def AnsT (u0 : World) (sb : Nat) (pv : Value) (i kn : Nat) (o : Ins) (B : Bd) (v : World) (r : Go.Ending) (u : World) : Prop :=
  (match rdyA i kn o B with
    | .yes => r = .returned (.bool true)
    | .no => r = .returned (.bool false)
    | .broken => ∃ x, r = .panicked [{ v := x, recovered := false }]) ∧ ShS u0 sb pv (rdyB i kn o B) u ∧ SK sb v u
/-- A ready that answers as its instruction says. -/
def RC (u0 : World) (sb : Nat) (pv : Value) (i : Nat) (e : Ent) (b4 b5 b6 b7 : Nat) (o : Ins) (f : FuncId) (args : Array Value) : Prop :=
  ∀ (C : Co Try.prog) (kn : Nat) (B : Bd) (v : World), ShS u0 sb pv B v → TRow e (vI kn) v → Loc4 sb i e.T b4 b5 b6 b7 o v → B.notes.length + 1 ≤ 8796093022208 → B.pks.length + 1 ≤ 8796093022208 → @CallV _ Try.prog C f args v (AnsT u0 sb pv i kn o B v)
theorem sh_nope {cs : Array Value} {fz : Nat × Nat} {x y : Nat} {u : Value} (h : cs.setIfInBounds 2 u = #[vCh x, vCh y, u]) (g : spS (.cells cs 48 fz) = false) : False := by
  have hsz : cs.size = 3 := by simpa using congrArg Array.size h
  have h0 : cs[0]? = some (vCh x) := by
    have := congrArg (fun a : Array Value => a[0]?) h
    simpa using this
  have h1 : cs[1]? = some (vCh y) := by
    have := congrArg (fun a : Array Value => a[1]?) h
    simpa using this
  obtain ⟨l⟩ := cs
  match l, hsz with
  | [a, b, c], _ =>
    simp at h0 h1
    subst h0; subst h1
    simp [spS, shT, vCh] at g
/-- The other's way: an actor's blocks stand when it is picked again. -/
theorem resm_ordk {c : Cl} {kn : Int} {kn' : Nat} (h : Resm c i e kn v kn' u) : ∃ v1, Kept c v v1 ∧ c.Sh kn' v1 ∧ OrdK c.n0 v1 u ∧ RV (v1.setCell (cT e 2) (vI kn')) u := by
  obtain ⟨v1, h1, h2, h3⟩ := h.tr
  refine ⟨v1, h1, h2, fun b ob hb g1 g2 g3 => ?_, h3⟩
  by_cases hbe : b = e.T
  · subst hbe
    exfalso
    have e3 : pzo (.cells #[vCh e.gr, vCh e.bk, vI kn'] 48) = .cells #[vCh e.gr, vCh e.bk, vI kn'] 48 (0, 3) := rfl
    by_cases hcell : ∃ cs ty fz, ob = .cells cs ty fz
    · obtain ⟨cs, ty, fz, rfl⟩ := hcell
      have e1 : (v1.setCell (cT e 2) (vI kn')).heap[e.T]? = some (.cells (cs.setIfInBounds 2 (vI kn')) ty fz) := by
        show (v1.heap.modify e.T _)[e.T]? = _
        rw [Array.getElem?_modify, if_pos rfl, hb]
        rfl
      have e2 := h3.heap _ _ e1
      rw [h.row, Option.some.injEq, e3] at e2
      simp only [Obj.cells.injEq] at e2
      have h48 := e2.2.1
      subst h48
      exact sh_nope e2.1.symm g1
    · have e1 : (v1.setCell (cT e 2) (vI kn')).heap[e.T]? = some ob := by
        show (v1.heap.modify e.T _)[e.T]? = _
        rw [Array.getElem?_modify, if_pos rfl, hb]
        cases ob <;> first | rfl | exact absurd ⟨_, _, _, rfl⟩ hcell
      have e2 := h3.heap _ _ e1
      rw [h.row, Option.some.injEq, e3] at e2
      exact hcell ⟨_, _, _, e2.symm⟩
  · exact h3.heap _ _ (by rw [set_ne (show b ≠ (cT e 2).block from hbe)]; exact hb)
end
end Go.Bt
end
section
namespace Go.Bt
variable [Gnd]
open Go.Conc Go.ConcN Go.RowKit Go.Proofs
open Go.Sx (Rly RV pz pzo pz_heap spec isWg Gud Co blk RowE Rd Mem CallV vInt CallI CallsTo Tame ev)
section
variable {u0 : World} {sb : Nat} {pv : Value} {ps : List (List Ins)} {qs : List Int} {calm : Bool} {Wg i : Nat} {e : Ent} {bo j b4 b5 b6 b7 : Nat} {o : Ins}
def QA (ps : List (List Ins)) (qs : List Int) (calm : Bool) (u0 : World) (sb : Nat) (pv : Value) (i : Nat) (e : Ent) (j b4 b5 b6 b7 : Nat) (o : Ins) (first : Bool) (kn : Nat) (v0 v : World) : Prop :=
  ∃ B, AtQ ps qs (clOf ps qs calm u0 sb pv).K i j o first kn B ∧ ShS u0 sb pv B v ∧ SK sb v0 v ∧ TRow e (vI kn) v ∧ Loc4 sb i e.T b4 b5 b6 b7 o v
def QB (ps : List (List Ins)) (qs : List Int) (calm : Bool) (u0 : World) (sb : Nat) (pv : Value) (i : Nat) (e : Ent) (j : Nat) (kn : Nat) (v0 v : World) : Prop :=
  ∃ B, InRun ps qs (clOf ps qs calm u0 sb pv).K i kn j B ∧ ShS u0 sb pv B v ∧ SK sb v0 v ∧ TRow e (vI kn) v
def QF (c : Cl) (i : Nat) (kn : Nat) (v0 v : World) : Prop := c.moved kn = true ∧ c.over i (kn + 1) = true ∧ Seg c kn v0 v
def QW (ps : List (List Ins)) (qs : List Int) (sb i : Nat) (e : Ent) (j b4 b5 b6 b7 : Nat) (o : Ins) (kn : Nat) (v : World) : Prop :=
  (ps.getD i [])[j]? = some o ∧ isUntil o.1 = true ∧ acN ps qs i (kn + 1) = ⟨j, true, false⟩ ∧ Loc4 sb i e.T b4 b5 b6 b7 o v ∧ RtS sb v
theorem seg_of {B : Bd} {kn : Nat} {v0 v : World} (hk : SK sb v0 v) (hs : ShS u0 sb pv B v) (hb : (macN ps qs (kn + 1)).bd = B) : Seg (clOf ps qs calm u0 sb pv) kn v0 v :=
  ⟨hk.tape, hk.os, hk.output, hk.size, hk.keep, hk.grow, by show ShS u0 sb pv (macN ps qs (kn + 1)).bd v; rw [hb]; exact hs⟩
theorem SK.rv {v0 v v' : World} (h : SK sb v0 v) (hR : RtS sb v) (hr : RV v v') : SK sb v0 v' := h.trans (SK.of_rv hR hr)
theorem asks_of {f : FuncId} {args : Array Value} (hP : Pre ps qs (clOf ps qs calm u0 sb pv).K) (hRC : RC u0 sb pv i e b4 b5 b6 b7 o f args) :
    Asks Wg (clOf ps qs calm u0 sb pv) i e bo f args (QA ps qs calm u0 sb pv i e j b4 b5 b6 b7 o) (QB ps qs calm u0 sb pv i e (j + 1)) (QF (clOf ps qs calm u0 sb pv) i) (QW ps qs sb i e j b4 b5 b6 b7 o) where
  rvA := fun {first kn v0 v v'} ⟨B, h1, h2, h3, h4, h5⟩ hr => ⟨B, h1, h2.rv hr, h3.rv h2.rt hr, TRow.rv' h4 hr, h5.rv h2.rt hr⟩
  rvB := fun {kn v0 v v'} ⟨B, h1, h2, h3, h4⟩ hr => ⟨B, h1, h2.rv hr, h3.rv h2.rt hr, TRow.rv' h4 hr⟩
  rvW := fun {kn v v'} ⟨h1, h2, h3, h4, ⟨ob, g1, g2, g3, g4⟩⟩ hr => ⟨h1, h2, h3, h4.rv ⟨ob, g1, g2, g3, g4⟩ hr, ob, hr.heap _ _ g1, g2, g3, g4⟩
  row := fun {first kn v0 v} ⟨B, h1, h2, h3, h4, h5⟩ => ⟨_, h4⟩
  ask := fun {first kn x v} hx ⟨B, h1, h2, h3, h4, h5⟩ => by
    obtain ⟨hs1, hs2⟩ := h1.size hP
    refine @Go.Sx.CallV.mono _ Try.prog (coAct Try.prog Wg (clOf ps qs calm u0 sb pv) i e bo x) _ _ _ _ _ (hRC _ kn B v h2 h4 h5 hs1 hs2) fun r u hu => ?_
    obtain ⟨hr, hsh, hsk⟩ := hu
    have hT := TRow.sk h2 h4 hsk
    have hK := h3.trans hsk
    cases ha : rdyA i kn o B with
    | yes =>
      rw [ha] at hr
      simp only at hr
      subst hr
      exact .inl ⟨rfl, _, h1.yes hP ha, hsh, hK, hT⟩
    | no =>
      rw [ha] at hr
      simp only at hr
      subst hr
      obtain ⟨g1, g2, g3⟩ := h1.no hP ha
      refine .inr ⟨rfl, g1, ?_, seg_of hK hsh g3, ⟨_, hT⟩, h1.1, h1.2.1, g2, h5.sk hsk, hsh.rt⟩
      show (acN ps qs i (kn + 1)).over = false
      rw [g2]
    | broken =>
      rw [ha] at hr
      simp only at hr
      obtain ⟨y, rfl⟩ := hr
      obtain ⟨g1, g2, g3⟩ := h1.broken hP ha
      exact ⟨⟨g1, g2, seg_of hK hsh g3⟩, y, rfl⟩
  again := fun {kn v kn' u} ⟨h1, h2, h3, h4, h5⟩ hR => by
    obtain ⟨v1, hk, hsh, hok, hrv⟩ := resm_ordk hR
    obtain ⟨n1, n2, n3, n4, n5⟩ := hR.next
    have hac : acN ps qs i kn' = acN ps qs i (kn + 1) := by
      have := ac_same (ps := ps) (qs := qs) hP.n (i := i) (k := kn + 1) (kn' - (kn + 1)) (fun m m1 m2 => n5 m (by omega) (by omega))
      rwa [show kn + 1 + (kn' - (kn + 1)) = kn' by omega] at this
    have hsh : ShS u0 sb pv (macN ps qs kn').bd v1 := hsh
    have nf : ∀ b xs T, v.heap[b]? = some (blk xs T) → spec (blk xs T) = false → cty (blk xs T) = false → ¬ footS sb v b → u.heap[b]? = some (blk xs T) ∧ ¬ footS sb u b := fun b xs T hb g1 g2 hn => by
      refine ⟨hok _ _ (hk.keep _ _ hb g1 rfl g2 hn) (spS_of_spec g1) rfl (.inl (cty2_of g1 g2)), fun hf => ?_⟩
      have hf := (foot_ordk hsh.rt hok b).2 hf
      rcases hk.grow b hf with g | g
      · exact hn g
      · have := (Array.getElem?_eq_some_iff.1 hb).1; omega
    have a4 := nf _ _ _ h4.h4 rfl rfl h4.nf.1
    have a5 := nf _ _ _ h4.h5 rfl rfl h4.nf.2.1
    have a6 := nf _ _ _ h4.h6 rfl rfl h4.nf.2.2.1
    have a7 := nf _ _ _ h4.h7 rfl rfl h4.nf.2.2.2
    exact ⟨_, ⟨h1, h2, .inr ⟨rfl, n2, n3, by rw [hac, h3], rfl⟩⟩, hsh.ordk hok, SK.refl, hR.row, a4.1, a5.1, a6.1, a7.1, a4.2, a5.2, a6.2, a7.2⟩
end
end Go.Bt
end
section
namespace Go.Bt
variable [Gnd]
open Go.Conc Go.ConcN Go.RowKit Go.Proofs
open Go.Sx (Rly RV pz pzo pz_heap spec isWg Gud Co blk RowE Rd Mem CallV vInt CallI CallsTo Tame ev evs Sub SW sw_region ow_val ow_nil ow_guard_yes val_move val_assign val_eql_nilptr tame_nilptr val_nilCheck tame_nilCheck val_fieldAddr val_load val_eql_chan tame_chan val_pick_false val_pick_true tame_func val_eql_int tame_int val_makeFunc callI_of_pt Pt pt_seq pt_sw pt_true pt_ret pt_back pt_region pt_regionEnd pt_val pt_block pt_inBlock pt_if pt_skip pt_call callsTo acts_box res_nothing re_fall ReI Lf Stb bin_ok run_eql_of tame_callv vEnded)
section
variable {Wg : Nat} {c : Cl} {i : Nat} {e : Go.Bt.Ent} {bo : Nat}
theorem eqIn_nil {P : Program} {T : TypeId} {ps rs : Array TypeId} {vr : Bool} (d : Nat) (hT : P.underlying T = some (.func ps rs vr)) (w : World) : (Op.equalIn (d + 1) T .nilFunc .nilFunc).run P w = .ok true w := by
  simp [Op.equalIn, run_underlying hT]
theorem val_eql_nilfunc {P : Program} {n : Nat} {F : Go.Sx.Fr} {S : World → Prop} {ty : TypeId} {T V : TypeId} {ps rs : Array TypeId} {vr : Bool} {x y : Operand} (hT : P.underlying T = some (.func ps rs vr)) (hx : ev F x = some .nilFunc) (hy : ev F y = some .nilFunc) :
    Go.Sx.Val P n F S (.binOp .eql T x y V) ty (.bool true) :=
  bin_ok hx hy (fun w => by unfold eqGuard; simp) fun w => run_eql_of (eqIn_nil 9999 hT w) rfl
set_option maxRecDepth 100000 in
theorem until_guard0 [C : Co Try.prog] {v : World} {y : Value} (hr : TRow e y v) : SW Try.prog 29 gd20 [(0, vPtr e.T), (1, .nilFunc)] (fun u => RV v u) (fun ex F' u => ex = .normal ∧ Sub [(17, .bool true)] F' ∧ RV v u) := by
  show SW Try.prog 29 (Code.region 0 _ false) _ _ _
  refine sw_region ?_
  refine ow_val (val_move (v := vPtr e.T) rfl) rfl ?_
  refine ow_val (val_eql_nilptr Try.underlying44 rfl rfl) rfl ?_ (tame_nilptr rfl rfl (.inl rfl))
  refine ow_val (val_move (v := .bool false) rfl) rfl ?_
  refine ow_guard_yes rfl (t := 7) rfl rfl ?_
  refine ow_val (val_move (v := vPtr e.T) rfl) rfl ?_
  refine ow_guard_yes rfl (t := 7) rfl rfl ?_
  refine ow_val (val_nilCheck (a := ⟨e.T, 0, none⟩) rfl) rfl ?_ (tame_nilCheck rfl)
  refine ow_guard_yes rfl (t := 7) rfl rfl ?_
  refine ow_val (val_fieldAddr (b := e.T) (o := 0) rfl Try.underlying48 rfl rfl Try.sizeOf45 rfl) rfl ?_
  refine ow_guard_yes rfl (t := 7) rfl rfl ?_
  refine ow_val (val_load rfl Try.isAgg45 (v := vCh e.gr) (fun w h => hr.cell h 0)) rfl ?_
  refine ow_guard_yes rfl (t := 7) rfl rfl ?_
  refine ow_val (val_eql_chan Try.underlying45 rfl rfl) rfl ?_ (tame_chan rfl rfl (.inl rfl))
  refine ow_val (val_pick_false (v := .bool false) rfl rfl) rfl ?_
  refine ow_val (val_move (v := .bool false) rfl) rfl ?_
  refine ow_guard_yes rfl (t := 14) rfl rfl ?_
  refine ow_val (val_move (v := .nilFunc) rfl) rfl ?_
  refine ow_guard_yes rfl (t := 14) rfl rfl ?_
  refine ow_val (val_eql_nilfunc Try.underlying24 rfl rfl) rfl ?_ (tame_func rfl (.inl rfl) rfl (.inl rfl))
  refine ow_val (val_pick_false (v := .bool true) rfl rfl) rfl ?_
  exact ow_nil fun w hw => ⟨rfl, ⟨rfl, trivial⟩, hw⟩
set_option maxRecDepth 100000 in
/-- Until(nil). -/
theorem until_nil {x : Int × World} {v : World} {y : Value} (hr : TRow e y v) : CallI (coAct Try.prog Wg c i e bo) 20 #[vPtr e.T, .nilFunc] x v (fun r x' u => r = .returned (.tuple #[]) ∧ x' = x ∧ RV v u) := by
  refine callI_of_pt (vs := [vPtr e.T, .nilFunc]) Try.func20 rfl rfl fun cf cs h1 h2 => ?_
  refine pt_seq (pt_seq ?_)
  refine Pt.imp (M' := fun u => RV v u) (fun u hu => hu ▸ RV.refl _) ?_
  refine pt_sw (Q := fun ex F' u => ex = .normal ∧ Sub [(17, .bool true)] F' ∧ RV v u) (by decide) ?_ (fun F' u hq => ?_) (fun ex F' u hne hq => hne hq.1)
  · exact until_guard0 (C := coAct Try.prog Wg c i e bo x) hr
  obtain ⟨-, hs, hrv⟩ := hq
  refine Pt.weaken hs (M' := fun u => RV v u) (fun u hu => hu ▸ hrv) ?_
  exact pt_true rfl (pt_ret (fn := Try.f20) (v := .tuple #[]) Try.func20 rfl (fun a _ => res_nothing rfl a) fun w hw => h1 _ x w (hw.mono fun u hu => ⟨rfl, rfl, hu⟩))
theorem RdyV.of {f : FuncId} {fn : Func} {cd : Code} {first cap : Array Value} (hf : Try.prog.funcs[f]? = some fn) (hb : fn.body = some cd) (hn : (fn.name == "runtime.NumGoroutine") = false) [Go.Sx.FnOk Try.prog f] : RdyV (.func (.func f) first cap) f (first ++ #[] ++ cap) where
  calls := fun {n F S ty x} hx => callsToV (xs := []) (vs := []) (ts := #[]) hx hf hb hn rfl
  tame := fun {n F ty x} hx => tame_callv hx
  fn := ⟨_, _, _, rfl⟩
end
section
variable {u0 : World} {sb : Nat} {pv : Value} {i : Nat} {e : Ent} {b4 b5 b6 b7 : Nat} {o : Ins}
theorem rc_wait (ho : o.1 = 3) : RC u0 sb pv i e b4 b5 b6 b7 o 60 #[vPtr b4, vPtr b6] := fun C kn B v hsh hT hL h1 h2 =>
  (wait_v hsh hL.h4 hL.h6).mono fun r u ⟨hr, hrv⟩ => by
    refine ⟨?_, ?_, SK.of_rv hsh.rt hrv⟩
    · unfold rdyA
      rw [if_pos ho]
      by_cases h : o.2 ≤ (B.notes.length : Int)
      · rw [if_pos h]; simp only; rw [hr, decide_eq_true h]
      · rw [if_neg h]; simp only; rw [hr, decide_eq_false h]
    · unfold rdyB; rw [if_neg (by omega)]; exact hsh.rv hrv
theorem rc_flag (ho : o.1 = 4) : RC u0 sb pv i e b4 b5 b6 b7 o 61 #[vPtr b4, vPtr b6] := fun C kn B v hsh hT hL h1 h2 =>
  (flag_v hsh (by omega) hL.h4 hL.h6).mono fun r u ⟨hr, hrv⟩ => by
    refine ⟨?_, ?_, SK.of_rv hsh.rt hrv⟩
    · unfold rdyA
      rw [if_neg (by omega), if_pos ho]
      cases h : stands B.notes o.2 with
      | true => rw [if_pos rfl]; simp only; rw [hr, h]
      | false => rw [if_neg (by simp)]; simp only; rw [hr, h]
    · unfold rdyB; rw [if_neg (by omega)]; exact hsh.rv hrv
theorem rc_never (ho : o.1 = 6) : RC u0 sb pv i e b4 b5 b6 b7 o 63 #[] := fun C kn B v hsh hT hL h1 h2 =>
  (never_v (v := v)).mono fun r u ⟨hr, hrv⟩ => by
    refine ⟨?_, ?_, SK.of_rv hsh.rt hrv⟩
    · unfold rdyA
      rw [if_neg (by omega), if_neg (by omega), if_neg (by omega), if_neg (by omega), if_neg (by omega)]
      exact hr
    · unfold rdyB; rw [if_neg (by omega)]; exact hsh.rv hrv
theorem rc_broken (ho : o.1 = 8) : RC u0 sb pv i e b4 b5 b6 b7 o 35 #[vPtr sb] := fun C kn B v hsh hT hL h1 h2 =>
  (broken_v hsh).mono fun r u ⟨x, hr, hrv⟩ => by
    refine ⟨?_, ?_, SK.of_rv hsh.rt hrv⟩
    · unfold rdyA
      rw [if_neg (by omega), if_neg (by omega), if_neg (by omega), if_pos ho]
      exact ⟨x, hr⟩
    · unfold rdyB; rw [if_neg (by omega)]; exact hsh.rv hrv
theorem rc_asked (ho : o.1 = 10) : RC u0 sb pv i e b4 b5 b6 b7 o 64 #[vPtr b7, vPtr b4, vPtr b5, vPtr b6] := fun C kn B v hsh hT hL h1 h2 =>
  (asked_v hsh h1 h2 hL.h4 hL.h5 hL.h6 hL.h7 ⟨_, _, hT⟩ hL.nf.2.2.1).mono fun r u ⟨hr, hs, hk⟩ => by
    refine ⟨?_, ?_, hk⟩
    · unfold rdyA
      rw [if_neg (by omega), if_neg (by omega), if_neg (by omega), if_neg (by omega), if_pos ho]
      by_cases h : o.2 ≤ (kn : Int)
      · rw [if_pos h]; simp only; rw [hr, decide_eq_true h]
      · rw [if_neg h]; simp only; rw [hr, decide_eq_false h]
    · unfold rdyB; rw [if_pos ho]; exact hs
end
end Go.Bt
end
section
namespace Go.Bt
variable [Gnd]
open Go.Conc Go.ConcN Go.RowKit Go.Proofs
open Go.Sx (Rly RV pz pzo pz_heap spec isWg Gud Co blk RowE Rd Mem CallV vInt CallI CallsTo Tame ev evs Sub SW val_move val_assign val_nilCheck tame_nilCheck val_fieldAddr val_load val_load_at val_eql_int tame_int val_makeFunc callI_of_pt Pt pt_seq pt_sw pt_true pt_ret pt_back pt_region pt_regionEnd pt_val pt_block pt_inBlock pt_if pt_skip pt_call callsTo acts_box res_nothing re_fall ReI Lf Stb tame_callv vEnded ev_eval)
section
variable {u0 : World} {sb : Nat} {pv : Value} {ps : List (List Ins)} {qs : List Int} {calm : Bool} {Wg i : Nat} {e : Ent} {bo j b4 b5 b6 b7 kn : Nat} {o : Ins} {x : Int × World} {v : World}
abbrev UT (ps : List (List Ins)) (qs : List Int) (calm : Bool) (u0 : World) (sb : Nat) (pv : Value) (i : Nat) (e : Ent) (j : Nat) := UntilT (QB ps qs calm u0 sb pv i e (j + 1)) (QF (clOf ps qs calm u0 sb pv) i)
theorem val_makeFunc1 {P : Program} {n : Nat} {F : Go.Sx.Fr} {S : World → Prop} {ty : TypeId} {fn : Fn} {first cap : Array Operand} {fs vs : Array Value} (h1 : ∀ a, Go.Sx.Fits n F a → first.map a.eval = fs) (h : ∀ a, Go.Sx.Fits n F a → cap.map a.eval = vs) : Go.Sx.Val P n F S (.makeFunc fn first cap) ty (.func fn fs vs) :=
  fun a w hf _ d ps af g => by simp [execOp, Instr.makeFunc, h1 a hf, h a hf]
/-- The call of Until, and the end. -/
theorem until_ask {t p : Nat} {ops : Array Oper} {ty : TypeId} {pss : String} {af : Array Edge} {ts : Array TypeId} {F : Go.Sx.Fr} {M : World → Prop} [Stb M] {vf : Value} {y : Operand} {f : FuncId} {args : Array Value} {jx : Nat} {cf : Frame} {cs : List Frame} (hP : Pre ps qs (clOf ps qs calm u0 sb pv).K)
    (hv : RdyV vf f args) (hRC : RC u0 sb pv i e b4 b5 b6 b7 o f args) (ho : ops[jx]? = some ⟨some t, .call { callee := .value (.func 20), args := #[.tmp p, y], argTypes := ts }, ty, pss, af, none⟩) (hev : evs F [.tmp p, y] = some [vPtr e.T, vf]) (ht : Nat.blt t 39 = true)
    (hx : x.1 = kn) (hM : ∀ w, M w → QA ps qs calm u0 sb pv i e j b4 b5 b6 b7 o true kn (pz x.2) w)
    (h1 : ∀ r x' w', Lf (UT ps qs calm u0 sb pv i e j (.returned r) x') w' → ReI (coAct Try.prog Wg (clOf ps qs calm u0 sb pv) i e bo) x' (G (cf.finish r) cs) w') (h2 : ∀ ch x' w', Lf (UT ps qs calm u0 sb pv i e j (.panicked ch) x') w' → ReI (coAct Try.prog Wg (clOf ps qs calm u0 sb pv) i e bo) x' (G (cf.raise ch) cs) w') :
    Pt (coAct Try.prog Wg (clOf ps qs calm u0 sb pv) i e bo) 39 (Go.Sx.fr0 36) (cf :: cs) x [.inRegion ops [jx], .inBlock 0] F M := by
  have hA := asks_of (Wg := Wg) (bo := bo) (j := j) (b4 := b4) (b5 := b5) (b6 := b6) (b7 := b7) (o := o) (e := e) hP hRC
  refine pt_call (T := fun _ => UT ps qs calm u0 sb pv i e j) (by decide) ho (callsTo (xs := [.tmp p, y]) (vs := [vPtr e.T, vf]) Try.func20 rfl (by decide) hev) (by infer_instance) (fun w hw => until_callI (cl_ok hP.n) hv hA hx (hM w hw)) (fun t' ht' => by cases ht'; exact ht) (fun w r x' hw => ?_) (fun w ch x' hw a w' hf hl => ?_)
  · refine Pt.world fun u hu => ?_
    obtain ⟨rfl, k1, hk1, hB⟩ := hu
    refine Pt.imp (M' := fun z => RV u z) (fun z hz => hz ▸ RV.refl _) ?_
    refine pt_regionEnd (pt_inBlock ?_)
    exact pt_back (fn := Try.f36) (v := .tuple #[]) Try.func36 rfl (fun a _ => res_nothing rfl a) fun w hw => h1 _ x' w (hw.mono fun z hz => ⟨rfl, k1, hk1, hA.rvB hB hz⟩)
  · exact re_fall Try.func36 hf.defers (h2 ch x' w' hl)
set_option maxRecDepth 100000 in
set_option maxHeartbeats 4000000 in
/-- ████ UNTIL. ████ -/
theorem until_i (hP : Pre ps qs (clOf ps qs calm u0 sb pv).K) {B : Bd} (hx : x.1 = kn) (hR : InRun ps qs (clOf ps qs calm u0 sb pv).K i kn j B) (hj : (ps.getD i [])[j]? = some o) (n1 : o.1 ≠ 1) (n9 : o.1 ≠ 9) (n2 : o.1 ≠ 2) (n7 : o.1 ≠ 7) (n11 : o.1 ≠ 11)
    (hsh : ShS u0 sb pv B v) (hsk : SK sb (pz x.2) v) (hT : TRow e (vI kn) v) :
    CallI (coAct Try.prog Wg (clOf ps qs calm u0 sb pv) i e bo) 36 #[vPtr sb, vI i, .agg #[vI o.1, vI o.2], vPtr e.T] x v (UT ps qs calm u0 sb pv i e j) := by
  refine callI_of_pt (vs := [vPtr sb, vI i, .agg #[vI o.1, vI o.2], vPtr e.T]) Try.func36 rfl rfl fun cf cs h1 h2 => ?_
  refine Pt.imp (M' := Mem v [] []) (fun w hw => hw ▸ Mem.refl v) ?_
  refine pt_seq (pt_region ?_)
  refine pt_new (by decide) rfl (acts_box (v := vPtr sb) rfl) rfl fun b4 hb4 => ?_
  refine pt_new (by decide) rfl (acts_box (v := vI i) rfl) rfl fun b5 hb5 => ?_
  refine pt_new (by decide) rfl (acts_box (v := .agg #[vI o.1, vI o.2]) rfl) rfl fun b6 hb6 => ?_
  refine pt_new (by decide) rfl (acts_box (v := vPtr e.T) rfl) rfl fun b7 hb7 => ?_
  refine Pt.imp (M' := Mem v [] [some (b7, blk [vPtr e.T] 44), some (b6, blk [vI o.1, vI o.2] 61), some (b5, blk [vI i] 3), some (b4, blk [vPtr sb] 27)]) (fun _ h => h) ?_
  have hnf : ∀ b, v.heap.size ≤ b → ∀ w, RV v w → ¬ footS sb w b := fun b hb w hw hf => by
    have hf := (foot_ordk hsh.rt (OrdK.of_rv (n := 0) hw) b).2 hf
    obtain ⟨bs, pk, eb, ep, hS⟩ := hsh
    rcases hS.foot hf with rfl | ⟨c, hc⟩ | ⟨c, hc⟩
    · have := (Array.getElem?_eq_some_iff.1 hS.st).1; omega
    · have := (Array.getElem?_eq_some_iff.1 (hS.hb _ _ hc).1).1; omega
    · have := (Array.getElem?_eq_some_iff.1 (hS.hp _ _ hc).1).1; omega
  have hQA : isUntil o.1 = true → ∀ w, Mem v [] [some (b7, blk [vPtr e.T] 44), some (b6, blk [vI o.1, vI o.2] 61), some (b5, blk [vI i] 3), some (b4, blk [vPtr sb] 27)] w → QA ps qs calm u0 sb pv i e j b4 b5 b6 b7 o true kn (pz x.2) w := fun hu w hw => by
    have hr := Mem.rv hw
    exact ⟨B, ⟨hj, hu, .inl ⟨rfl, hR⟩⟩, hsh.rv hr, hsk.rv hsh.rt hr, TRow.rv' hT hr, hw.own _ _ (by simp), hw.own _ _ (by simp), hw.own _ _ (by simp), hw.own _ _ (by simp), hnf _ hb4 _ hr, hnf _ hb5 _ hr, hnf _ hb6 _ hr, hnf _ hb7 _ hr⟩
  refine pt_regionEnd (pt_seq (pt_region ?_))
  refine pt_val (by decide) rfl (val_fieldAddr (b := b6) (o := 0) (e := 0) rfl Try.underlying61 rfl rfl Try.sizeOf3 rfl) rfl ?_
  refine pt_val (by decide) rfl (val_load_at (v := vI o.1) 1 rfl rfl Try.isAgg3 rfl) rfl ?_
  refine pt_regionEnd (pt_block (pt_seq (pt_region ?_)))
  refine pt_val (by decide) rfl (val_eql_int (a := o.1) (b := 3) rfl rfl) rfl ?_ (tame_int rfl rfl)
  refine pt_val (by decide) rfl (val_assign (v := .bool (decide (o.1 = 3))) rfl) rfl ?_
  refine pt_regionEnd (pt_if rfl (fun h3 => ?_) (fun h3 => pt_seq (pt_region ?_)))
  · refine pt_region ?_
    refine pt_val (by decide) rfl (val_load_at (v := vPtr e.T) 0 rfl rfl Try.isAgg44 rfl) rfl ?_
    refine pt_val (by decide) rfl (val_makeFunc (vs := #[vPtr b4, vPtr b6]) (fun a hf => ?_)) rfl ?_
    · simp only [List.map_toArray, List.map_cons, List.map_nil]
      rw [ev_eval hf (x := .tmp 4) (v := vPtr b4) rfl, ev_eval hf (x := .tmp 6) (v := vPtr b6) rfl]
    exact until_ask hP (RdyV.of Try.func60 rfl (by decide)) (rc_wait h3) rfl rfl rfl hx (hQA (by rw [h3]; rfl)) h1 h2
  refine pt_val (by decide) rfl (val_eql_int (a := o.1) (b := 4) rfl rfl) rfl ?_ (tame_int rfl rfl)
  refine pt_val (by decide) rfl (val_assign (v := .bool (decide (o.1 = 4))) rfl) rfl ?_
  refine pt_regionEnd (pt_if rfl (fun h4 => ?_) (fun h4 => pt_seq (pt_region ?_)))
  · refine pt_region ?_
    refine pt_val (by decide) rfl (val_load_at (v := vPtr e.T) 0 rfl rfl Try.isAgg44 rfl) rfl ?_
    refine pt_val (by decide) rfl (val_makeFunc (vs := #[vPtr b4, vPtr b6]) (fun a hf => ?_)) rfl ?_
    · simp only [List.map_toArray, List.map_cons, List.map_nil]
      rw [ev_eval hf (x := .tmp 4) (v := vPtr b4) rfl, ev_eval hf (x := .tmp 6) (v := vPtr b6) rfl]
    exact until_ask hP (RdyV.of Try.func61 rfl (by decide)) (rc_flag h4) rfl rfl rfl hx (hQA (by rw [h4]; rfl)) h1 h2
  refine pt_val (by decide) rfl (val_eql_int (a := o.1) (b := 5) rfl rfl) rfl ?_ (tame_int rfl rfl)
  refine pt_val (by decide) rfl (val_assign (v := .bool (decide (o.1 = 5))) rfl) rfl ?_
  refine pt_regionEnd (pt_if rfl (fun h5 => ?_) (fun h5 => pt_seq (pt_region ?_)))
  · refine pt_region ?_
    refine pt_val (by decide) rfl (val_load_at (v := vPtr e.T) 0 rfl rfl Try.isAgg44 rfl) rfl ?_
    refine pt_call (T := fun w r x' u => r = .returned (.tuple #[]) ∧ x' = x ∧ RV w u) (by decide) rfl (callsTo (xs := [.tmp 22, .const .nilFunc]) (vs := [vPtr e.T, .nilFunc]) Try.func20 rfl (by decide) rfl) (by infer_instance) (fun w hw => until_nil (TRow.rv' hT (Mem.rv hw))) (fun t' ht' => by cases ht'; rfl) (fun w r x' hw => ?_) (fun w ch x' hw a w' hf hl => ?_)
    · refine Pt.world fun u hu => ?_
      obtain ⟨hr, rfl, hru⟩ := hu
      refine Pt.imp (M' := fun z => RV v z) (fun z hz => hz ▸ (Mem.rv hw).trans hru) ?_
      refine pt_regionEnd (pt_inBlock ?_)
      have hyes : InRun ps qs (clOf ps qs calm u0 sb pv).K i kn (j + 1) B := by
        have h0 : AtQ ps qs (clOf ps qs calm u0 sb pv).K i j o true kn B := ⟨hj, by rw [h5]; rfl, .inl ⟨rfl, hR⟩⟩
        have h1 := h0.yes hP (by unfold rdyA; rw [if_neg (by omega), if_neg (by omega), if_pos h5])
        unfold rdyB at h1
        rw [if_neg (by omega)] at h1
        exact h1
      exact pt_back (fn := Try.f36) (v := .tuple #[]) Try.func36 rfl (fun a _ => res_nothing rfl a) fun w hw => h1 _ x' w (hw.mono fun z hz => ⟨rfl, kn, hx, B, hyes, hsh.rv hz, hsk.rv hsh.rt hz, TRow.rv' hT hz⟩)
    · obtain ⟨z, ⟨hr, _⟩, _⟩ := hl
      cases hr
  refine pt_val (by decide) rfl (val_eql_int (a := o.1) (b := 6) rfl rfl) rfl ?_ (tame_int rfl rfl)
  refine pt_val (by decide) rfl (val_assign (v := .bool (decide (o.1 = 6))) rfl) rfl ?_
  refine pt_regionEnd (pt_if rfl (fun h6 => ?_) (fun h6 => pt_seq (pt_region ?_)))
  · refine pt_region ?_
    refine pt_val (by decide) rfl (val_load_at (v := vPtr e.T) 0 rfl rfl Try.isAgg44 rfl) rfl ?_
    exact until_ask hP (RdyV.of (first := #[]) (cap := #[]) Try.func63 rfl (by decide)) (rc_never h6) rfl rfl rfl hx (hQA (by rw [h6]; rfl)) h1 h2
  refine pt_val (by decide) rfl (val_eql_int (a := o.1) (b := 8) rfl rfl) rfl ?_ (tame_int rfl rfl)
  refine pt_val (by decide) rfl (val_assign (v := .bool (decide (o.1 = 8))) rfl) rfl ?_
  refine pt_regionEnd (pt_if rfl (fun h8 => ?_) (fun h8 => pt_seq (pt_region ?_)))
  · refine pt_region ?_
    refine pt_val (by decide) rfl (val_load_at (v := vPtr e.T) 0 rfl rfl Try.isAgg44 rfl) rfl ?_
    refine pt_val (by decide) rfl (val_load_at (v := vPtr sb) 3 rfl rfl Try.isAgg27 rfl) rfl ?_
    refine pt_val (by decide) rfl (val_makeFunc1 (fs := #[vPtr sb]) (vs := #[]) (fun a hf => ?_) (fun a hf => by simp)) rfl ?_
    · simp only [List.map_toArray, List.map_cons, List.map_nil]
      rw [ev_eval hf (x := .tmp 31) (v := vPtr sb) rfl]
    exact until_ask hP (RdyV.of (first := #[vPtr sb]) (cap := #[]) Try.func35 rfl (by decide)) (rc_broken h8) rfl rfl rfl hx (hQA (by rw [h8]; rfl)) h1 h2
  refine pt_val (by decide) rfl (val_eql_int (a := o.1) (b := 10) rfl rfl) rfl ?_ (tame_int rfl rfl)
  refine pt_val (by decide) rfl (val_assign (v := .bool (decide (o.1 = 10))) rfl) rfl ?_
  refine pt_regionEnd (pt_if rfl (fun h10 => ?_) (fun h10 => ?_))
  · refine pt_region ?_
    refine pt_val (by decide) rfl (val_load_at (v := vPtr e.T) 0 rfl rfl Try.isAgg44 rfl) rfl ?_
    refine pt_val (by decide) rfl (val_makeFunc (vs := #[vPtr b7, vPtr b4, vPtr b5, vPtr b6]) (fun a hf => ?_)) rfl ?_
    · simp only [List.map_toArray, List.map_cons, List.map_nil]
      rw [ev_eval hf (x := .tmp 7) (v := vPtr b7) rfl, ev_eval hf (x := .tmp 4) (v := vPtr b4) rfl, ev_eval hf (x := .tmp 5) (v := vPtr b5) rfl, ev_eval hf (x := .tmp 6) (v := vPtr b6) rfl]
    exact until_ask hP (RdyV.of Try.func64 rfl (by decide)) (rc_asked h10) rfl rfl rfl hx (hQA (by rw [h10]; rfl)) h1 h2
  · refine pt_skip (pt_inBlock ?_)
    have hu : isUntil o.1 = false := by
      unfold isUntil
      simp only [Bool.or_eq_false_iff, Bool.and_eq_false_iff, decide_eq_false_iff_not, beq_eq_false_iff_ne]
      omega
    have hyes := hR.skip hj n1 n9 n2 hu n7 n11
    refine Pt.imp (M' := fun z => RV v z) (fun z hz => Mem.rv hz) ?_
    exact pt_back (fn := Try.f36) (v := .tuple #[]) Try.func36 rfl (fun a _ => res_nothing rfl a) fun w hw => h1 _ x w (hw.mono fun z hz => ⟨rfl, kn, hx, B, hyes, hsh.rv hz, hsk.rv hsh.rt hz, TRow.rv' hT hz⟩)
end
end Go.Bt
end
section
namespace Go.Bt
variable [Gnd]
open Go.Conc Go.ConcN Go.RowKit Go.Proofs
open Go.Sx (Rly RV pz pzo pz_heap spec isWg Gud Co blk RowE Rd Mem CallV vInt CallI CallsTo Tame ev evs Sub SW val_move val_assign val_nilCheck tame_nilCheck val_fieldAddr val_load val_load_at val_load_all val_load_elem val_eql_int val_lss_int val_add_int val_len val_indexAddr_slice tame_int val_makeFunc callI_of_pt Pt pt_seq pt_sw pt_true pt_ret pt_back pt_region pt_regionEnd pt_val pt_block pt_inBlock pt_exit pt_if pt_skip pt_do pt_call pt_loop_inv callsTo acts_box acts_alloc does_store_all res_nothing re_fall ReI Lf Stb tame_callv vEnded ev_eval pick_v)
/-- Cells of ordinary blocks of before. -/
def ORd (u0 : World) (sb : Nat) (a : Option Addr) (xs : List Value) : Prop := ∀ j v, xs[j]? = some v → ∃ b o, a = some ⟨b, o, none⟩ ∧ u0.cell? ⟨b, o + j, none⟩ = some v ∧ OldO u0 sb b
/-- The programs lie in the world before. -/
structure Prg (u0 : World) (sb : Nat) (pv : Value) (ps : List (List Ins)) : Prop where
  ex : ∃ pa pc, pv = .slice pa ps.length pc ∧ ∀ i p, ps[i]? = some p → ∃ b o a c, pa = some ⟨b, o, none⟩ ∧ u0.cell? ⟨b, o + i, none⟩ = some (.slice a p.length c) ∧ OldO u0 sb b ∧ ORd u0 sb a (flatB p)
  len : ∀ p ∈ ps, p.length ≤ 4611686018427387904
section
variable {u0 : World} {sb : Nat} {pv : Value} {ps : List (List Ins)} {qs : List Int} {calm : Bool} {Wg i : Nat} {e : Ent} {bo j kn : Nat} {x : Int × World} {v : World}
theorem ShS.oldc {B : Bd} (h : ShS u0 sb pv B v) {b o : Nat} {y : Value} (hc : u0.cell? ⟨b, o, none⟩ = some y) (ho : OldO u0 sb b) : v.cell? ⟨b, o, none⟩ = some y := by
  obtain ⟨bs, pk, eb, ep, hS⟩ := h
  obtain ⟨ob, h1, h2, h3, h5⟩ := ho
  unfold World.cell? at hc ⊢
  simp only [h1] at hc
  simp only [hS.old b ob h1 h2 h3 h5]
  exact hc
theorem ShS.oldrd {B : Bd} (h : ShS u0 sb pv B v) {a : Option Addr} {xs : List Value} (hr : ORd u0 sb a xs) : Rd v a xs := fun j y hy => by
  obtain ⟨b, o, h1, h2, h3⟩ := hr j y hy
  exact ⟨b, o, h1, h.oldc h2 h3⟩
/-- Where it begins. -/
theorem inrun_begin (hP : Pre ps qs (clOf ps qs calm u0 sb pv).K) (hN : Next (clOf ps qs calm u0 sb pv) i (-1) kn) : InRun ps qs (clOf ps qs calm u0 sb pv).K i kn 0 (macN ps qs kn).bd := by
  obtain ⟨-, h2, h3, h4, h5⟩ := hN
  have h3 : whoOf ps.length qs kn = i := h3
  have hac : acN ps qs i kn = ⟨-1, false, false⟩ := by
    have := ac_same (ps := ps) (qs := qs) hP.n (i := i) (k := 0) kn (fun m _ m2 => h5 m (by omega) (by omega))
    rw [Nat.zero_add] at this
    rw [this, ac_zero]
  have e : acPick i kn (ps.getD i []) (acN ps qs i kn) (macN ps qs kn).bd = ((runL i kn (ps.getD i []) 0 (macN ps qs kn).bd).1, (runL i kn (ps.getD i []) 0 (macN ps qs kn).bd).2, true) := by
    unfold acPick
    rw [hac]
    simp
  subst h3
  refine ⟨h2, rfl, ?_, ?_, ?_⟩
  · rw [ac_step hP.n, e]; rfl
  · rw [bd_step hP.n, e]; rfl
  · unfold movedN; rw [e]
/-- .. and goes on behind a Step. -/
theorem inrun_on (hP : Pre ps qs (clOf ps qs calm u0 sb pv).K) {kn' : Nat} (hN : Next (clOf ps qs calm u0 sb pv) i kn kn') (ha : acN ps qs i (kn + 1) = ⟨(j : Nat), false, false⟩) : InRun ps qs (clOf ps qs calm u0 sb pv).K i kn' j (macN ps qs kn').bd := by
  obtain ⟨h1, h2, h3, h4, h5⟩ := hN
  have h3 : whoOf ps.length qs kn' = i := h3
  have hac : acN ps qs i kn' = ⟨j, false, false⟩ := by
    have := ac_same (ps := ps) (qs := qs) hP.n (i := i) (k := kn + 1) (kn' - (kn + 1)) (fun m m1 m2 => h5 m (by omega) (by omega))
    rw [show kn + 1 + (kn' - (kn + 1)) = kn' by omega] at this
    rw [this, ha]
  have e : acPick i kn' (ps.getD i []) (acN ps qs i kn') (macN ps qs kn').bd = ((runL i kn' ((ps.getD i []).drop j) j (macN ps qs kn').bd).1, (runL i kn' ((ps.getD i []).drop j) j (macN ps qs kn').bd).2, true) := by
    unfold acPick
    rw [hac]
    simp only [Bool.false_eq_true, if_false, Int.toNat_natCast]
    rw [if_neg (by omega)]
  subst h3
  refine ⟨h2, rfl, ?_, ?_, ?_⟩
  · rw [ac_step hP.n, e]
  · rw [bd_step hP.n, e]
  · unfold movedN; rw [e]
/-- The actor stands at place j. -/
structure AI (ps : List (List Ins)) (qs : List Int) (K : Nat) (u0 : World) (sb : Nat) (pv : Value) (i : Nat) (e : Ent) (len : Nat) (y : (Int × World) × Nat × World) : Prop where
  ex : ∃ (kn : Nat) (B : Bd), y.1.1 = kn ∧ InRun ps qs K i kn y.2.1 B ∧ ShS u0 sb pv B y.2.2 ∧ SK sb (pz y.1.2) y.2.2 ∧ TRow e (vI kn) y.2.2
  le : y.2.1 ≤ len
end
end Go.Bt
end
