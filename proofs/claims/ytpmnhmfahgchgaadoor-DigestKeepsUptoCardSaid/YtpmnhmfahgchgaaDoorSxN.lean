import Derived.Test.YtpmnhmfahgchgaaDoorSxR
import Derived.Deep.Slices
set_option linter.unusedVariables false
set_option linter.unusedSimpArgs false
namespace Go.Sx
open Go.ChangeShapes Go.WideShapes Go.ChangeAt Go.RowKit

/-- A slice that is read: its place, its room, its elements. -/
structure Sl (α : Type) where
  a : Option Addr
  c : Nat
  xs : List α
instance {α : Type} : Inhabited (Sl α) := ⟨⟨none, 0, []⟩⟩
def Sl.v {α : Type} (s : Sl α) : Value := .slice s.a s.xs.length s.c
def Sl.nil {α : Type} : Sl α := ⟨none, 0, []⟩
/-- What holds of it in a world. -/
structure Sl.ok {α : Type} (cl : α → List Value) (bsz : Nat) (kk : World → α → Prop) (w : World) (s : Sl α) : Prop where
  rd : Rd w s.a (s.xs.flatMap cl)
  le : s.xs.length ≤ s.c
  max : s.c ≤ maxLen
  bytes : s.c * bsz ≤ 140737488351232
  each : ∀ x ∈ s.xs, kk w x
def Sl.sz {α : Type} (sz : α → Nat) (s : Sl α) : Nat := s.c + (s.xs.map sz).sum

/-- How a bulk counts. -/
structure Bulk {H : Type} (B : DataW H → Nat) : Prop where
  pos : ∀ d, 0 < B d
  slice : ∀ el sp, B (.slice el sp) = (el.map B).sum + (sp.map B).sum + 1
  agg : ∀ ps, B (.agg ps) = (ps.map B).sum + 1
  str : ∀ bs, B (.lit (.string bs)) = bs.length + 1

section
variable {H : Type} (enc : TypeId × Value → H) (P : Program) (B : DataW H → Nat)
/-- Cells that read as a datum of the type are those of some x. -/
def Opener {α : Type} (t : TypeId) (cells : α → List Value) (ok : World → α → Prop) (sz : α → Nat) : Prop :=
  ∀ ⦃W : World⦄ ⦃fuel : Nat⦄ ⦃cs : List Value⦄ ⦃d : DataW H⦄ ⦃ps : List MemPlace⦄, DataW.trod enc P W 0 (fun _ => true) true fuel t cs = some (d, ps) →
    (∀ n ∈ d.weights P t, n ≤ reachBytes) → ∃ x, cs = cells x ∧ ok W x ∧ sz x < B d
def noOk {α : Type} : World → α → Prop := fun _ _ => True
def noSz {α : Type} : α → Nat := fun _ => 0
variable {enc P B}

theorem Opener.map {α β : Type} {t : TypeId} {cells : α → List Value} {ok : World → α → Prop} {sz : α → Nat} (h : Opener enc P B t cells ok sz) (g : α → β)
    {cells' : β → List Value} {ok' : World → β → Prop} {sz' : β → Nat} (hc : ∀ W x, ok W x → cells x = cells' (g x)) (ho : ∀ W x, ok W x → ok' W (g x)) (hs : ∀ x, sz' (g x) ≤ sz x) : Opener enc P B t cells' ok' sz' := by
  intro W fuel cs d ps h1 h2
  obtain ⟨x, rfl, hx, hl⟩ := h h1 h2
  exact ⟨g x, hc W x hx, ho W x hx, Nat.lt_of_le_of_lt (hs x) hl⟩

theorem opener_num {α : Type} (V : α → Value) {k : IntKind} (dec : Int → α) (hdec : ∀ z, (Lit.int k z).wf = true → Value.int k z = V (dec z)) (hB : Bulk B) {t : TypeId} (ht : P.underlying t = some (.int k)) :
    Opener enc P B t (fun x => [V x]) noOk noSz := by
  intro W fuel cs d ps h _
  obtain ⟨n, rfl, hx, hw⟩ := DataW.trod_int ht h
  exact ⟨dec n, by rw [hdec n hw], trivial, hB.pos _⟩
theorem dec_u16 (z : Int) (h : (Lit.int .u16 z).wf = true) : Value.int .u16 z = vU16 (UInt16.ofNat z.toNat) := by
  have h1 : IntKind.u16.min = 0 := rfl
  have h2 : IntKind.u16.max = 65535 := rfl
  simp only [Lit.wf, Bool.and_eq_true, decide_eq_true_eq, h1, h2] at h
  unfold vU16; congr 1; rw [UInt16.toNat_ofNat']; omega
theorem opener_u8 (hB : Bulk B) {t : TypeId} (ht : P.underlying t = some (.int .u8)) : Opener enc P B t (fun x => [vU8 x]) noOk noSz := opener_num vU8 _ dec_u8 hB ht
theorem opener_u16 (hB : Bulk B) {t : TypeId} (ht : P.underlying t = some (.int .u16)) : Opener enc P B t (fun x => [vU16 x]) noOk noSz := opener_num vU16 _ dec_u16 hB ht
theorem opener_u32 (hB : Bulk B) {t : TypeId} (ht : P.underlying t = some (.int .u32)) : Opener enc P B t (fun x => [vU32 x]) noOk noSz := opener_num vU32 _ dec_u32 hB ht
theorem opener_u64 (hB : Bulk B) {t : TypeId} (ht : P.underlying t = some (.int .u64)) : Opener enc P B t (fun x => [vU64 x]) noOk noSz := opener_num vU64 _ dec_u64 hB ht
/-- An int within its bounds. -/
def okInt : World → Int → Prop := fun _ z => -9223372036854775808 ≤ z ∧ z ≤ 9223372036854775807
theorem opener_int (hB : Bulk B) {t : TypeId} (ht : P.underlying t = some (.int .i64)) : Opener enc P B t (fun x => [vInt x]) okInt noSz := by
  intro W fuel cs d ps h _
  obtain ⟨n, rfl, hx, hw⟩ := DataW.trod_int ht h
  exact ⟨n, rfl, dec_int n hw, hB.pos _⟩
def okI8 : World → Int → Prop := fun _ z => -128 ≤ z ∧ z ≤ 127
theorem opener_i8 (hB : Bulk B) {t : TypeId} (ht : P.underlying t = some (.int .i8)) : Opener enc P B t (fun x => [.int .i8 x]) okI8 noSz := by
  intro W fuel cs d ps h _
  obtain ⟨n, rfl, hx, hw⟩ := DataW.trod_int ht h
  exact ⟨n, rfl, bounds_i8 hw, hB.pos _⟩
theorem opener_bool (hB : Bulk B) {t : TypeId} (ht : P.underlying t = some .bool) : Opener enc P B t (fun x => [.bool x]) noOk noSz := by
  intro W fuel cs d ps h _
  obtain ⟨n, rfl, hx⟩ := DataW.trod_bool ht h
  exact ⟨n, rfl, trivial, hB.pos _⟩
theorem opener_string (hB : Bulk B) {t : TypeId} (ht : P.underlying t = some .string) : Opener enc P B t (fun x => [.string x]) noOk noSz := by
  intro W fuel cs d ps h _
  obtain ⟨n, rfl, hx, _⟩ := DataW.trod_string ht h
  exact ⟨n, rfl, trivial, hB.pos _⟩

theorem mem_weightsAll {e : TypeId} {l : List (DataW H)} {d : DataW H} (h : d ∈ l) {n : Nat} (hn : n ∈ d.weights P e) : n ∈ DataW.weightsAll P e l := by
  induction l with
  | nil => cases h
  | cons x r ih =>
    simp only [DataW.weightsAll, List.mem_append]
    cases List.mem_cons.1 h with
    | inl e => subst e; exact .inl hn
    | inr e => exact .inr (ih e)

theorem choose_list {α : Type} {p : Nat → α → Prop} : ∀ n : Nat, (∀ i, i < n → ∃ x, p i x) → ∃ l : List α, l.length = n ∧ ∀ i x, l[i]? = some x → p i x
  | 0, _ => ⟨[], rfl, fun i x h => by simp at h⟩
  | n + 1, h => by
    obtain ⟨l, hl, hp⟩ := choose_list n (fun i hi => h i (by omega))
    obtain ⟨y, hy⟩ := h n (by omega)
    refine ⟨l ++ [y], by simp [hl], fun i x hx => ?_⟩
    rcases Nat.lt_or_ge i l.length with hi | hi
    · rw [List.getElem?_append_left hi] at hx; exact hp i x hx
    · rw [List.getElem?_append_right hi] at hx
      have h1 : i - l.length = 0 := by have := (List.getElem?_eq_some_iff.1 hx).1; simpa using this
      rw [h1] at hx
      simp at hx
      subst hx
      have : i = n := by omega
      subst this
      exact hy

/-- Bytes (or other numbers) in an array. -/
theorem opener_arr {α : Type} {n : Nat} {t e : TypeId} {V : α → Value} {ok : World → α → Prop} {sz : α → Nat} (hB : Bulk B) (ht : P.underlying t = some (.array n e)) (hc : P.cellsOf e = 1) (hct : P.cellsOf t = n)
    (ho : Opener enc P B e (fun x => [V x]) ok sz) : Opener enc P B t (fun l => l.map V) (fun w (l : List α) => l.length = n ∧ ∀ x ∈ l, ok w x) noSz := by
  intro W fuel cs d ps h hw
  obtain ⟨xs, m, rfl, hx, hl, hxl, hel⟩ := DataW.trod_array ht h
  have hd : d = .agg (xs.map (·.1)) := congrArg Prod.fst hx
  subst hd
  rw [hct] at hl
  have hw' : ∀ q ∈ DataW.weightsAll P e (xs.map (·.1)), q ≤ reachBytes := fun q hq => hw q (by simp only [DataW.weights, ht]; exact hq)
  have hall : ∀ i, i < n → ∃ x, cs[i]? = some (V x) ∧ ok W x := by
    intro i hi
    have h1 := hel i hi
    rw [hc, Nat.mul_one] at h1
    have h2 : xs[i]? = some xs[i] := by simp
    rw [h2] at h1
    obtain ⟨x, he, hox, _⟩ := ho h1 (fun q hq => hw' q (mem_weightsAll (d := xs[i].1) (List.mem_map_of_mem (by simp)) hq))
    refine ⟨x, ?_, hox⟩
    have h3 := congrArg (·[0]?) he
    simp only [List.getElem?_take, List.getElem?_drop] at h3
    simpa using h3
  obtain ⟨l, hll, hf⟩ := choose_list (α := α) (p := fun i x => cs[i]? = some (V x) ∧ ok W x) n hall
  refine ⟨l, ?_, ⟨hll, ?_⟩, hB.pos _⟩
  · apply List.ext_getElem?
    intro i
    rcases Nat.lt_or_ge i n with hi | hi
    · have h1 : l[i]? = some l[i] := by simp
      rw [(hf i _ h1).1, List.getElem?_map, h1]; rfl
    · rw [List.getElem?_eq_none (by omega), List.getElem?_eq_none (by simp; omega)]
  · intro x hx
    obtain ⟨i, hi⟩ := List.mem_iff_getElem?.1 hx
    exact (hf i _ hi).2

/-- Fields one behind the other: their types and places. -/
def Fields (enc : TypeId × Value → H) (P : Program) (B : DataW H → Nat) {α : Type} (fs : List (TypeId × Nat)) (k : Nat) (cells : α → List Value) (ok : World → α → Prop) (sz : α → Nat) : Prop :=
  ∀ ⦃W : World⦄ ⦃fuel : Nat⦄ ⦃cs : List Value⦄ ⦃xs : List (DataW H × List MemPlace)⦄, xs.length = fs.length →
    (∀ (i : Nat) (t : TypeId) (o : Nat), fs[i]? = some (t, o) → DataW.trod enc P W 0 (fun _ => true) true fuel t ((cs.drop o).take (P.cellsOf t)) = xs[i]?) →
    (∀ n ∈ DataW.weightsEach P (fs.map (·.1)) (xs.map (·.1)), n ≤ reachBytes) → ∃ x, cs.drop k = cells x ++ cs.drop (k + (fs.map fun f => P.cellsOf f.1).sum) ∧ ok W x ∧ sz x ≤ ((xs.map (·.1)).map B).sum
theorem fields_nil {k : Nat} : Fields enc P B [] k (fun (_ : Unit) => []) noOk noSz := by
  intro W fuel cs xs hl _ _
  exact ⟨(), by simp, trivial, Nat.zero_le _⟩
theorem fields_cons {α β : Type} {fs : List (TypeId × Nat)} {k n : Nat} {t : TypeId} {c1 : α → List Value} {o1 : World → α → Prop} {s1 : α → Nat} {c2 : β → List Value} {o2 : World → β → Prop} {s2 : β → Nat}
    (hn : P.cellsOf t = n) (h1 : Opener enc P B t c1 o1 s1) (h2 : Fields enc P B fs (k + n) c2 o2 s2) :
    Fields enc P B ((t, k) :: fs) k (fun (x : α × β) => c1 x.1 ++ c2 x.2) (fun w x => o1 w x.1 ∧ o2 w x.2) (fun x => s1 x.1 + s2 x.2) := by
  intro W fuel cs xs hl hx hw
  cases xs with
  | nil => simp at hl
  | cons y ys =>
    obtain ⟨d, ps⟩ := y
    have hy := hx 0 t k rfl
    rw [hn] at hy
    obtain ⟨x, hcx, hox, hsx⟩ := h1 hy (fun q hq => hw q (by simp only [List.map_cons, DataW.weightsEach, List.mem_append]; exact .inl hq))
    obtain ⟨z, hcz, hoz, hsz⟩ := @h2 W fuel cs ys (by simpa using hl) (fun i u o hg => by simpa using hx (i + 1) u o (by simpa using hg))
      (fun q hq => hw q (by simp only [List.map_cons, DataW.weightsEach, List.mem_append]; exact .inr hq))
    refine ⟨(x, z), ?_, ⟨hox, hoz⟩, by simp only [List.map_cons, List.sum_cons]; omega⟩
    have h3 : cs.drop k = (cs.drop k).take n ++ cs.drop (k + n) := by rw [← List.drop_drop, List.take_append_drop]
    rw [h3, hcx, hcz]
    simp only [List.map_cons, List.sum_cons, hn, List.append_assoc, Nat.add_assoc]
theorem opener_struct {α : Type} {t : TypeId} {fs : Array Field} {L : List (TypeId × Nat)} {cells : α → List Value} {ok : World → α → Prop} {sz : α → Nat} (hB : Bulk B) (ht : P.underlying t = some (.struct fs)) (hfs : fs.toList.map (fun f => (f.type, f.offset)) = L) (hct : P.cellsOf t = (L.map fun f => P.cellsOf f.1).sum)
    (h : Fields enc P B L 0 cells ok sz) : Opener enc P B t cells ok sz := by
  intro W fuel cs d ps h1 hw
  obtain ⟨xs, m, rfl, hx, hl, hxl, hel⟩ := DataW.trod_struct ht h1
  have hd : d = .agg (xs.map (·.1)) := congrArg Prod.fst hx
  subst hd
  subst hfs
  have hmm : (fs.toList.map (fun f => (f.type, f.offset))).map (·.1) = fs.toList.map (·.type) := by rw [List.map_map]; rfl
  obtain ⟨x, hc, ho, hs⟩ := @h W m cs xs (by simpa using hxl) (fun i u o hf => by
    rw [List.getElem?_map, Option.map_eq_some_iff] at hf
    obtain ⟨f, hf, he⟩ := hf
    simp only [Prod.mk.injEq] at he
    obtain ⟨rfl, rfl⟩ := he
    exact hel i f (by simpa using hf)) (fun q hq => hw q (by rw [hmm] at hq; simp only [DataW.weights, ht]; exact hq))
  refine ⟨x, ?_, ho, by rw [hB.agg]; omega⟩
  rw [← hct, Nat.zero_add, List.drop_zero, ← hl, List.drop_length, List.append_nil] at hc
  exact hc

theorem sum_le_bulk {α : Type} {sz : α → Nat} : ∀ (l : List α) (D : Nat → DataW H), (∀ i x, l[i]? = some x → sz x < B (D i)) → l.length + (l.map sz).sum ≤ (((List.range l.length).map D).map B).sum
  | [], _, _ => by simp
  | x :: r, D, h => by
    have ih := sum_le_bulk r (fun i => D (i + 1)) (fun i y hy => h (i + 1) y (by simpa using hy))
    have h1 := h 0 x rfl
    have h2 : ((List.range (r.length + 1)).map D) = D 0 :: (List.range r.length).map (fun i => D (i + 1)) := by
      rw [List.range_succ_eq_map, List.map_cons, List.map_map]; rfl
    simp only [List.length_cons, List.map_cons, List.sum_cons, h2] at *
    omega
theorem len_le_bulk (hB : Bulk B) : ∀ l : List (DataW H), l.length ≤ (l.map B).sum
  | [] => by simp
  | d :: r => by have := len_le_bulk hB r; have := hB.pos d; simp only [List.length_cons, List.map_cons, List.sum_cons]; omega

theorem flatMap_get {α : Type} {cells : α → List Value} {n : Nat} : ∀ (l : List α), (∀ x ∈ l, (cells x).length = n) → ∀ (j : Nat) (v : Value), (l.flatMap cells)[j]? = some v → ∃ i k, ∃ x, j = i * n + k ∧ k < n ∧ l[i]? = some x ∧ (cells x)[k]? = some v
  | [], _, j, v, h => by simp at h
  | x :: r, hl, j, v, h => by
    have hx := hl x (by simp)
    rw [List.flatMap_cons] at h
    rcases Nat.lt_or_ge j n with hj | hj
    · rw [List.getElem?_append_left (by omega)] at h
      exact ⟨0, j, x, by simp, hj, by simp, h⟩
    · rw [List.getElem?_append_right (by omega), hx] at h
      obtain ⟨i, k, y, hjk, hk, hy, hv⟩ := flatMap_get r (fun y hy => hl y (by simp [hy])) (j - n) v h
      exact ⟨i + 1, k, y, by rw [Nat.add_mul]; omega, hk, by simpa using hy, hv⟩

theorem spot_none {w : World} {a : Addr} {v : Value} (h : w.cell? a = some v) : a.spot = none := by
  cases hs : a.spot with
  | none => rfl
  | some s =>
    exfalso
    unfold World.cell? at h
    rw [hs] at h
    split at h <;> simp at h

theorem opener_slice {α : Type} {n b : Nat} {t e : TypeId} {cells : α → List Value} {ok : World → α → Prop} {sz : α → Nat} (hB : Bulk B) (ht : P.underlying t = some (.slice e)) (hc : P.cellsOf e = n) (hb : P.bytesOf e = b) (hn : 0 < n)
    (ho : Opener enc P B e cells ok sz) : Opener enc P B t (fun s : Sl α => [s.v]) (Sl.ok cells b ok) (Sl.sz sz) := by
  intro W fuel cs d ps h hw
  rcases Deep.open_slice ht h with ⟨rfl, hx⟩ | ⟨a, len, cap, m, k, D, Pl, rfl, _, hl, hm, hmm, hx, hel⟩
  · have hd : d = .nil := congrArg Prod.fst hx
    subst hd
    exact ⟨Sl.nil, rfl, ⟨Rd.nil _ _, Nat.le_refl _, Nat.zero_le _, by simp [Sl.nil], fun x hx => by cases hx⟩, by simp [Sl.sz, Sl.nil, hB.pos]⟩
  · simp only [if_true] at hmm
    subst hmm
    have hd : d = .slice ((List.range len).map D) ((List.range (m - len)).map fun j => D (len + j)) := congrArg Prod.fst hx
    subst hd
    simp only [DataW.weights, ht, List.length_map, List.length_range, hb, List.mem_cons, List.mem_append] at hw
    rw [hc] at hel
    have hall : ∀ i, i < len → ∃ x, W.cells? 0 (a.add (i * n)) n = some (cells x) ∧ ok W x ∧ sz x < B (D i) := by
      intro i hi
      obtain ⟨cs', h1, h2⟩ := hel i (by omega)
      obtain ⟨x, rfl, hox, hs⟩ := ho h2 (fun q hq => hw q (.inr (.inl (mem_weightsAll (d := D i) (List.mem_map_of_mem (by simpa using hi)) hq))))
      exact ⟨x, h1, hox, hs⟩
    obtain ⟨l, hll, hf⟩ := choose_list (α := α) (p := fun i x => W.cells? 0 (a.add (i * n)) n = some (cells x) ∧ ok W x ∧ sz x < B (D i)) len hall
    subst hll
    refine ⟨⟨some a, m, l⟩, by simp [Sl.v], ⟨?_, hl, hm, ?_, ?_⟩, ?_⟩
    · intro j v hj
      obtain ⟨i, q, x, rfl, hq, hx, hv⟩ := flatMap_get (n := n) _ (fun x hx => by
        obtain ⟨i, hi⟩ := List.mem_iff_getElem?.1 hx
        exact (World.cells?_some (hf i _ hi).1).2.1) j v hj
      have h1 := (World.cells?_some (hf i _ hx).1).2.2 q hq
      rw [hv] at h1
      have hil : 0 < l.length := by have h9 : i < l.length := (List.getElem?_eq_some_iff.1 hx).1; omega
      have h0 := (World.cells?_some (hf 0 l[0] (by simp)).1).2
      have h00 := h0.2 0 hn
      rw [List.getElem?_eq_getElem (by omega), Nat.zero_mul] at h00
      have hadd : ∀ a : Addr, a.add 0 = a := fun a => by unfold Addr.add; simp
      rw [hadd, hadd] at h00
      have hspot := spot_none h00
      obtain ⟨b', o, s⟩ := a
      have hs : s = none := hspot
      subst hs
      rw [add_none, add_none] at h1
      exact ⟨b', o, rfl, by rw [Nat.add_assoc] at h1; exact h1⟩
    · have h1 := hw ((l.length + (m - l.length)) * b) (.inl rfl)
      have h2 : l.length + (m - l.length) = m := by omega
      rw [h2] at h1
      exact Nat.le_trans h1 (by decide)
    · intro x hx
      obtain ⟨i, hi⟩ := List.mem_iff_getElem?.1 hx
      exact (hf i _ hi).2.1
    · rw [hB.slice]
      have h1 := sum_le_bulk (sz := sz) l D (fun i x hi => (hf i x hi).2.2)
      have h2 := len_le_bulk hB ((List.range (m - l.length)).map fun j => D (l.length + j))
      simp only [List.length_map, List.length_range] at h2
      simp only [Sl.sz]
      omega
end
end Go.Sx
