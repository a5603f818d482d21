import Derived.Test.YtpmnhmfahgchgaaDoorSxO
set_option linter.unusedVariables false
set_option linter.unusedSimpArgs false
namespace Go.Sx
open Go.ChangeShapes Go.WideShapes Go.ChangeAt Go.RowKit
section
variable {H : Type} {enc : TypeId × Value → H} {P : Program} {B : DataW H → Nat}
theorem Opener.cell {α : Type} {t : TypeId} {V : α → Value} {ok : World → α → Prop} {sz : α → Nat} (h : Opener enc P B t (fun x => [V x]) ok sz) {W : World} {v : Value} {d : DataW H} {ps : List MemPlace} (h1 : v.cells = #[v])
    (hd : DataW.Trod enc P W 0 (fun _ => true) true t v d ps) (hw : ∀ n ∈ d.weights P t, n ≤ reachBytes) : ∃ x, v = V x ∧ ok W x ∧ sz x < B d := by
  obtain ⟨fuel, hf⟩ := hd
  obtain ⟨x, hc, ho, hs⟩ := h hf hw
  rw [h1] at hc
  simp at hc
  exact ⟨x, hc, ho, hs⟩
theorem Opener.agg {α : Type} {t : TypeId} {cells : α → List Value} {ok : World → α → Prop} {sz : α → Nat} (h : Opener enc P B t cells ok sz) {W : World} {v : Value} {d : DataW H} {ps : List MemPlace} (h1 : ∃ cs, v = .agg cs)
    (hd : DataW.Trod enc P W 0 (fun _ => true) true t v d ps) (hw : ∀ n ∈ d.weights P t, n ≤ reachBytes) : ∃ x, v = .agg (cells x).toArray ∧ ok W x ∧ sz x < B d := by
  obtain ⟨fuel, hf⟩ := hd
  obtain ⟨x, hc, ho, hs⟩ := h hf hw
  obtain ⟨cs, rfl⟩ := h1
  refine ⟨x, ?_, ho, hs⟩
  have h2 : cs.toList = cells x := hc
  rw [← h2]
variable {w : World} {r : Reach} {base : Nat} {t : TypeId} {v : Value}
theorem single_slice {e : TypeId} (ht : P.underlying t = some (.slice e)) (h : Value.okWide P w r base t v) : v.cells = #[v] := by obtain ⟨a, b, c, rfl⟩ := okWide_slice ht h; rfl
theorem single_int {k : IntKind} (ht : P.underlying t = some (.int k)) (h : Value.okWide P w r base t v) : v.cells = #[v] := by obtain ⟨a, rfl⟩ := okWide_int ht h; rfl
theorem single_bool (ht : P.underlying t = some .bool) (h : Value.okWide P w r base t v) : v.cells = #[v] := by obtain ⟨a, rfl⟩ := okWide_bool ht h; rfl
theorem single_string (ht : P.underlying t = some .string) (h : Value.okWide P w r base t v) : v.cells = #[v] := by obtain ⟨a, rfl⟩ := okWide_string ht h; rfl
theorem agg_struct {fs : Array Field} (ht : P.underlying t = some (.struct fs)) (h : Value.okWide P w r base t v) : ∃ cs, v = .agg cs := by
  obtain ⟨cs, h1, _⟩ := okWide_struct ht h; exact ⟨cs, h1⟩
theorem agg_array {n : Nat} {e : TypeId} (ht : P.underlying t = some (.array n e)) (h : Value.okWide P w r base t v) : ∃ cs, v = .agg cs := by
  unfold Value.okWide at h
  rw [ht] at h
  obtain ⟨cs, h1, _⟩ := h; exact ⟨cs, h1⟩
theorem weights_at {ts : List TypeId} {ds : List (DataW H)} (h : (DataW.weightsEach P ts ds).all (· ≤ reachBytes) = true) {j : Nat} {t : TypeId} {d : DataW H} (ht : ts[j]? = some t) (hd : ds[j]? = some d) : ∀ n ∈ d.weights P t, n ≤ reachBytes := by
  intro n hn
  have := List.all_eq_true.1 h _ (DataW.weights_mem_each ht hd n hn)
  simpa using this
theorem sum_mem_le : ∀ {l : List (DataW H)} {d : DataW H}, d ∈ l → B d ≤ (l.map B).sum
  | x :: r, d, h => by
    cases List.mem_cons.1 h with
    | inl e => subst e; simp
    | inr e => have := sum_mem_le e; simp only [List.map_cons, List.sum_cons]; omega

/-- What a slice of bytes tells. -/
theorem Sl.bytes {W : World} {s : Sl UInt8} (h : Sl.ok (fun x => [vU8 x]) 1 noOk W s) : Rd W s.a (s.xs.map vU8) ∧ s.xs.length ≤ s.c ∧ s.xs.length < 9223372036854775808 := by
  have h1 := h.rd
  rw [flatMap_one] at h1
  have h2 := h.max
  have h3 := h.le
  exact ⟨h1, h3, by simp only [maxLen] at h2; omega⟩
theorem sz_mem {α : Type} {sz : α → Nat} : ∀ {l : List α} {x : α}, x ∈ l → sz x ≤ (l.map sz).sum
  | y :: r, x, h => by
    cases List.mem_cons.1 h with
    | inl e => subst e; simp
    | inr e => have := sz_mem (sz := sz) e; simp only [List.map_cons, List.sum_cons]; omega
end
end Go.Sx
