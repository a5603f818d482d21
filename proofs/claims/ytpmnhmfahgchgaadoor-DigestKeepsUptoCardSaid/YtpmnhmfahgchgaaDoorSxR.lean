import Derived.Test.YtpmnhmfahgchgaaDoorSxJ
import Derived.WalkKit
import Derived.ProofKit
import Derived.OpenShut
import Derived.Carry
import Derived.Deep.DeepHandedRow
import Derived.SizedLaws
set_option linter.unusedVariables false
set_option linter.unusedSimpArgs false
namespace Go.Sx
open Go.ChangeShapes Go.WideShapes Go.ChangeAt Go.RowKit
section
variable {H : Type} {enc : TypeId × Value → H} {P : Program}

theorem stays_all (hl : laidOutB P = true) {W W' : World} {sp' : Nat → Bool} : ∀ {ts : List TypeId} {vs : List Value} {ds : List (DataW H)} {ps : List MemPlace},
    ts.all (fun t => P.readableRec t && decide (t < P.types.size)) = true → DataW.TrodAll enc P W 0 (fun _ => true) true ts vs ds ps →
    (∀ p ∈ ps, W.sameAt W' p) → (∀ p ∈ ps, sp' p.block = true) → DataW.TrodAll enc P W' 0 sp' true ts vs ds ps
  | [], [], [], _, _, h, _, _ => h
  | [], [], _ :: _, _, _, h, _, _ => h.elim
  | [], _ :: _, _, _, _, h, _, _ => h.elim
  | _ :: _, [], _, _, _, h, _, _ => h.elim
  | _ :: _, _ :: _, [], _, _, h, _, _ => h.elim
  | t :: ts, v :: vs, d :: ds, ps, hts, h, hsame, hs => by
    obtain ⟨p, q, h1, h2, rfl⟩ := h
    simp only [List.all_cons, Bool.and_eq_true, decide_eq_true_eq] at hts
    exact ⟨p, q, WideElems.Trod_stays hl hts.1.1 hts.1.2 h1 (fun x hx => hsame x (List.mem_append_left _ hx)) (fun x hx => hs x (List.mem_append_left _ hx)),
      stays_all hl hts.2 h2 (fun x hx => hsame x (List.mem_append_right _ hx)) (fun x hx => hs x (List.mem_append_right _ hx)), rfl⟩

theorem trodAll_len {W : World} {b : Nat} {sp : Nat → Bool} {hd : Bool} : ∀ {ts : List TypeId} {vs : List Value} {ds : List (DataW H)} {ps : List MemPlace}, DataW.TrodAll enc P W b sp hd ts vs ds ps → ds.length = ts.length
  | [], [], [], _, _ => rfl
  | [], [], _ :: _, _, h => h.elim
  | [], _ :: _, _, _, h => h.elim
  | _ :: _, [], _, _, h => h.elim
  | _ :: _, _ :: _, [], _, h => h.elim
  | _ :: _, _ :: _, _ :: _, _, ⟨_, _, _, h, _⟩ => congrArg (· + 1) (trodAll_len h)

/-- WHAT A ROW ASKS OF A LAW THAT ANSWERS true AND LEAVES WHAT WAS THERE. -/
theorem post_true {f : Func} {s : ChangeSpec} {tb : TypeId} {apart fresh handsOn again : Bool} {W W' : World} {args : Array Value} {ds gs : List (DataW H)} {before : List MemPlace}
    (hl : laidOutB P = true) (hts : f.params.toList.all (fun t => P.readableRec t && decide (t < P.types.size)) = true) (hv : s.vars = [])
    (hrt : f.resultTypes = #[tb]) (htb : P.underlying tb = some .bool) (hW : DataW.Whole enc P f.params.toList s.vars apart W args.toList ds gs before)
    (hs : ds.length = f.params.toList.length → s.fn H (ds ++ gs) = { results := [.lit (.bool true)], args := ds }) (hb : Below W.heap.size W W') : s.post enc P f apart fresh handsOn again W args (.bool true) W' := by
  have hW' := hW
  obtain ⟨p, q, hA, hV, hpq, hz, hn⟩ := hW
  have hgs : gs = [] ∧ q = [] := by
    rw [hv] at hV
    cases gs with
    | nil => exact ⟨rfl, hV⟩
    | cons _ _ => exact hV.elim
  obtain ⟨rfl, rfl⟩ := hgs
  have hlt : ∀ x ∈ before, x.block < W.heap.size := hW'.lt
  rw [List.append_nil] at hpq
  subst hpq
  have hs' := hs (trodAll_len hA)
  have hargs : ∀ sp : Nat → Bool, (∀ x ∈ before, sp x.block = true) → DataW.TrodAll enc P W' 0 sp true f.params.toList args.toList ds before := fun sp hsp =>
    stays_all hl hts hA (fun x hx => hb.same (hlt x hx)) hsp
  have hres : ∀ (b : Nat) (sp : Nat → Bool) (hd : Bool), DataW.TrodAll enc P W' b sp hd f.resultTypes.toList ((Value.bool true).resultList f.resultTypes.size) [.lit (.bool true)] [] := fun b sp hd => by
    rw [hrt]; exact trodAll_cons_mk (shut_bool htb _) trodAll_mk0
  have hold : ∀ x ∈ before, (fun b => decide (b < W.heap.size)) x.block = true := fun x hx => by simpa using hlt x hx
  have hvars : ∀ sp : Nat → Bool, DataW.TrodVars enc P W' sp s.vars ([] : List (DataW H)) [] := fun sp => by rw [hv]; rfl
  refine ⟨ds, [], before, [], before, [], hW', ?_, ?_, ?_, hb.frame _, fun _ => ⟨?_, ?_⟩⟩
  · rw [hs']; exact hres _ _ _
  · rw [hs']; exact hargs _ hold
  · rw [hs']; exact hvars _
  · intro j t r h1 h2
    rw [hrt] at h1 h2
    cases j with
    | zero =>
      simp at h1 h2; subst h1
      have h3 : r = .bool true := by simpa [Value.resultList] using h2.symm
      subst h3
      exact okWide_bool_mk htb _
    | succ j => simp at h1
  · refine ⟨[.lit (.bool true)] ++ ds, [], [] ++ before, ⟨[] ++ before, [], trodAll_append (hargs _ (fun _ _ => rfl)) (hres _ _ _), hvars _, by simp, ?_, ?_⟩, ?_⟩
    · intro b off hp
      rw [hb.frozen (p := ⟨b, off, none⟩) (hlt (.cell b off) (by simpa using hp))]
      exact hz b off (by simpa using hp)
    · intro ha; simpa using hn ha
    · intro x hx _; simpa using hx

/-- What a slice's datum tells of its room. -/
def Room (d : DataW H) (c : Nat) : Prop := (d = .nil ∧ c = 0) ∨ ∃ el sp, d = .slice el sp ∧ el.length + sp.length = c
theorem Room.bytes {P : Program} {ts : List TypeId} {ds : List (DataW H)} (h : (DataW.weightsEach P ts ds).all (· ≤ reachBytes) = true) {j c : Nat} {t e : TypeId} {d : DataW H} (hr : Room d c) (ht : ts[j]? = some t) (hd : ds[j]? = some d) (hu : P.underlying t = some (.slice e)) : c * P.bytesOf e ≤ reachBytes := by
  rcases hr with ⟨_, rfl⟩ | ⟨el, sp, rfl, rfl⟩
  · simp
  · exact sized_slice h ht hd hu

/-- A slice of numbers, opened: what its readers need. -/
theorem open_nums {α : Type} (V : α → Value) {k : IntKind} (dec : Int → α) (hdec : ∀ z, (Lit.int k z).wf = true → Value.int k z = V (dec z)) {r : Reach} {W : World} {sp : Nat → Bool} {base b0 : Nat} {t e : TypeId} {v : Value} {d : DataW H} {ps : List MemPlace}
    (ht : P.underlying t = some (.slice e)) (he : P.underlying e = some (.int k)) (hc : P.cellsOf e = 1) (hsp : ∀ b, sp b = true) (hval : Value.okWide P W r b0 t v) (hd : DataW.Trod enc P W base sp true t v d ps) :
    ∃ a m c, ∃ q : List α, v = .slice a m c ∧ q.length = m ∧ m ≤ c ∧ c ≤ maxLen ∧ Rd W a (q.map V) ∧ Room d c := by
  obtain ⟨a0, len, cap, rfl⟩ := okWide_slice ht hval
  obtain ⟨fuel, hf⟩ := hd
  rcases open_ints ht he hc hf with ⟨hcs, hx⟩ | ⟨a, len', cap', zs, hcs, _, hl, hm, hz, hx, hcell, hwz⟩
  · simp [Value.cells] at hcs
    obtain ⟨rfl, rfl, rfl⟩ := hcs
    simp only [Prod.mk.injEq] at hx
    exact ⟨none, 0, 0, [], rfl, rfl, Nat.le_refl _, Nat.zero_le _, Rd.nil _ _, .inl ⟨hx.1, rfl⟩⟩
  · simp [Value.cells] at hcs
    obtain ⟨rfl, rfl, rfl⟩ := hcs
    simp only [Prod.mk.injEq] at hx
    rw [hsp, if_pos rfl] at hz
    refine ⟨some a, len, cap, (zs.take len).map dec, rfl, by simp; omega, hl, hm, ?_, .inr ⟨_, _, hx.1, by simp [lits]; omega⟩⟩
    intro j x hj
    have hjl : j < (zs.take len).length := by have := (List.getElem?_eq_some_iff.1 hj).1; simpa using this
    have hjz : j < zs.length := by rw [List.length_take] at hjl; omega
    have hget : zs.getD j 0 = zs[j] := by simp [List.getD_eq_getElem?_getD, hjz]
    have hw := hwz zs[j] (List.getElem_mem _)
    have h2 := hcell j hjz
    rw [hget, hdec _ hw] at h2
    have hx2 : x = V (dec zs[j]) := by
      rw [List.map_map, List.getElem?_map, List.getElem?_take, if_pos (by rw [List.length_take] at hjl; omega)] at hj
      simp [hjz] at hj
      exact hj.symm
    subst hx2
    have hspot : a.spot = none := by
      cases hs : a.spot with
      | none => rfl
      | some s =>
        exfalso
        have h3 := hcell 0 (by omega)
        have h4 : a.add 0 = a := by unfold Addr.add; simp
        rw [h4] at h3
        unfold World.cell? at h3
        rw [hs] at h3
        split at h3 <;> simp at h3
    obtain ⟨b, o, s⟩ := a
    simp only at hspot; subst hspot
    exact ⟨b, o, rfl, by rw [add_none] at h2; exact h2⟩

theorem dec_u8 (z : Int) (h : (Lit.int .u8 z).wf = true) : Value.int .u8 z = vU8 (UInt8.ofNat z.toNat) := by
  have h1 : IntKind.u8.min = 0 := rfl
  have h2 : IntKind.u8.max = 255 := rfl
  simp only [Lit.wf, Bool.and_eq_true, decide_eq_true_eq, h1, h2] at h
  unfold vU8; congr 1; rw [UInt8.toNat_ofNat']; omega
theorem dec_u32 (z : Int) (h : (Lit.int .u32 z).wf = true) : Value.int .u32 z = vU32 (UInt32.ofNat z.toNat) := by
  have h1 : IntKind.u32.min = 0 := rfl
  have h2 : IntKind.u32.max = 4294967295 := rfl
  simp only [Lit.wf, Bool.and_eq_true, decide_eq_true_eq, h1, h2] at h
  unfold vU32; congr 1; rw [UInt32.toNat_ofNat']; omega
theorem dec_u64 (z : Int) (h : (Lit.int .u64 z).wf = true) : Value.int .u64 z = vU64 (UInt64.ofNat z.toNat) := by
  have h1 : IntKind.u64.min = 0 := rfl
  have h2 : IntKind.u64.max = 18446744073709551615 := rfl
  simp only [Lit.wf, Bool.and_eq_true, decide_eq_true_eq, h1, h2] at h
  unfold vU64; congr 1; rw [UInt64.toNat_ofNat']; omega
/-- An int is within its bounds. -/
theorem dec_int (z : Int) (h : (Lit.int .i64 z).wf = true) : -9223372036854775808 ≤ z ∧ z ≤ 9223372036854775807 := by
  have h1 : IntKind.i64.min = -9223372036854775808 := rfl
  have h2 : IntKind.i64.max = 9223372036854775807 := rfl
  simpa [Lit.wf, h1, h2] using h
theorem open_u8s {r : Reach} {W : World} {b0 : Nat} {t e : TypeId} {v : Value} {d : DataW H} {ps : List MemPlace} (ht : P.underlying t = some (.slice e)) (he : P.underlying e = some (.int .u8)) (hc : P.cellsOf e = 1) (hval : Value.okWide P W r b0 t v)
    (hd : DataW.Trod enc P W 0 (fun _ => true) true t v d ps) : ∃ a m c, ∃ q : List UInt8, v = .slice a m c ∧ q.length = m ∧ m ≤ c ∧ c ≤ maxLen ∧ Rd W a (q.map vU8) ∧ Room d c :=
  open_nums vU8 _ dec_u8 ht he hc (fun _ => rfl) hval hd
theorem open_u32s {r : Reach} {W : World} {b0 : Nat} {t e : TypeId} {v : Value} {d : DataW H} {ps : List MemPlace} (ht : P.underlying t = some (.slice e)) (he : P.underlying e = some (.int .u32)) (hc : P.cellsOf e = 1) (hval : Value.okWide P W r b0 t v)
    (hd : DataW.Trod enc P W 0 (fun _ => true) true t v d ps) : ∃ a m c, ∃ q : List UInt32, v = .slice a m c ∧ q.length = m ∧ m ≤ c ∧ c ≤ maxLen ∧ Rd W a (q.map vU32) ∧ Room d c :=
  open_nums vU32 _ dec_u32 ht he hc (fun _ => rfl) hval hd
/-- A slice of ints. -/
theorem open_ints' {r : Reach} {W : World} {b0 : Nat} {t e : TypeId} {v : Value} {d : DataW H} {ps : List MemPlace} (ht : P.underlying t = some (.slice e)) (he : P.underlying e = some (.int .i64)) (hc : P.cellsOf e = 1) (hval : Value.okWide P W r b0 t v)
    (hd : DataW.Trod enc P W 0 (fun _ => true) true t v d ps) : ∃ a m c, ∃ q : List Int, v = .slice a m c ∧ q.length = m ∧ m ≤ c ∧ c ≤ maxLen ∧ Rd W a (q.map vInt) ∧ Room d c ∧ ∀ z ∈ q, -9223372036854775808 ≤ z ∧ z ≤ 9223372036854775807 := by
  obtain ⟨a, m, c, q, h1, h2, h3, h4, h5, h6⟩ := open_nums (fun z : { z : Int // -9223372036854775808 ≤ z ∧ z ≤ 9223372036854775807 } => vInt z.1) (fun z => if h : -9223372036854775808 ≤ z ∧ z ≤ 9223372036854775807 then ⟨z, h⟩ else ⟨0, by decide⟩)
    (fun z hz => by rw [dif_pos (dec_int z hz)]; rfl) ht he hc (fun _ => rfl) hval hd
  refine ⟨a, m, c, q.map (·.1), h1, by rw [List.length_map]; exact h2, h3, h4, by rw [List.map_map]; exact h5, h6, fun z hz => ?_⟩
  obtain ⟨y, _, rfl⟩ := List.mem_map.1 hz
  exact y.2
theorem open_u64 {r : Reach} {W : World} {base b0 : Nat} {sp : Nat → Bool} {t : TypeId} {v : Value} {d : DataW H} {ps : List MemPlace} (ht : P.underlying t = some (.int .u64)) (hval : Value.okWide P W r b0 t v) (hd : DataW.Trod enc P W base sp true t v d ps) : ∃ n : UInt64, v = vU64 n := by
  obtain ⟨n, rfl, _, _, hw⟩ := open_int ht hval hd
  exact ⟨_, dec_u64 n hw⟩
end
end Go.Sx
