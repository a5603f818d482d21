import Derived.Test.YtpmnhmfahgchgaaDoorSxX
import Derived.Test.YtpmnhmfahgchgaaDoorDigT
set_option linter.unusedVariables false
set_option linter.unusedSimpArgs false
namespace Go.Sx
open Go.Ps
section
variable {P : Program} {n : Nat} {F : Fr} {ty : TypeId} {w0 w : World} {olds : List Nat}

/-- Rows of bytes, each in an entry of its own. -/
def BRows (T : TypeId) : List (Sl UInt8) → List Ent → Prop
  | [], [] => True
  | s :: ks, e :: es => RowE (.slice s.a s.xs.length s.c) T 1 s.xs.length (s.xs.map vU8) e ∧ BRows T ks es
  | _, _ => False
theorem BRows.len {T : TypeId} : ∀ {ks : List (Sl UInt8)} {es : List Ent}, BRows T ks es → es.length = ks.length
  | [], [], _ => rfl
  | _ :: _, _ :: _, h => congrArg (· + 1) (BRows.len h.2)
  | [], _ :: _, h => h.elim
  | _ :: _, [], h => h.elim
theorem BRows.snoc {T : TypeId} : ∀ {ks : List (Sl UInt8)} {es : List Ent} {s : Sl UInt8} {e : Ent}, BRows T ks es → RowE (.slice s.a s.xs.length s.c) T 1 s.xs.length (s.xs.map vU8) e → BRows T (ks ++ [s]) (es ++ [e])
  | [], [], _, _, _, h => ⟨h, trivial⟩
  | _ :: _, _ :: _, _, _, h, hr => ⟨h.1, BRows.snoc h.2 hr⟩
  | [], _ :: _, _, _, h, _ => h.elim
  | _ :: _, [], _, _, h, _ => h.elim
theorem BRows.app {T : TypeId} : ∀ {ks ls : List (Sl UInt8)} {es fs : List Ent}, BRows T ks es → BRows T ls fs → BRows T (ks ++ ls) (es ++ fs)
  | [], _, [], _, _, h => h
  | _ :: _, _, _ :: _, _, h, hr => ⟨h.1, BRows.app h.2 hr⟩
  | [], _, _ :: _, _, h, _ => h.elim
  | _ :: _, _, [], _, h, _ => h.elim
theorem BRows.split {T : TypeId} : ∀ {ks : List (Sl UInt8)} {es : List Ent} {i : Nat}, BRows T ks es → i < ks.length → ∃ es1 e es2, es = es1 ++ e :: es2 ∧ es1.length = i ∧
    RowE (.slice (ks.getD i default).a (ks.getD i default).xs.length (ks.getD i default).c) T 1 (ks.getD i default).xs.length ((ks.getD i default).xs.map vU8) e ∧
    ∀ e' s', RowE (.slice s'.a s'.xs.length s'.c) T 1 s'.xs.length (s'.xs.map vU8) e' → BRows T (ks.set i s') (es1 ++ e' :: es2)
  | [], _, _, _, h => by simp at h
  | _ :: _, [], _, h, _ => h.elim
  | s :: ks, e :: es, 0, h, _ => ⟨[], e, es, rfl, rfl, h.1, fun e' s' he => ⟨he, h.2⟩⟩
  | s :: ks, e :: es, i + 1, h, hi => by
    obtain ⟨es1, e1, es2, h1, hl, h2, h3⟩ := BRows.split h.2 (i := i) (by simpa using hi)
    exact ⟨e :: es1, e1, es2, by rw [h1]; rfl, by simp [hl], h2, fun e' s' he => ⟨h.1, h3 e' s' he⟩⟩
theorem BRows.rd {T : TypeId} {ks : List (Sl UInt8)} {es : List Ent} {i : Nat} (h : BRows T ks es) (hi : i < ks.length) (hh : Held es w) : Rd w (ks.getD i default).a ((ks.getD i default).xs.map vU8) := by
  obtain ⟨es1, e, es2, rfl, _, h2, _⟩ := h.split hi
  exact h2.held (hh.sub (List.singleton_sublist.2 (List.mem_append_right _ (.head _))))
theorem BRows.le {T : TypeId} {ks : List (Sl UInt8)} {es : List Ent} {i : Nat} (h : BRows T ks es) (hi : i < ks.length) : (ks.getD i default).xs.length ≤ (ks.getD i default).c := by
  obtain ⟨es1, e, es2, rfl, _, h2, _⟩ := h.split hi
  exact h2.le
/-- Opened: a row's own block, and the row over other bytes. -/
theorem RowE.open1 {a : Option Addr} {c k : Nat} {T : TypeId} {L : List UInt8} {e : Ent} (h : RowE (.slice a k c) T 1 k (L.map vU8) e) (h0 : 0 < k) :
    ∃ b rest, a = some ⟨b, 0, none⟩ ∧ e = some (b, blk (L.map vU8 ++ rest) T) ∧ ∀ L' : List UInt8, L'.length = L.length → RowE (.slice (some ⟨b, 0, none⟩) k c) T 1 k (L'.map vU8) (some (b, blk (L'.map vU8 ++ rest) T)) := by
  obtain ⟨hn, ⟨_, h1, _⟩ | ⟨b, cap, rest, hv, hc, hcm, hcl, he⟩⟩ := h
  · omega
  · simp only [Value.slice.injEq] at hv
    obtain ⟨rfl, _, rfl⟩ := hv
    refine ⟨b, rest, rfl, he, fun L' hn' => ⟨by rw [List.length_map, hn', ← List.length_map (f := vU8)]; exact hn, .inr ⟨b, c, rest, rfl, hc, hcm, ?_, rfl⟩⟩⟩
    rw [List.length_append, List.length_map] at hcl ⊢
    rw [hn']; exact hcl
/-- One byte of it laid. -/
theorem does_set1 {l : List Ent} {T U : TypeId} {x y : Operand} {b t : Nat} {d : UInt8} {L : List UInt8} {rest : List Value} (i : Nat) (hx : ev F x = some (.pointer (some ⟨b, t, none⟩))) (hy : ev F y = some (vU8 d))
    (hp : pick l i = some (b, blk (L.map vU8 ++ rest) U)) (hS : ∀ w, (sizeOf T).run P w = .ok 1 w) (ht : t < L.length) :
    Does P n F (Mem w0 olds l) (.store T x y) ty (fun _ w' => Mem w0 olds (upd l i (some (b, blk ((L.set t d).map vU8 ++ rest) U))) w') := by
  have h := does_store (P := P) (n := n) (F := F) (ty := ty) (w0 := w0) (olds := olds) (l := l) (T := T) (x := x) (y := y) i hx hy hp rfl hS (by rw [List.length_append, List.length_map]; omega)
  have e : (L.map vU8 ++ rest).set t (vU8 d) = (L.set t d).map vU8 ++ rest := by
    rw [List.set_append_left _ _ (by rw [List.length_map]; exact ht), List.map_set]
  rw [e] at h; exact h
end
def bh (j : Nat) : UInt8 := UInt8.ofNat (j * j * 3 + j * 7 + 91)
def rm : List UInt8 := (List.range 40).map bh
theorem rm_len : rm.length = 40 := by rw [rm, List.length_map, List.length_range]
def mk (r i j : Nat) : UInt8 := if r = 0 then UInt8.ofNat (101 * i + 59 * j + 17) else UInt8.ofNat ((i + 1) * (j + 3) * 29 + i * 7 + j / 5 + 3)
/-- All lists of bytes of a call. -/
def lsO (o : Cop) : List (Sl UInt8) := o.P :: o.pairs.xs.flatMap fun x => [x.1, x.2]
theorem lsO_len (o : Cop) : (lsO o).length = 1 + 2 * o.pairs.xs.length := by
  have h : ∀ l : List (Sl UInt8 × Sl UInt8), (l.flatMap fun x => [x.1, x.2]).length = 2 * l.length := fun l => by
    induction l with
    | nil => rfl
    | cons x r ih => rw [List.flatMap_cons, List.length_append, ih]; simp only [List.length_cons, List.length_nil]; omega
  rw [lsO, List.length_cons, h]; omega
theorem lsO_ok {W : World} {o : Cop} (h : o.ok W) : ∀ s ∈ lsO o, SlOk W s := fun s hs => by
  rcases List.mem_cons.1 hs with rfl | hs
  · exact h.p
  · obtain ⟨x, hx, hs⟩ := List.mem_flatMap.1 hs
    have := h.pe x hx
    rcases List.mem_cons.1 hs with rfl | hs
    · exact this.1
    · rw [List.mem_singleton.1 hs]; exact this.2
/-- Bytes of a slice are what is asked of, not where they lie. -/
theorem opIn_xs {o q : Cop} (hk : q.kind = o.kind) (hw : q.w = o.w) (hP : q.P.xs = o.P.xs) (hL : q.L = o.L) (hR : q.R = o.R) (hp : prs q.pairs.xs = prs o.pairs.xs) (hb : q.bm = o.bm) (hkd : q.kids.xs = o.kids.xs) (hs : q.size = o.size) (hl : q.log = o.log) (hm : q.map = o.map) : opIn q = opIn o := by
  unfold opIn
  rw [hk, hw, hP, hL, hR, hp, hb, hkd, hs, hl, hm]
end Go.Sx
