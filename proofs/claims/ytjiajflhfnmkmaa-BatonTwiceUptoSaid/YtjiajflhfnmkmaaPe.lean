/- A PLAY OF THE BATON: what the row rests on. -/
import Derived.Test.YtjiajflhfnmkmaaPa
import Derived.Test.YtjiajflhfnmkmaaPd
set_option linter.unusedVariables false
set_option linter.unusedSimpArgs false
set_option linter.unusedSectionVars false
section
namespace Go.Sx
variable [Gnd]
open Go.Conc
/-- Where a goroutine's record stands well (Re): closed under its own steps, whatever the others do between. -/
class Co (P : Program) where
  main : Bool
  Re : Goroutine → World → Prop
  D : World → World → Array Event → Prop
  good : ∀ {w w' : World} {es : Array Event}, Gud w w' es → D w w' es
  rely : ∀ {g : Goroutine} {w w₁ : World}, Re g w → Rly w w₁ → Re g w₁
  step : ∀ {g : Goroutine} {w : World}, g.status = .running → (∀ w₁, Rly w w₁ → ∃ g' w' es, stepG P main g w₁ = .go g' w' es ∧ D w₁ w' es ∧ Re g' w') → Re g w
section
variable {P : Program} [C : Co P]
theorem re_go {g g' : Goroutine} {w : World} (hs : g.status = .running) (h : ∀ w₁, stepG P C.main g w₁ = .go g' w₁ #[]) (hr : C.Re g' w) : C.Re g w :=
  C.step hs fun w₁ h₁ => ⟨g', w₁, #[], h w₁, C.good (Gud.refl _), C.rely hr h₁⟩
/-- What is asked of the record at a way out. -/
def AfterX (P : Program) [Co P] (b : Frame) (k : List Item) (cs : List Frame) : Exit → Act → World → Prop
  | .normal, a, w => Co.Re P (G (b.at a k) cs) w
  | .exit id, a, w => ∀ todo, exitTo id todo = exitTo id k → Co.Re P (G (b.at a (.code (.exit id) :: todo)) cs) w
  | .ret, a, w => ∀ todo, Co.Re P (G { b.at a todo with mode := .returning } cs) w
  | .panic ch, a, w => ∀ todo, Co.Re P (G { b.at a todo with mode := .panicking ch } cs) w
  | _, _, _ => False
/-- A thing that lies on the list and bears no way out. -/
theorem AfterX.item {b : Frame} {x : Item} {k : List Item} {cs : List Frame} {e : Exit} {a : Act} {w : World} (hx : x.plain = true) (he : e ≠ .normal) (h : AfterX P b k cs e a w) : AfterX P b (x :: k) cs e a w := by
  cases e with
  | normal => exact absurd rfl he
  | exit id => exact fun todo ht => h todo (ht.trans (by cases x <;> simp_all [exitTo, Item.plain]))
  | ret => exact h
  | panic ch => exact h
  | _ => exact h.elim
def _root_.Go.Code.wpX (P : Program) [Co P] (c : Code) (Q : Exit → Act → World → Prop) (a : Act) (w : World) : Prop :=
  ∀ (b : Frame) (k : List Item) (cs : List Frame), b.kind ≠ .early → (∀ e a' w', Q e a' w' → AfterX P b k cs e a' w') → Co.Re P (G (b.at a (.code c :: k)) cs) w
variable {Q : Exit → Act → World → Prop} {a : Act} {w : World}
theorem wpX_mono {c : Code} {Q' : Exit → Act → World → Prop} (h : c.wpX P Q a w) (hq : ∀ e a w, Q e a w → Q' e a w) : c.wpX P Q' a w :=
  fun b k cs hb hQ => h b k cs hb fun e a' w' hx => hQ e a' w' (hq e a' w' hx)
theorem wpX_skip (h : Q .normal a w) : Code.skip.wpX P Q a w := fun _ _ _ _ hQ => re_go rfl (fun _ => stepG_skip) (hQ _ _ _ h)
omit C in
theorem stepG_ret {main : Bool} {b : Frame} {k : List Item} {cs : List Frame} : stepG P main (G (b.at a (.code .ret :: k)) cs) w = .go (G { b.at a (.code .ret :: k) with mode := .returning } cs) w := by
  simp [G, stepG, stepG.exec, Frame.at]
theorem wpX_seq {x y : Code} (h : x.wpX P (Exit.then (fun a' w' => y.wpX P Q a' w') Q) a w) : (Code.seq x y).wpX P Q a w := fun b k cs hb hQ =>
  re_go rfl (fun _ => stepG_seq) (h b (.code y :: k) cs hb fun e a' w' hx => by
    cases e with
    | normal => exact (show y.wpX P Q a' w' from hx) b k cs hb hQ
    | _ => exact AfterX.item rfl (by simp) (hQ _ _ _ hx))
theorem wpX_cond_split {c : Operand} {x y : Code} {t : Bool} (hc : a.eval c = .bool t) (ht : t = true → x.wpX P Q a w) (hf : t = false → y.wpX P Q a w) : (Code.cond c x y).wpX P Q a w := fun b k cs hb hQ =>
  re_go rfl (fun _ => stepG_cond hc) (by
    cases t with
    | true => exact ht rfl b k cs hb hQ
    | false => exact hf rfl b k cs hb hQ)
def CallsX (P : Program) [Co P] (f : FuncId) (args : Array Value) (w : World) (R : Ending → World → Prop) : Prop :=
  ∀ (c : Frame) (cs : List Frame), (∀ v w', R (.returned v) w' → Co.Re P (G (c.finish v) cs) w') → (∀ ch w', R (.panicked ch) w' → Co.Re P (G (c.raise ch) cs) w') →
    Co.Re P (G (Frame.enter P f args .normal) (c :: cs)) w
theorem CallsX.mono {f : FuncId} {args : Array Value} {R R' : Ending → World → Prop} (h : CallsX P f args w R) (hr : ∀ e w, R e w → R' e w) : CallsX P f args w R' :=
  fun c cs h1 h2 => h c cs (fun v w' hx => h1 v w' (hr _ _ hx)) (fun ch w' hx => h2 ch w' (hr _ _ hx))
/-- The accesses are within the guarantee. -/
def DD (P : Program) [Co P] (w w' : World) (es : Array Event) : Prop := ∀ fn, Co.D P w w' (seen P fn es)
theorem DD.good {w' : World} {es : Array Event} (h : Gud w w' es) : DD P w w' es := fun _ => C.good h.seen
def UponX (P : Program) [Co P] (o : Oper) (a : Act) (K : Act → World → Prop) (Q : Exit → Act → World → Prop) (w : World) : Result Next × Array Event → Prop
  | (.ok (.value v) w', es) => DD P w w' es ∧ K (a.put o.dst v) w'
  | (.ok .skip w', es) => DD P w w' es ∧ K (a.put o.dst undef) w'
  | (.ok (.enter f args) w', es) => DD P w w' es ∧ CallsX P f args w' fun
      | .returned v, w'' => K (a.put o.dst v) w''
      | .panicked ch, w'' => Q (.panic ch) a w''
      | .outgrown, _ => False
  | (.ok (.defer d) w', es) => DD P w w' es ∧ K ({ a with defers := d :: a.defers }.put o.dst undef) w'
  | (.halt (.panic v) w', es) => DD P w w' es ∧ Q (.panic [{ v, recovered := false }]) a w'
  | _ => False
def _root_.Go.Oper.wpX (P : Program) [Co P] (o : Oper) (a : Act) (w : World) (K : Act → World → Prop) (Q : Exit → Act → World → Prop) : Prop :=
  ∀ w₁, Rly w w₁ → UponX P o a K Q w₁ ((execOp a.eval o).runT P w₁ #[])
theorem UponX.mono {o : Oper} {K K' : Act → World → Prop} {r : Result Next × Array Event} (h : UponX P o a K Q w r) (hk : ∀ a w, K a w → K' a w) : UponX P o a K' Q w r := by
  obtain ⟨r, es⟩ := r
  cases r with
  | ok n w' =>
    cases n <;> simp only [UponX] at h ⊢ <;> first
      | exact h.elim
      | exact ⟨h.1, hk _ _ h.2⟩
      | exact ⟨h.1, h.2.mono fun e w'' he => by cases e <;> first | exact hk _ _ he | exact he⟩
  | halt x w' => cases x <;> simp only [UponX] at h ⊢ <;> exact h
theorem Oper.wpX_mono {o : Oper} {K K' : Act → World → Prop} (h : o.wpX P a w K Q) (hk : ∀ a w, K a w → K' a w) : o.wpX P a w K' Q := fun w₁ h₁ => (h w₁ h₁).mono hk
def wpOpX (P : Program) [Co P] (ops : Array Oper) (Q : Exit → Act → World → Prop) (i : Nat) (K : Act → World → Prop) (a : Act) (w : World) : Prop :=
  match ops[i]? with
  | none => K a w
  | some o => if Region.wanted o (yielded ops a.tmps) then o.wpX P a w K Q else K (a.put o.dst undef) w
def wpOpsX (P : Program) [Co P] (ops : Array Oper) (Q : Exit → Act → World → Prop) : List Nat → Act → World → Prop
  | [], a, w => Q .normal a w
  | i :: r, a, w => wpOpX P ops Q i (wpOpsX P ops Q r) a w
theorem wpOpX_mono {ops : Array Oper} {i : Nat} {K K' : Act → World → Prop} (hk : ∀ a w, K a w → K' a w) (h : wpOpX P ops Q i K a w) : wpOpX P ops Q i K' a w := by
  unfold wpOpX at *
  cases ho : ops[i]? with
  | none => rw [ho] at h; exact hk _ _ h
  | some o =>
    rw [ho] at h
    simp only at h ⊢
    split
    · rename_i hw; rw [if_pos hw] at h; exact Oper.wpX_mono h hk
    · rename_i hw; rw [if_neg hw] at h; exact hk _ _ h
section steps
omit C
variable {main : Bool} {b : Frame} {k : List Item} {cs : List Frame} {ops : Array Oper} {i : Nat} {rest : List Nat} {o : Oper} {w' : World} {es : Array Event}
theorem stepG_unw (ho : ops[i]? = some o) (hw : Region.wanted o (yielded ops a.tmps) = false) : stepG P main (G (b.at a (.inRegion ops (i :: rest) :: k)) cs) w = .go (G (b.at (a.put o.dst undef) (.inRegion ops rest :: k)) cs) w := by
  have hfin : (b.at a (.inRegion ops (i :: rest) :: k)).finish undef = b.at (a.put o.dst undef) (.inRegion ops rest :: k) := by rw [Frame.finish_at, ho]; rfl
  have e : ({ fn := b.fn, tmps := a.tmps, todo := .inRegion ops (i :: rest) :: k, defers := a.defers, mode := .run, kind := b.kind } : Frame) = b.at a (.inRegion ops (i :: rest) :: k) := rfl
  rw [← hfin]
  simp [G, stepG, stepG.exec, Frame.at, ho, hw]
theorem stepG_no (ho : ops[i]? = none) : stepG P main (G (b.at a (.inRegion ops (i :: rest) :: k)) cs) w = .go (G (b.at a (.inRegion ops rest :: k)) cs) w := by
  have hfin : (b.at a (.inRegion ops (i :: rest) :: k)).finish undef = b.at a (.inRegion ops rest :: k) := by rw [Frame.finish_at, ho]; rfl
  rw [← hfin]
  simp [G, stepG, stepG.exec, Frame.at, ho]
theorem stepG_runT {r : Result Next} (ho : ops[i]? = some o) (hw : Region.wanted o (yielded ops a.tmps) = true) (hk : b.kind ≠ .early) (hr : (execOp a.eval o).runT P w #[] = (r, es)) :
    stepG P main (G (b.at a (.inRegion ops (i :: rest) :: k)) cs) w = match r with
      | .ok (.value v) w' => .go (G (b.at (a.put o.dst v) (.inRegion ops rest :: k)) cs) w' (seen P b.fn es)
      | .ok .skip w' => .go (G (b.at (a.put o.dst undef) (.inRegion ops rest :: k)) cs) w' (seen P b.fn es)
      | .ok (.enter f args) w' => .go (G (Frame.enter P f args .normal) (b.at a (.inRegion ops (i :: rest) :: k) :: cs)) w' (seen P b.fn es)
      | .ok (.defer d) w' => .go (G (b.at ({ a with defers := d :: a.defers }.put o.dst undef) (.inRegion ops rest :: k)) cs) w' (seen P b.fn es)
      | .halt (.panic v) w' => .go (G { b.at a (.inRegion ops (i :: rest) :: k) with mode := .panicking [{ v, recovered := false }] } cs) w' (seen P b.fn es)
      | _ => stepG P main (G (b.at a (.inRegion ops (i :: rest) :: k)) cs) w := by
  have hfin : ∀ v, (b.at a (.inRegion ops (i :: rest) :: k)).finish v = b.at (a.put o.dst v) (.inRegion ops rest :: k) := fun v => by rw [Frame.finish_at, ho]; rfl
  have hk' : (b.kind == CallKind.early) = false := by simpa using hk
  have hr1 : (execOp a.eval o).run P w = r := by have := congrArg Prod.fst hr; simpa using this
  have hr2 : (execOp a.eval o).events P w #[] = es := by have := congrArg Prod.snd hr; simpa using this
  have hb : ∀ v, (b.at a (.inRegion ops (i :: rest) :: k)).finish v = { fn := b.fn, tmps := (a.put o.dst v).tmps, todo := .inRegion ops rest :: k, defers := (a.put o.dst v).defers, mode := .run, kind := b.kind } := hfin
  have hd : ∀ d : Deferred, ({ fn := b.fn, tmps := a.tmps, todo := .inRegion ops (i :: rest) :: k, defers := d :: a.defers, mode := .run, kind := b.kind } : Frame).finish undef = b.at ({ a with defers := d :: a.defers }.put o.dst undef) (.inRegion ops rest :: k) := fun d => by
    have := Frame.finish_at b { a with defers := d :: a.defers } ops i rest k undef
    rw [ho] at this; exact this
  cases r with
  | ok n w' =>
    cases n with
    | value v =>
      simp only []
      rw [stepG_oper ho hw, ← hfin v]
      simp [stepG.apply, hr1, hr2, G, Frame.at, hk', GStep.after]
    | skip =>
      simp only []
      rw [stepG_oper ho hw, ← hfin undef]
      simp [stepG.apply, hr1, hr2, G, Frame.at, hk', GStep.after]
    | enter f args =>
      simp only []
      rw [stepG_oper ho hw]
      simp [stepG.apply, hr1, hr2, G, Frame.at, hk', GStep.after]
    | defer d =>
      simp only []
      rw [stepG_oper ho hw, ← hd d]
      simp [stepG.apply, hr1, hr2, G, Frame.at, hk', GStep.after]
    | _ => rfl
  | halt x w' =>
    cases x with
    | panic v =>
      simp only []
      rw [stepG_oper ho hw]
      simp [stepG.apply, hr1, hr2, G, Frame.at, hk', GStep.after, Frame.raise]
    | _ => rfl
end steps
theorem opsX_sound {ops : Array Oper} {b : Frame} {k : List Item} {cs : List Frame} (hb : b.kind ≠ .early) (hQ : ∀ e a' w', Q e a' w' → AfterX P b k cs e a' w') :
    ∀ (l : List Nat) (a : Act) (w : World), wpOpsX P ops Q l a w → C.Re (G (b.at a (.inRegion ops l :: k)) cs) w
  | [], a, w, h => re_go rfl (fun _ => stepG_region_end) (hQ _ _ _ h)
  | i :: r, a, w, h => by
    simp only [wpOpsX, wpOpX] at h
    cases ho : ops[i]? with
    | none => rw [ho] at h; exact re_go rfl (fun _ => stepG_no ho) (opsX_sound hb hQ r a w h)
    | some o =>
      rw [ho] at h
      simp only at h
      cases hw : Region.wanted o (yielded ops a.tmps) with
      | false => rw [hw] at h; exact re_go rfl (fun _ => stepG_unw ho hw) (opsX_sound hb hQ r _ w h)
      | true =>
        rw [hw, if_pos rfl] at h
        refine C.step rfl fun w₁ h₁ => ?_
        have hu := h w₁ h₁
        generalize hr : (execOp a.eval o).runT P w₁ #[] = x at hu
        obtain ⟨x, es⟩ := x
        have hst := stepG_runT (main := C.main) (b := b) (k := k) (cs := cs) (rest := r) ho hw hb hr
        cases x with
        | ok n w' =>
          cases n <;> simp only [UponX] at hu <;> try exact hu.elim
          · exact ⟨_, _, _, hst, hu.1 _, opsX_sound hb hQ r _ _ hu.2⟩
          · exact ⟨_, _, _, hst, hu.1 _, opsX_sound hb hQ r _ _ hu.2⟩
          · refine ⟨_, _, _, hst, hu.1 _, hu.2 _ _ (fun v w'' hx => ?_) (fun ch w'' hx => ?_)⟩
            · have hfin : (b.at a (.inRegion ops (i :: r) :: k)).finish v = b.at (a.put o.dst v) (.inRegion ops r :: k) := by rw [Frame.finish_at, ho]; rfl
              rw [hfin]; exact opsX_sound hb hQ r _ _ hx
            · exact hQ _ _ _ hx _
          · exact ⟨_, _, _, hst, hu.1 _, opsX_sound hb hQ r _ _ hu.2⟩
        | halt y w' =>
          cases y <;> simp only [UponX] at hu <;> try exact hu.elim
          exact ⟨_, _, _, hst, hu.1 _, hQ _ _ _ hu.2 _⟩
theorem wpX_region {id : Nat} {ops : Array Oper} (h : wpOpsX P ops Q (List.range ops.size) a w) : (Code.region id ops false).wpX P Q a w :=
  fun _ _ _ hb hQ => re_go rfl (fun _ => stepG_region) (opsX_sound hb hQ _ _ _ h)
/-- The text's order, by the operations themselves. -/
def wpListX (P : Program) [Co P] (ops : Array Oper) (Q : Exit → Act → World → Prop) : List Oper → Act → World → Prop
  | [], a, w => Q .normal a w
  | o :: rest, a, w => if Region.wanted o (yielded ops a.tmps) then o.wpX P a w (wpListX P ops Q rest) Q else wpListX P ops Q rest (a.put o.dst undef) w
theorem wpOpsX_list {ops : Array Oper} : ∀ (l : List Oper) (k : Nat), (∀ j, l[j]? = ops[k + j]?) → ∀ a w, wpListX P ops Q l a w → wpOpsX P ops Q (List.range' k l.length) a w
  | [], k, h, a, w, hl => hl
  | o :: l, k, h, a, w, hl => by
    have h0 : ops[k]? = some o := by have := h 0; simpa using this.symm
    have ih := wpOpsX_list l (k + 1) (fun j => by have := h (j + 1); simp only [List.getElem?_cons_succ] at this; rw [this]; congr 1; omega)
    rw [List.length_cons, List.range'_succ]
    simp only [wpOpsX, wpOpX, h0]
    simp only [wpListX] at hl
    split
    · rename_i hw; rw [if_pos hw] at hl; exact Oper.wpX_mono hl ih
    · rename_i hw; rw [if_neg hw] at hl; exact ih _ _ hl
theorem wpX_region_lit {id : Nat} {l : List Oper} (h : wpListX P l.toArray Q l a w) : (Code.region id l.toArray false).wpX P Q a w := by
  refine wpX_region ?_
  have := wpOpsX_list (ops := l.toArray) l 0 (fun j => by simp) a w h
  rw [List.range_eq_range']
  simpa using this
theorem wpListX_plain {ops : Array Oper} {o : Oper} {rest : List Oper} (hg : o.guard = none)
    (h : ∀ K : Act → World → Prop, (∀ a w, wpListX P ops Q rest a w → K a w) → o.wpX P a w K Q) : wpListX P ops Q (o :: rest) a w := by
  simp only [wpListX, Region.wanted, hg, if_true]
  exact h _ fun _ _ h => h
omit C in
theorem stepG_back {main : Bool} {b : Frame} {fn : Func} {todo : List Item} {c : Frame} {cs : List Frame} {v : Value} {es : Array Event} (hf : P.funcs[b.fn]? = some fn) (hk : b.kind = .normal) (hd : a.defers = [])
    (hv : (results fn a.tmps).runT P w #[] = (.ok v w, es)) : stepG P main (G { b.at a todo with mode := .returning } (c :: cs)) w = .go (G (c.finish v) cs) w (seen P b.fn es) := by
  have h0 : (results fn a.tmps).run P w = .ok v w := by have := congrArg Prod.fst hv; simpa using this
  have h1 : (results fn a.tmps).events P w #[] = es := by have := congrArg Prod.snd hv; simpa using this
  simp [G, stepG, unwind, Frame.at, hd, hf, h0, h1, doReturn, hk, GStep.after]
theorem re_back {b : Frame} {fn : Func} {todo : List Item} {c : Frame} {cs : List Frame} {v : Value} (hf : P.funcs[b.fn]? = some fn) (hk : b.kind = .normal) (hd : a.defers = [])
    (hv : ∀ w₁, Rly w w₁ → ∃ es, (results fn a.tmps).runT P w₁ #[] = (.ok v w₁, es) ∧ DD P w₁ w₁ es) (h : C.Re (G (c.finish v) cs) w) : C.Re (G { b.at a todo with mode := .returning } (c :: cs)) w :=
  C.step rfl fun w₁ h₁ => by
    obtain ⟨es, h2, h3⟩ := hv w₁ h₁
    exact ⟨_, _, _, stepG_back hf hk hd h2, h3 _, C.rely h h₁⟩
omit C in
theorem stepG_fall {main : Bool} {b : Frame} {fn : Func} {todo : List Item} {c : Frame} {cs : List Frame} {ch : List PanicEntry} (hf : P.funcs[b.fn]? = some fn) (hd : a.defers = []) :
    stepG P main (G { b.at a todo with mode := .panicking ch } (c :: cs)) w = .go (G (c.raise ch) cs) w #[] := by
  simp [G, stepG, unwind, Frame.at, hd, Frame.catches, hf]
end
end Go.Sx
end
section
namespace Go.Bt
variable [Gnd]
open Go.Conc Go.ConcN
open Go.Sx (Rly spec isWg Gud Co)
open Go.ConcR (wgBlock WgAt mk DC0)
open Go.ConcN (sumTo upd sumTo_upd upd_ne upd_same sumTo_congr)
def EndsW (P : Program) (Post : Value → World → Prop) (m : Machine) (t : Trace) : Prop :=
  ∃ N last o w' t', runNT P (N + 1) m t = (.ended o w', t') ∧ runN P N m = .next last ∧ step P last = .ended o w' ∧ Go.Conc.Good P Post last o w' t'
section
variable {P : Program} {Post : Value → World → Prop} {Shun : Loc → Prop} {T : Trace} {gs : Array Goroutine} {w : World} {q : Nat → Nat}
theorem runN_of_NT {N : Nat} {m m' : Machine} {t t' : Trace} (h : runNT P N m t = (.next m', t')) : runN P N m = .next m' := by rw [← runNT_fst _ _ _ t, h]
theorem runN_cat {N M : Nat} {m m' : Machine} {r : Stepped} (h : runN P N m = .next m') (hk : runN P M m' = r) : runN P (N + M) m = r := by
  rw [runN_add, h]; exact hk
theorem EndsW.after {N : Nat} {m m' : Machine} {t t' : Trace} (hr : runNT P N m t = (.next m', t')) (h : EndsW P Post m' t') : EndsW P Post m t := by
  obtain ⟨M, last, o, w', t'', h1, h2, h3, h4⟩ := h
  refine ⟨N + M, last, o, w', t'', ?_, runN_cat (runN_of_NT hr) h2, h3, h4⟩
  rw [Nat.add_assoc, runNT_add, hr]; exact h1
theorem EndsW.step {m m' : Machine} {t : Trace} {ops : Array MemOp} (hs : stepT P m = (.next m', ops)) (h : EndsW P Post m' (t ++ ops)) : EndsW P Post m t :=
  EndsW.after (N := 1) (by simp only [runNT, hs]) h
/-- GOROUTINE 0's RETURN. -/
theorem LF.ends {a : Goroutine} {sl : Option (Nat × Nat)} (C : LF P Shun T gs w q) (ha : gs[0]? = some a) (hrun : a.status = .running)
    (h : ∀ w₁, Rly w w₁ → ∃ v es, stepG P true a w₁ = .ended (.done v) w₁ es ∧ Gud w₁ w₁ es ∧ Post v w₁) : EndsW P Post (crowd gs w sl) T := by
  obtain ⟨N, gs', w₁, w₂, sl', sl'', T', q', hr, hst, hsz, ha', hrel, C'⟩ := C.picked (sl := sl) ha hrun
  refine EndsW.after hr ?_
  obtain ⟨v, es, hend, hd, hpost⟩ := h w₂ hrel
  have hrt := runT_many_ended (P := P) (sl := sl'') (i := 0) ha' (show stepG P (0 == 0) a w₂ = _ from hend)
  obtain ⟨hp, _⟩ := lf_past_app (fn := a.frame.fn) (pos := a.frame.place) C' hd
  have hs : stepT P (crowd gs' w₁ sl') = (.ended (.done v) w₂, MemOp.ofEvents 0 a.frame.fn a.frame.place es) := hst.trans hrt
  refine ⟨0, crowd gs' w₁ sl', .done v, w₂, T' ++ MemOp.ofEvents 0 a.frame.fn a.frame.place es, by simp [runNT, hs], rfl, by simp [Go.step, hs], v, rfl, hpost, hp.clean, hp.over (fun _ h => h), ⟨fun x hx => ?_, rfl⟩, fun j x hx hj => ?_⟩
  · obtain ⟨j, hj⟩ := List.mem_iff_getElem?.1 hx
    rw [List.getElem?_drop] at hj
    exact ⟨_, QuitsD.leaves (C'.idle (1 + j) x (by omega) (by simpa [crowd] using hj))⟩
  · have hq : QuitsD P (q' j) (Deaf T' j) x := C'.idle j x (by omega) hx
    refine ⟨q' j, ?_⟩
    have e : (T' ++ MemOp.ofEvents 0 a.frame.fn a.frame.place es).deaf j (T' ++ MemOp.ofEvents 0 a.frame.fn a.frame.place es).size = Deaf T' j :=
      Deaf_other T' (g := j) (g' := 0) (by omega) _ (fun op hop => by obtain ⟨e, _, rfl⟩ := Conc.mem_ofEvents hop; rfl)
    rw [e]
    exact hq.hears _
/-- Where goroutine 0's record stands well between two plays. -/
def LRe (P : Program) (Post : Value → World → Prop) (g : Goroutine) (w : World) : Prop :=
  ∀ w₁, Rly w w₁ → Go.Sx.KS w₁ → ∀ (gs : Array Goroutine) (sl : Option (Nat × Nat)) (T : Trace) (q : Nat → Nat) (Shun : Loc → Prop), LF P Shun T gs w₁ q → gs[0]? = some g → EndsW P Post (crowd gs w₁ sl) T
theorem LRe.rely {g : Goroutine} {w₁ : World} (h : LRe P Post g w) (hr : Rly w w₁) : LRe P Post g w₁ := fun w₂ h₂ => h w₂ (hr.trans h₂)
theorem LRe.step {g : Goroutine} (hrun : g.status = .running) (h : ∀ w₁, Rly w w₁ → ∃ g' w' es, stepG P true g w₁ = .go g' w' es ∧ Gud w₁ w' es ∧ LRe P Post g' w') : LRe P Post g w := by
  intro w₁ h₁ hK gs sl T q Shun C ha
  obtain ⟨N, gs', w₂, w₃, sl', sl'', T', q', hr, hst, hsz, ha', hrel, C'⟩ := C.picked (sl := sl) ha hrun
  refine EndsW.after hr ?_
  obtain ⟨g', w', es, hgo, hd, hk⟩ := h w₃ (h₁.trans hrel)
  obtain ⟨C₂, ha₂⟩ := C'.own (a' := g') ha' hd
  have hrt := runT_crowd_go (P := P) (sl := sl'') (i := 0) ha' (show stepG P (0 == 0) g w₃ = _ from hgo)
  exact EndsW.step (hst.trans hrt) (hk w' (Rly.refl _) ((hK.rly hrel).gud hd) _ _ _ _ _ C₂ ha₂)
/-- Goroutine 0 between two plays. -/
@[reducible] def coLaw (P : Program) (Post : Value → World → Prop) : Co P where
  main := true
  Re := LRe P Post
  D := Gud
  good := id
  rely := LRe.rely
  step := LRe.step
theorem LRe.ends {a : Goroutine} (hrun : a.status = .running) (h : ∀ w₁, Rly w w₁ → Go.Sx.KS w₁ → ∃ v es, stepG P true a w₁ = .ended (.done v) w₁ es ∧ Gud w₁ w₁ es ∧ Post v w₁) : LRe P Post a w :=
  fun w₁ h₁ hK _ _ _ _ _ C ha => C.ends ha hrun fun w₂ h₂ => h w₂ (h₁.trans h₂) (hK.rly h₂)
/-- The first frame. -/
theorem lf_first (P : Program) (a : Goroutine) (w : World) : LF P (fun _ => False) #[] #[a] w (fun _ => 0) :=
  ⟨fun i g hi hg => by
    have : i < 1 := by simpa using (Array.getElem?_eq_some_iff.1 hg).1
    omega, rfl, fun _ _ => rfl, fun _ _ => rfl, ⟨fun said => by rintro ⟨i, j, _, ⟨a, b, ha, _⟩, _⟩; simp [Trace.act?] at ha, fun i a ha => by simp [touchAt, Trace.act?] at ha, fun i a ha => by simp [touchAt, Trace.act?] at ha, fun i a ha => by simp [touchAt, Trace.act?] at ha, fun g hg i a ha => by simp [touchAt, Trace.act?] at ha, fun g hg => rfl, fun _ _ h => h.elim⟩, by simp [sumTo, WRole.cn], fun i a ad ha => by simp [touchAt, Trace.act?] at ha, fun _ h => h.elim, fun _ _ h => h, Nat.le_refl _⟩
end
section
variable {P : Program} {Shun : Loc → Prop} {T : Trace} {gs : Array Goroutine} {w : World} {q : Nat → Nat}
/-- The group's block is made: the frame in which goroutine 0 holds the token, and nobody is hired. -/
theorem LF.begin (C : LF P Shun T gs w q) (hn : Go.Sx.n0 ≤ w.heap.size) : Fr { P := P, Shun := fun l => Shun l ∨ ∃ k, l = .cell ⟨w.heap.size, k, none⟩, Ch := fun _ => False, Wg := w.heap.size, Wk := Lst P w.heap.size 3, X := fun _ => False, wl := hn } (fun _ => .quit) 0 0 true T gs
    { w with heap := w.heap.push (.cells #[.int .u64 0, .int .u32 0] 80) } q := by
  have hold : ∀ (b : Nat) (o : Obj), w.heap[b]? = some o → (w.heap.push (.cells #[.int .u64 0, .int .u32 0] 80))[b]? = some o := fun b o hb => by
    have := (Array.getElem?_eq_some_iff.1 hb).1
    rw [Array.getElem?_push_lt this, ← hb]; exact (Array.getElem?_eq_getElem this).symm
  have hfresh : ∀ i a, touchAt T i = some a → ∀ k, a.loc ≠ .cell ⟨w.heap.size, k, none⟩ := fun i a ha k e => by
    have := C.low i a _ ha e
    simp at this
  refine ⟨fun i g hi hg => ?_, rfl, fun _ _ => rfl, fun i c h => (by cases h), fun i j c h => (by cases h), fun c h => h.elim, C.above, ?_, fun i x h => (by cases h), fun i x h => (by cases h), ?_, ?_, fun i a ad ha hl => ?_, fun ad hs => ?_, fun l hl hs => ?_, fun i x h => (by cases h), fun ad h => h.elim⟩
  · exact ⟨by omega, C.idle i g (by omega) hg⟩
  · have hp := C.past
    refine ⟨hp.clean, fun i a ha hm => (hp.known i a ha hm).imp id (Or.imp (fun h => ⟨.inl h.1, h.2⟩) fun ⟨_, _, _, h, _⟩ => h.elim), fun i a ha hs => ?_, fun i a ha hm => (hp.deafs i a ha hm).imp id (Or.imp id fun ⟨_, _, _, h⟩ => h.elim), fun g hg i a ha hw hs => ?_, fun g hg => ?_, fun g l hs => ?_⟩
    · rcases hs with hs | ⟨k, hk⟩
      · exact hp.quiet i a ha hs
      · exact absurd hk (hfresh i a ha k)
    · obtain ⟨x, hx, _⟩ := hs; cases hx
    · rcases hg with hg | ⟨rfl, _⟩
      · exact hg.elim
      · exact hp.hears 0 ⟨rfl, rfl⟩
    · obtain ⟨x, hx, _⟩ := hs; cases hx
  · have e0 : sumTo gs.size (fun i => (Role.quit).dn) = 0 := by
      have : ∀ n, sumTo n (fun _ => (Role.quit).dn) = 0 := fun n => by
        induction n with
        | zero => rfl
        | succ n ih => exact ih
      exact this _
    show WgS _ _ _
    unfold WgS
    simp only [e0]
    simp
  · have : ∀ n, sumTo n (fun _ => (Role.quit).dn) = 0 := fun n => by
      induction n with
      | zero => rfl
      | succ n ih => exact ih
    have := this gs.size
    omega
  · have := C.low i a ad ha hl
    show ad.block < (w.heap.push _).size
    rw [Array.size_push]; omega
  · rcases hs with hs | ⟨k, hk⟩
    · obtain ⟨o, h1, h2⟩ := C.shw ad hs
      exact ⟨o, hold _ _ h1, h2⟩
    · simp only [Loc.cell.injEq] at hk
      subst hk
      exact ⟨_, by show (w.heap.push _)[w.heap.size]? = _; simp; rfl, rfl⟩
  · rcases hs with hs | ⟨k, hk⟩
    · exact C.shc l hl hs
    · exact hl _ hk
/-- All are through, or on their way through a Done; goroutine 0 waits. -/
def wr : Role → WRole
  | .don => .don
  | _ => .quit
theorem Fr.toWait {p : Par} {role : Nat → Role} (C : Fr p role 0 0 true T gs w q) (hk : p.Wk = Lst p.P p.Wg 3) (hr : ∀ i, role i = .don ∨ role i = .quit) :
    WF p.P p.Wg p.Shun (fun i => wr (role i)) true T gs w q ∧ WgAt 80 p.Wg w (((cnt (fun i => wr (role i)) gs.size : Nat) : Int) * KK) 0 := by
  have hcn : ∀ i, (wr (role i)).cn = (role i).dn := fun i => by rcases hr i with h | h <;> rw [h] <;> rfl
  have hsum : sumTo gs.size (fun i => (wr (role i)).cn) = sumTo gs.size (fun i => (role i).dn) := sumTo_congr fun i _ => hcn i
  have hns : ∀ i, ¬ (role i).isSeat := fun i => by rcases hr i with h | h <;> rw [h] <;> exact fun h => h
  refine ⟨⟨fun i g hi hg => ?_, by show wr (role 0) = _; rw [C.rh]; rfl, fun i hi => by show wr (role i) = _; rw [C.out i hi]; rfl, C.above, ?_, by rw [hsum]; have := C.few; omega, C.low, C.shw, C.shc, p.wl⟩, ?_⟩
  · have := C.idle i g (by omega) hg
    rcases hr i with h | h
    · rw [h] at this; simp only [h, wr, WIdle]; rw [← hk]; exact this.2
    · rw [h] at this; simp only [h, wr, WIdle]; exact this.2
  · have hp := C.past
    refine ⟨hp.clean, fun i a ha hm => (hp.known i a ha hm).imp id (Or.imp id fun ⟨_, g, _, h, _⟩ => (hns g h).elim), hp.quiet, fun i a ha hm => (hp.deafs i a ha hm).imp id (Or.imp id fun ⟨_, g, _, h⟩ => (hns g h).elim), fun g hg i a ha hw hs => hs.elim, fun g hg => hp.hears g (.inr ⟨hg.1, rfl⟩), fun g l h => h.elim⟩
  · have := C.wg
    rw [← hsum, Nat.add_zero] at this
    exact this
/-- ████ GOROUTINE 0 WAITS FOR ALL: BEHIND IT IT GOES ON BETWEEN TWO PLAYS. ████ -/
theorem Fr.wait {p : Par} {role : Nat → Role} {A : Goroutine → Prop} {gf a : Goroutine} {M f : Nat} {sl : Option (Nat × Nat)} (C : Fr p role 0 0 true T gs w q) (hk : p.Wk = Lst p.P p.Wg 3) (hr : ∀ i, role i = .don ∨ role i = .quit) (hSh : ∀ k, p.Shun (.cell ⟨p.Wg, k, none⟩))
    (hA : ∀ g, A g → Q0 p.P p.Wg (W1 p.P p.Wg gf A) M g) (hAr : ∀ g, A g → g.status = .running) (hgf : gf.status = .running) (ha : gs[0]? = some a) (hW : Q0 p.P p.Wg (WKd p.P p.Wg A) f a) :
    ∃ N gs' w' sl' T' q', runNT p.P N (crowd gs w sl) T = (.next (crowd gs' w' sl'), T') ∧ gs'.size = gs.size ∧ gs'[0]? = some gf ∧ Rly w w' ∧ LF p.P p.Shun T' gs' w' q' := by
  obtain ⟨C', hwg⟩ := C.toWait hk hr
  have hd : Deaf T 0 = 0 := C.past.hears 0 (.inr ⟨rfl, rfl⟩)
  obtain ⟨N, m', t', hrun, gs', w', sl', role', q', rfl, hsz, ha', hrl, C₂, hq, _⟩ := waits_end hSh hA hAr hgf _ (crowd gs w sl) T
    ⟨gs, w, sl, _, q, .kd, f, a, _, _, rfl, rfl, ha, Rly.refl _, C'.deafen, ⟨hd, hW⟩, hwg, .opn trivial (fun i s => by rcases hr i with h | h <;> rw [h] <;> simp [wr]) (by simp), rfl⟩
  exact ⟨N, gs', w', sl', t', q', hrun, hsz, ha', hrl, lf_of_wf C₂ hq⟩
end
end Go.Bt
end
section
namespace Go.Bt
variable [Gnd]
open Go.Conc Go.ConcN Go.RowKit Go.Conc.Lib Go.ConcR.Gen
open Go.Sx (Rly spec isWg Gud)
open Go.ConcR (wgBlock WgAt mk DC0)
theorem qd_more {P : Program} : ∀ {n d : Nat} {g : Goroutine}, QuitsD P n d g → QuitsD P (n + 1) d g
  | 0, _, _, h => .inl h
  | _ + 1, _, _, h => h.imp id fun ⟨hs, g', es, h1, h2, h3⟩ => ⟨hs, g', es, h1, h2, qd_more h3⟩
theorem qd_mono {P : Program} {n n' d : Nat} {g : Goroutine} (h : QuitsD P n d g) (hn : n ≤ n') : QuitsD P n' d g := by
  induction hn with
  | refl => exact h
  | step _ ih => exact qd_more ih
theorem lst_more {P : Program} {Wg : Nat} : ∀ {n s d : Nat} {g : Goroutine}, Lst P Wg s n d g → Lst P Wg s (n + 1) d g
  | 0, _, _, _, h => h.elim
  | n + 1, s, d, g, h => by
    obtain ⟨h1, h2, h3⟩ := h
    refine ⟨h1, h2, ?_⟩
    rcases h3 with h3 | h3
    · exact .inl fun w st hw => let ⟨g', h4, h5⟩ := h3 w st hw; ⟨g', h4, lst_more h5⟩
    · refine .inr ?_
      match s with
      | 3 => exact fun w hw => let ⟨g', h4, h5⟩ := h3 w hw; ⟨g', h4, lst_more h5⟩
      | 2 => exact fun w hw => let ⟨g', h4, h5⟩ := h3 w hw; ⟨g', h4, lst_more h5⟩
      | 1 => exact ⟨h3.1, fun w hw => let ⟨g', h4, h5, h6⟩ := h3.2 w hw; ⟨g', h4, h5, qd_more h6⟩⟩
      | 0 => exact h3.elim
      | s + 4 => exact h3.elim
theorem lst_mono {P : Program} {Wg n n' s d : Nat} {g : Goroutine} (h : Lst P Wg s n d g) (hn : n ≤ n') : Lst P Wg s n' d g := by
  induction hn with
  | refl => exact h
  | step _ ih => exact lst_more ih
theorem don_more {P : Program} {Wg : Nat} : ∀ {n d : Nat} {g : Goroutine}, Don P Wg (Lst P Wg 3) n d g → Don P Wg (Lst P Wg 3) (n + 1) d g
  | 0, _, _, h => h.elim
  | n + 1, d, g, h => by
    obtain ⟨h1, h3⟩ := h
    refine ⟨h1, ?_⟩
    rcases h3 with h3 | ⟨hd, h3⟩
    · exact .inl fun w st hw => let ⟨g', es, h4, h5, h6⟩ := h3 w st hw; ⟨g', es, h4, h5, don_more h6⟩
    · exact .inr ⟨hd, fun w v wt h4 h5 h6 => let ⟨g', h7, h8, h9⟩ := h3 w v wt h4 h5 h6; ⟨g', h7, fun x => qd_more (h8 x), fun x => lst_more (h9 x)⟩⟩
theorem don_mono {P : Program} {Wg n n' d : Nat} {g : Goroutine} (h : Don P Wg (Lst P Wg 3) n d g) (hn : n ≤ n') : Don P Wg (Lst P Wg 3) n' d g := by
  induction hn with
  | refl => exact h
  | step _ ih => exact don_more ih
/-- There are worlds with such a group. -/
theorem wg_world (Wg : Nat) (w₀ : World) (st : Int) : ∃ w, WgS Wg w st :=
  ⟨{ w₀ with heap := (Array.replicate Wg (.pending #[] 0)).push (.cells #[.int .u64 st, .int .u32 0] 80) }, by
    show (Array.push _ _)[Wg]? = _
    rw [Array.getElem?_push, if_pos (by simp)]⟩
theorem lst_of_qg {P : Program} {Wg s m d : Nat} {S : Goroutine → Prop} (w₀ : World) (hd : 0 < d) (hS : ∀ g, S g → Lst P Wg s m d g) : ∀ {n : Nat} {g : Goroutine}, QG P false Wg S n g → Lst P Wg s (n + m) d g := by
  obtain ⟨w₁, hw₁⟩ := wg_world Wg w₀ 0
  intro n
  induction n with
  | zero => exact fun {g} h => lst_mono (hS g (h w₁ hw₁.live w₁ hw₁.live)) (by omega)
  | succ n ih =>
    intro g h
    rcases h w₁ hw₁.live with hs | ⟨hrun, hs⟩
    · exact lst_mono (hS g (hs w₁ hw₁.live)) (by omega)
    · rw [Nat.succ_add]
      refine ⟨hrun, hd, .inl fun w st hw => ?_⟩
      have := hs w hw.live
      cases hgo : stepG P false g w with
      | go g' w' es =>
        rw [hgo, goes_go] at this
        obtain ⟨⟨rfl, rfl⟩, hk⟩ := this
        exact ⟨g', rfl, ih fun w₂ hw₂ => by cases n <;> exact hk⟩
      | _ => rw [hgo] at this; exact this.elim
theorem don_of_qg {P : Program} {Wg m d : Nat} {S : Goroutine → Prop} (w₀ : World) (hS : ∀ g, S g → Don P Wg (Lst P Wg 3) m d g) : ∀ {n : Nat} {g : Goroutine}, QG P false Wg S n g → Don P Wg (Lst P Wg 3) (n + m) d g := by
  obtain ⟨w₁, hw₁⟩ := wg_world Wg w₀ 0
  intro n
  induction n with
  | zero => exact fun {g} h => don_mono (hS g (h w₁ hw₁.live w₁ hw₁.live)) (by omega)
  | succ n ih =>
    intro g h
    rcases h w₁ hw₁.live with hs | ⟨hrun, hs⟩
    · exact don_mono (hS g (hs w₁ hw₁.live)) (by omega)
    · rw [Nat.succ_add]
      refine ⟨hrun, .inl fun w st hw => ?_⟩
      have := hs w hw.live
      cases hgo : stepG P false g w with
      | go g' w' es =>
        rw [hgo, goes_go] at this
        obtain ⟨⟨rfl, rfl⟩, hk⟩ := this
        exact ⟨g', #[], by simp, rfl, ih fun w₂ hw₂ => by cases n <;> exact hk⟩
      | _ => rw [hgo] at this; exact this.elim
section
variable (P : Program) (Wg qt : Nat)
def DSm (g : Goroutine) : Prop := g.status = .running ∧ mayWake P g = true ∧ ∀ w, WgS Wg w 0 → ∃ g', stepG P false g w = .go g' (w.setCell (smB Wg) (.int .u32 1)) (semEvents (smB Wg)) ∧ g'.status = .running ∧ QuitsD P (qt + 60) 1 g'
def DSt (g : Goroutine) : Prop := g.status = .running ∧ ∀ w, WgS Wg w 1 → ∃ g', stepG P false g w = .go g' (w.setCell (stA Wg) (.int .u64 0)) #[wrA (stA Wg)] ∧ QG P false Wg (DSm P Wg qt) 60 g'
def DLd (g : Goroutine) : Prop := g.status = .running ∧ ∀ w, WgS Wg w 1 → ∃ g', stepG P false g w = .go g' w #[rdA (stA Wg)] ∧ QG P false Wg (DSt P Wg qt) 60 g'
def DAdd (g : Goroutine) : Prop := g.status = .running ∧ ∀ (w : World) (v wt : Nat), wt ≤ 1 → v < 2147483647 → WgS Wg w (((v + 1 : Nat) : Int) * KK + wt) →
  ∃ g', stepG P false g w = .go g' (w.setCell (stA Wg) (.int .u64 ((v : Int) * KK + wt))) #[rdA (stA Wg), wrA (stA Wg)] ∧ (¬ (v = 0 ∧ wt = 1) → QuitsD P (qt + 120) 1 g') ∧ (v = 0 ∧ wt = 1 → QG P false Wg (DLd P Wg qt) 120 g')
def DDis (g : Goroutine) : Prop := g.status = .running ∧ ∃ g', (∀ w, stepG P false g w = .go g' w #[mk .disable]) ∧ QG P false Wg (DAdd P Wg qt) 60 g'
def DRel (g : Goroutine) : Prop := g.status = .running ∧ ∃ g', (∀ w, stepG P false g w = .go g' w #[mk (.releaseMerge (stA Wg))]) ∧ QG P false Wg (DDis P Wg qt) 20 g'
end
section
variable {P : Program} {Wg qt : Nat}
theorem DSm.lst {g : Goroutine} (h : DSm P Wg qt g) : Lst P Wg 1 (qt + 61) 1 g := ⟨h.1, by omega, .inr ⟨h.2.1, h.2.2⟩⟩
theorem DSt.lst (w₀ : World) {g : Goroutine} (h : DSt P Wg qt g) : Lst P Wg 2 (60 + (qt + 61) + 1) 1 g := ⟨h.1, by omega, .inr fun w hw => by
  obtain ⟨g', h1, h2⟩ := h.2 w hw
  exact ⟨g', h1, lst_of_qg w₀ (by omega) (fun g hg => hg.lst) h2⟩⟩
theorem DLd.lst (w₀ : World) {g : Goroutine} (h : DLd P Wg qt g) : Lst P Wg 3 (60 + (60 + (qt + 61) + 1) + 1) 1 g := ⟨h.1, by omega, .inr fun w hw => by
  obtain ⟨g', h1, h2⟩ := h.2 w hw
  exact ⟨g', h1, lst_of_qg w₀ (by omega) (fun g hg => hg.lst w₀) h2⟩⟩
theorem DAdd.don (w₀ : World) {g : Goroutine} (h : DAdd P Wg qt g) : Don P Wg (Lst P Wg 3) (qt + 310) 1 g := ⟨h.1, .inr ⟨by omega, fun w v wt h1 h2 hw => by
  obtain ⟨g', h3, h4, h5⟩ := h.2 w v wt h1 h2 hw
  exact ⟨g', h3, fun x => qd_mono (h4 x) (by omega), fun x => lst_mono (lst_of_qg w₀ (by omega) (fun g hg => hg.lst w₀) (h5 x)) (by omega)⟩⟩⟩
theorem DDis.don (w₀ : World) {g : Goroutine} (h : DDis P Wg qt g) : Don P Wg (Lst P Wg 3) (qt + 371) 0 g := ⟨h.1, .inl fun w st hw => by
  obtain ⟨g', h3, h4⟩ := h.2
  exact ⟨g', _, fun e he => by simp only [List.mem_toArray, List.mem_cons, List.not_mem_nil, or_false] at he; subst he; rfl, h3 w, don_mono (don_of_qg w₀ (fun g hg => hg.don w₀) h4) (by omega)⟩⟩
theorem DRel.don (w₀ : World) {g : Goroutine} (h : DRel P Wg qt g) : Don P Wg (Lst P Wg 3) (qt + 400) 0 g := ⟨h.1, .inl fun w st hw => by
  obtain ⟨g', h3, h4⟩ := h.2
  exact ⟨g', _, fun e he => by simp only [List.mem_toArray, List.mem_cons, List.not_mem_nil, or_false] at he; subst he; rfl, h3 w, don_mono (don_of_qg w₀ (fun g hg => hg.don w₀) h4) (by omega)⟩⟩
theorem don_of_walk (w₀ : World) {n : Nat} {g : Goroutine} (h : QG P false Wg (DRel P Wg qt) n g) : Don P Wg (Lst P Wg 3) (n + (qt + 400)) 0 g := don_of_qg w₀ (fun _ hg => hg.don w₀) h
end
end Go.Bt
end
