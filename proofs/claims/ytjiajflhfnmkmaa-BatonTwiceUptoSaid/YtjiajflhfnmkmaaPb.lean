/- A PLAY OF THE BATON: what the row rests on. -/
import Derived.Test.YtjiajflhfnmkmaaPa
import Derived.Conc.WgGenN2
set_option linter.unusedVariables false
set_option linter.unusedSimpArgs false
set_option linter.unusedSectionVars false
section
namespace Go.Bt
variable [Gnd]
open Go.Conc
open Go.Sx (Rly spec isWg Gud)
open Go.ConcN (sumTo upd sumTo_upd upd_ne upd_same sumTo_congr)
/-- ████ A walk of the holder's: each step its own; ahead of each the others may have turned the world by R. ████ -/
inductive Walks (P : Program) (main : Bool) (R : World → World → Prop) (D : World → World → Array Event → Prop) (Stop : Goroutine → World → Prop) : Goroutine → World → Prop
  | stop {g : Goroutine} {w : World} (h : ∀ w₁, R w w₁ → Stop g w₁) : Walks P main R D Stop g w
  | step {g : Goroutine} {w : World} (g' : World → Goroutine) (w' : World → World) (es : World → Array Event) (hs : g.status = .running)
      (h : ∀ w₁, R w w₁ → stepG P main g w₁ = .go (g' w₁) (w' w₁) (es w₁) ∧ D w₁ (w' w₁) (es w₁)) (k : ∀ w₁, R w w₁ → Walks P main R D Stop (g' w₁) (w' w₁)) : Walks P main R D Stop g w
section
variable {P : Program} {main : Bool} {R : World → World → Prop} {D : World → World → Array Event → Prop} {Stop : Goroutine → World → Prop}
theorem Walks.go {g : Goroutine} {w : World} (hs : g.status = .running) (h : ∀ w₁, R w w₁ → ∃ g' w' es, stepG P main g w₁ = .go g' w' es ∧ D w₁ w' es ∧ Walks P main R D Stop g' w') : Walks P main R D Stop g w := by
  classical
  refine .step (fun w₁ => if hr : R w w₁ then (h w₁ hr).choose else g) (fun w₁ => if hr : R w w₁ then (h w₁ hr).choose_spec.choose else w) (fun w₁ => if hr : R w w₁ then (h w₁ hr).choose_spec.choose_spec.choose else #[]) hs (fun w₁ hr => ?_) (fun w₁ hr => ?_)
  · simp only [dif_pos hr]
    have := (h w₁ hr).choose_spec.choose_spec.choose_spec
    exact ⟨this.1, this.2.1⟩
  · simp only [dif_pos hr]
    exact (h w₁ hr).choose_spec.choose_spec.choose_spec.2.2
theorem Walks.rely (tr : ∀ a b c, R a b → R b c → R a c) {g : Goroutine} {w w₁ : World} (h : Walks P main R D Stop g w) (hr : R w w₁) : Walks P main R D Stop g w₁ := by
  cases h with
  | stop h => exact .stop fun w₂ h₂ => h w₂ (tr _ _ _ hr h₂)
  | step g' w' es hs h k => exact .step g' w' es hs (fun w₂ h₂ => h w₂ (tr _ _ _ hr h₂)) (fun w₂ h₂ => k w₂ (tr _ _ _ hr h₂))
/-- One walk behind another. -/
theorem Walks.bind {Stop' : Goroutine → World → Prop} {g : Goroutine} {w : World} (h : Walks P main R D Stop g w) (refl : ∀ a, R a a) (k : ∀ g w, Stop g w → Walks P main R D Stop' g w) : Walks P main R D Stop' g w := by
  induction h with
  | stop h => exact k _ _ (h _ (refl _))
  | step g' w' es hs h _ ih => exact .step g' w' es hs h ih
theorem Walks.weaken {R' : World → World → Prop} {D' : World → World → Array Event → Prop} {Stop' : Goroutine → World → Prop} {g : Goroutine} {w : World} (h : Walks P main R D Stop g w) (hR : ∀ a b, R' a b → R a b) (hD : ∀ a b e, D a b e → D' a b e) (hS : ∀ g w, Stop g w → Stop' g w) :
    Walks P main R' D' Stop' g w := by
  induction h with
  | stop h => exact .stop fun w₁ hr => hS _ _ (h w₁ (hR _ _ hr))
  | step g' w' es hs h _ ih => exact .step g' w' es hs (fun w₁ hr => ⟨(h w₁ (hR _ _ hr)).1, hD _ _ _ (h w₁ (hR _ _ hr)).2⟩) (fun w₁ hr => ih w₁ (hR _ _ hr))
end
/-- What the holder's step leaves alone; X: the sealed cells that it may turn. -/
structure DX (X : Addr → Prop) (w w' : World) (es : Array Event) : Prop where
  tape : w'.tape = w.tape
  os : w'.os = w.os
  output : w'.output = w.output
  size : w.heap.size ≤ w'.heap.size
  types : ∀ (b : Nat) (o : Obj), w.heap[b]? = some o → spec o = true → ∃ o', w'.heap[b]? = some o' ∧ spec o' = true ∧ isWg o' = isWg o
  cells : ∀ (a : Addr) (v : Value) (o : Obj), w.heap[a.block]? = some o → spec o = true → ¬ X a → w.cell? a = some v → w'.cell? a = some v
  same : ∀ (b : Nat) (o : Obj), w.heap[b]? = some o → isWg o = true ∨ o.isChan = true → w'.heap[b]? = some o
  evs : ∀ e ∈ es, (∀ a, e.loc = .cell a → a.block < w'.heap.size ∧ ∀ o, w.heap[a.block]? = some o → isWg o = false ∧ (e.write = true → spec o = true → X a)) ∧ ∀ m, e.loc = .mark m → Go.Sx.okMark m = true
theorem DX.of_gud {X : Addr → Prop} {w w' : World} {es : Array Event} (h : Gud w w' es) : DX X w w' es :=
  ⟨h.tape, h.os, h.output, h.size, fun b o hb hs => ⟨o, h.keep b o hb (.inl hs), hs, rfl⟩, fun a v o hb hs _ hc => by
    have := h.keep _ o hb (.inl hs)
    unfold World.cell? at hc ⊢
    rw [hb] at hc; rw [this]; exact hc, fun b o hb hs => h.keep b o hb (hs.imp Go.Sx.spec_of_wg Go.Sx.nc_of_chan), fun e he => by
    obtain ⟨h1, h2⟩ := h.evs e he
    refine ⟨fun a ha => ⟨(h1 a ha).1, fun o ho => ⟨((h1 a ha).2 o ho).1, fun hw hs => ?_⟩⟩, h2⟩
    rw [((h1 a ha).2 o ho).2 hw] at hs; cases hs⟩
section
variable {p : Par} {role : Nat → Role} {h e : Nat} {hm : Bool} {T : Trace} {gs : Array Goroutine} {w : World} {q : Nat → Nat}
theorem DX.touch {X : Addr → Prop} {w w' : World} {es : Array Event} (hd : DX X w w' es) {e : Event} (he : e ∈ es) {b : Touch} (hb : (MemAct.ofEvent e).touch? = some b) {a : Addr} (ha : b.loc = .cell a) : e.loc = .cell a ∧ (b.write = true → e.write = true) := by
  obtain ⟨l, wr, sy⟩ := e
  obtain ⟨_, hmk⟩ := hd.evs _ he
  unfold MemAct.ofEvent at hb
  split at hb
  · simp [MemAct.touch?] at hb
  · rename_i e₀ m b₀ s₀ heq
    have hl : l = .mark m := by cases heq; rfl
    have hm := hmk m hl
    cases m <;> first
      | (simp [MemAct.touch?] at hb; done)
      | (simp [Go.Sx.okMark] at hm; done)
  · simp only [MemAct.touch?, Option.some.injEq] at hb
    subst hb
    exact ⟨ha, id⟩
/-- The holder's own step. -/
theorem Fr.own (C : Fr p role h e hm T gs w q) {a a' : Goroutine} {w' : World} {es : Array Event} (ha : gs[h]? = some a) (hd : DX p.X w w' es) :
    Fr p role h e hm (T ++ MemOp.ofEvents h a.frame.fn a.frame.place es) ((gs.map (woken p.P a a' w')).setIfInBounds h a') w' q ∧ ((gs.map (woken p.P a a' w')).setIfInBounds h a')[h]? = some a' := by
  have hlt : h < gs.size := (Array.getElem?_eq_some_iff.1 ha).1
  have hops : ∀ op ∈ MemOp.ofEvents h a.frame.fn a.frame.place es, op.g = h := fun op hop => by obtain ⟨e, _, rfl⟩ := Conc.mem_ofEvents hop; rfl
  have hdf : Deaf (T ++ MemOp.ofEvents h a.frame.fn a.frame.place es) h = Deaf T h := by
    rw [Deaf_own]; exact deafBehind_still (fun e he => ⟨fun h => absurd ((hd.evs e he).2 _ h) (by simp [Go.Sx.okMark]), fun h => absurd ((hd.evs e he).2 _ h) (by simp [Go.Sx.okMark])⟩) _
  have hch : ∀ c, p.Ch c → w'.heap[c]? = w.heap[c]? := fun c hc => by
    obtain ⟨k, hk⟩ := C.chans c hc
    rw [hd.same c _ hk (.inr rfl), hk]
  have hpro : ∀ i, StP (role i).st w' := fun i x hx => by
    obtain ⟨o, h1, h2, h3⟩ := C.pro i x hx
    obtain ⟨o', h4, h5, h6⟩ := hd.types _ o h1 h2
    exact ⟨o', h4, h5, h6.trans h3⟩
  have hkeep : ∀ i, StC (role i).st w' := fun i x hx => by
    obtain ⟨o, h1, h2, _⟩ := C.pro i x hx
    exact hd.cells _ _ o h1 h2 (C.nox i x hx) (C.keep i x hx)
  have hwg : w'.heap[p.Wg]? = w.heap[p.Wg]? := by rw [hd.same _ _ C.wg (.inl rfl), C.wg]
  refine ⟨⟨fun x y hx hy => ?_, C.rh, fun x hx => C.out x (by simpa using hx), C.seats, C.inj, fun c hc => ?_, fun j hj => ?_, ?_, hkeep, hpro, ?_, by simpa using C.few, low_app C.low hd.size ?_, fun ad hs => ?_, C.shc, C.nox, fun ad hx => Nat.lt_of_lt_of_le (C.xlow ad hx) hd.size⟩, Array.getElem?_setIfInBounds_self_of_lt (by simpa using hlt)⟩
  · rw [Array.getElem?_setIfInBounds_ne (fun e => hx e.symm), Array.getElem?_map] at hy
    obtain ⟨y₀, hy₀, rfl⟩ := Option.map_eq_some_iff.1 hy
    rw [woken_of_again (C.fixed hx hy₀ fun c hc => by obtain ⟨k, hk⟩ := C.chans c hc; exact ⟨_, _, _, _, _, by rw [hch c hc]; exact hk⟩)]
    exact (C.idle x y₀ hx hy₀).other (fun z => hx z.symm) hops
  · obtain ⟨k, hk⟩ := C.chans c hc; exact ⟨k, by rw [hch c hc]; exact hk⟩
  · simp only [Array.size_setIfInBounds, Array.size_map] at hj
    rw [Deaf_other T (g' := h) (by omega) _ hops]
    exact C.above j hj
  · refine C.past.appH (fun g hg => .inl hg) hops (fun op hop b hb hw g hg hs => ?_) (fun op hop b hb hs => ?_) (fun _ => hdf)
    · obtain ⟨ev, he, rfl⟩ := Conc.mem_ofEvents hop
      obtain ⟨x, hx, hl⟩ := hs
      obtain ⟨e1, e2⟩ := hd.touch he hb hl
      obtain ⟨o, h1, h2, _⟩ := C.pro g x hx
      exact C.nox g x hx ((((hd.evs ev he).1 _ e1).2 o h1).2 (e2 hw) h2)
    · obtain ⟨ev, he, rfl⟩ := Conc.mem_ofEvents hop
      cases hl : b.loc with
      | cell ad =>
        rw [hl] at hs
        obtain ⟨o, h1, h2⟩ := C.shw ad hs
        obtain ⟨e1, _⟩ := hd.touch he hb hl
        have := (((hd.evs ev he).1 _ e1).2 o h1).1
        rw [h2] at this; cases this
      | _ => rw [hl] at hs; exact absurd hs (C.shc _ (by intro ad; simp))
  · have := C.wg
    simp only [Array.size_setIfInBounds, Array.size_map]
    rw [WgS, hwg]; exact this
  · intro op hop b hb ad hl
    obtain ⟨ev, he, rfl⟩ := Conc.mem_ofEvents hop
    obtain ⟨e1, _⟩ := hd.touch he hb hl
    exact ((hd.evs ev he).1 _ e1).1
  · obtain ⟨o, h1, h2⟩ := C.shw ad hs
    exact ⟨o, hd.same _ o h1 (.inl h2), h2⟩
theorem Fr.chsame (C : Fr p role h e hm T gs w q) {w' : World} (hr : Rly w w') : ∀ c, p.Ch c → w'.heap[c]? = w.heap[c]? := fun c hc => by
  obtain ⟨k, hk⟩ := C.chans c hc
  rcases hr.heap _ _ hk with h1 | ⟨h1, _⟩
  · rw [h1, hk]
  · cases h1
/-- THE HOLDER, RUNNING, IS PICKED IN THE END. -/
theorem Fr.picked (hSh : ∀ k, p.Shun (.cell ⟨p.Wg, k, none⟩)) {a : Goroutine} {sl : Option (Nat × Nat)} (ha : gs[h]? = some a) (hrun : a.status = .running) (C : Fr p role h e hm T gs w q) :
    ∃ (N : Nat) (gs' : Array Goroutine) (w₁ w₂ : World) (sl' sl'' : Option (Nat × Nat)) (T' : Trace) (q' : Nat → Nat) (role' : Nat → Role), runNT p.P N (crowd gs w sl) T = (.next (crowd gs' w₁ sl'), T') ∧
      stepT p.P (crowd gs' w₁ sl') = runT p.P (crowd gs' w₂ sl'') h ∧ gs'.size = gs.size ∧ gs'[h]? = some a ∧ Rly w w₂ ∧ Fr p role' h e hm T' gs' w₂ q' ∧ Same role role' := by
  obtain ⟨N, m', T', hr, gs', w₁, w₂, sl', sl'', q', role', rfl, hst, hsz, ha', hrel, C', hsame⟩ := runs_until (P := p.P)
    (Inv := fun μ m t => ∃ gs₁ w₁ sl₁ q₁ role₁, m = crowd gs₁ w₁ sl₁ ∧ gs₁.size = gs.size ∧ gs₁[h]? = some a ∧ Rly w w₁ ∧ Fr p role₁ h e hm t gs₁ w₁ q₁ ∧ Same role role₁ ∧ μ = sumTo gs₁.size q₁)
    (Done := fun m t => ∃ gs₁ w₁ w₂ sl₁ sl₂ q₁ role₁, m = crowd gs₁ w₁ sl₁ ∧ stepT p.P (crowd gs₁ w₁ sl₁) = runT p.P (crowd gs₁ w₂ sl₂) h ∧ gs₁.size = gs.size ∧ gs₁[h]? = some a ∧ Rly w w₂ ∧ Fr p role₁ h e hm t gs₁ w₂ q₁ ∧ Same role role₁)
    (fun μ m t ⟨gs₁, w₁, sl₁, q₁, role₁, hmm, hsz, ha₁, hrel, C₁, hsame, hμ⟩ => by
      subst hmm
      obtain ⟨i, g, d, sl', hi, hg, hst⟩ := crowd_pick (P := p.P) (w := w₁) (sl := sl₁) (C₁.awake ha₁ (.inl hrun)) ⟨h, a, ha₁, hrun⟩
      have Cd := C₁.at d
      have hrel' : Rly w (w₁.at d) := hrel.trans (Rly.at w₁ d)
      by_cases ei : i = h
      · subst ei
        exact .inl ⟨gs₁, w₁, w₁.at d, sl₁, sl', q₁, role₁, rfl, hst, hsz, ha₁, hrel', Cd, hsame⟩
      · obtain ⟨gs', w', ops, q', role', hrt, hsz', hgh, hrl, _, C', hlt, _, hs1, _, _, _⟩ := Cd.other (sl := sl') hSh hi ei hg (fun gx hgx _ _ => by rw [ha₁] at hgx; obtain rfl := Option.some.inj hgx; exact again_of_running (.inl hrun) _)
          (fun c z a' L B g₂ _ _ gx hgx => by rw [ha₁] at hgx; obtain rfl := Option.some.inj hgx; exact offersAt_of_not_blocked (by rw [hrun]; simp) _ _)
        exact .inr ⟨_, _, sumTo gs'.size q', by rw [hst]; exact hrt, by rw [hsz']; omega, gs', w', sl', q', role', rfl, hsz'.trans hsz, by rw [hgh]; exact ha₁, hrel'.trans hrl, C', hsame.trans hs1, rfl⟩)
    _ _ T ⟨gs, w, sl, q, role, rfl, rfl, ha, Rly.refl _, C, Same.refl _, rfl⟩
  exact ⟨N, gs', w₁, w₂, sl', sl'', T', q', role', hr, hst, hsz, ha', hrel, C', hsame⟩
/-- THE HOLDER, RUNNING, IS PICKED IN THE END; it hears as before. -/
theorem Fr.pickedD (hSh : ∀ k, p.Shun (.cell ⟨p.Wg, k, none⟩)) {a : Goroutine} {sl : Option (Nat × Nat)} (ha : gs[h]? = some a) (hrun : a.status = .running) (C : Fr p role h e hm T gs w q) :
    ∃ (N : Nat) (gs' : Array Goroutine) (w₁ w₂ : World) (sl' sl'' : Option (Nat × Nat)) (T' : Trace) (q' : Nat → Nat) (role' : Nat → Role), runNT p.P N (crowd gs w sl) T = (.next (crowd gs' w₁ sl'), T') ∧
      stepT p.P (crowd gs' w₁ sl') = runT p.P (crowd gs' w₂ sl'') h ∧ gs'.size = gs.size ∧ gs'[h]? = some a ∧ Rly w w₂ ∧ Fr p role' h e hm T' gs' w₂ q' ∧ Same role role' ∧ Deaf T' h = Deaf T h := by
  obtain ⟨N, m', T', hr, gs', w₁, w₂, sl', sl'', q', role', rfl, hst, hsz, ha', hrel, C', hsame, hdf⟩ := runs_until (P := p.P)
    (Inv := fun μ m t => ∃ gs₁ w₁ sl₁ q₁ role₁, m = crowd gs₁ w₁ sl₁ ∧ gs₁.size = gs.size ∧ gs₁[h]? = some a ∧ Rly w w₁ ∧ Fr p role₁ h e hm t gs₁ w₁ q₁ ∧ Same role role₁ ∧ Deaf t h = Deaf T h ∧ μ = sumTo gs₁.size q₁)
    (Done := fun m t => ∃ gs₁ w₁ w₂ sl₁ sl₂ q₁ role₁, m = crowd gs₁ w₁ sl₁ ∧ stepT p.P (crowd gs₁ w₁ sl₁) = runT p.P (crowd gs₁ w₂ sl₂) h ∧ gs₁.size = gs.size ∧ gs₁[h]? = some a ∧ Rly w w₂ ∧ Fr p role₁ h e hm t gs₁ w₂ q₁ ∧ Same role role₁ ∧ Deaf t h = Deaf T h)
    (fun μ m t ⟨gs₁, w₁, sl₁, q₁, role₁, hmm, hsz, ha₁, hrel, C₁, hsame, hdf, hμ⟩ => by
      subst hmm
      obtain ⟨i, g, d, sl', hi, hg, hst⟩ := crowd_pick (P := p.P) (w := w₁) (sl := sl₁) (C₁.awake ha₁ (.inl hrun)) ⟨h, a, ha₁, hrun⟩
      have Cd := C₁.at d
      have hrel' : Rly w (w₁.at d) := hrel.trans (Rly.at w₁ d)
      by_cases ei : i = h
      · subst ei
        exact .inl ⟨gs₁, w₁, w₁.at d, sl₁, sl', q₁, role₁, rfl, hst, hsz, ha₁, hrel', Cd, hsame, hdf⟩
      · obtain ⟨gs', w', ops, q', role', hrt, hsz', hgh, hrl, _, C', hlt, _, hs1, _, _, hdo⟩ := Cd.other (sl := sl') hSh hi ei hg (fun gx hgx _ _ => by rw [ha₁] at hgx; obtain rfl := Option.some.inj hgx; exact again_of_running (.inl hrun) _)
          (fun c z a' L B g₂ _ _ gx hgx => by rw [ha₁] at hgx; obtain rfl := Option.some.inj hgx; exact offersAt_of_not_blocked (by rw [hrun]; simp) _ _)
        exact .inr ⟨_, _, sumTo gs'.size q', by rw [hst]; exact hrt, by rw [hsz']; omega, gs', w', sl', q', role', rfl, hsz'.trans hsz, by rw [hgh]; exact ha₁, hrel'.trans hrl, C', hsame.trans hs1, hdo.trans hdf, rfl⟩)
    _ _ T ⟨gs, w, sl, q, role, rfl, rfl, ha, Rly.refl _, C, Same.refl _, rfl, rfl⟩
  exact ⟨N, gs', w₁, w₂, sl', sl'', T', q', role', hr, hst, hsz, ha', hrel, C', hsame, hdf⟩
theorem runNT_succ {P : Program} {N : Nat} {m m₁ m₂ : Machine} {t t₁ : Trace} {ops : Array MemOp} (h : runNT P N m t = (.next m₁, t₁)) (hs : stepT P m₁ = (.next m₂, ops)) : runNT P (N + 1) m t = (.next m₂, t₁ ++ ops) := by
  rw [runNT_add, h]; simp only [runNT, hs]
theorem runNT_cat {P : Program} {N N' : Nat} {m m₁ m₂ : Machine} {t t₁ t₂ : Trace} (h : runNT P N m t = (.next m₁, t₁)) (hk : runNT P N' m₁ t₁ = (.next m₂, t₂)) : runNT P (N + N') m t = (.next m₂, t₂) := by
  rw [runNT_add, h]; exact hk
/-- ████ THE HOLDER's WALK, ON WHATEVER TAPE. ████ -/
theorem Fr.hold (hSh : ∀ k, p.Shun (.cell ⟨p.Wg, k, none⟩)) {D : World → World → Array Event → Prop} {Stop : Goroutine → World → Prop} (hD : ∀ w w' es, D w w' es → DX p.X w w' es) {a : Goroutine} (hW : Walks p.P (h == 0) Rly D Stop a w) :
    ∀ {gs : Array Goroutine} {sl : Option (Nat × Nat)} {T : Trace} {q : Nat → Nat} {role₀ : Nat → Role}, Same role role₀ → gs[h]? = some a → Fr p role₀ h e hm T gs w q →
    ∃ (N : Nat) (gs' : Array Goroutine) (a' : Goroutine) (w' : World) (sl' : Option (Nat × Nat)) (T' : Trace) (q' : Nat → Nat) (role' : Nat → Role),
      runNT p.P N (crowd gs w sl) T = (.next (crowd gs' w' sl'), T') ∧ gs'.size = gs.size ∧ gs'[h]? = some a' ∧ Stop a' w' ∧ Fr p role' h e hm T' gs' w' q' ∧ Same role role' := by
  induction hW with
  | stop hs => exact fun hsm ha C => ⟨0, _, _, _, _, _, _, _, rfl, rfl, ha, hs _ (Rly.refl _), C, hsm⟩
  | step g' w' es hs hstep _ ih =>
    intro gs sl T q role₀ hsm ha C
    obtain ⟨N, gs₁, w₁, w₂, sl₁, sl₂, T₁, q₁, role₁, hr, hst, hsz, ha₁, hrel, C₁, hsm₁⟩ := C.picked (sl := sl) hSh ha hs
    obtain ⟨hgo, hd⟩ := hstep w₂ hrel
    obtain ⟨C₂, ha₂⟩ := C₁.own (a' := g' w₂) ha₁ (hD _ _ _ hd)
    have hrt := runT_crowd_go (P := p.P) (sl := sl₂) ha₁ hgo
    obtain ⟨N', gs', a', w'', sl', T', q', role', hr', hsz', ha', hS, C', hsm'⟩ := ih w₂ hrel (sl := sl₂) (hsm.trans hsm₁) ha₂ C₂
    exact ⟨N + 1 + N', gs', a', w'', sl', T', q', role', runNT_cat (runNT_succ hr (hst.trans hrt)) hr', by rw [hsz']; simpa using hsz, ha', hS, C', hsm'⟩
end
end Go.Bt
end
section
namespace Go.Bt
variable [Gnd]
open Go.Conc
open Go.Sx (Rly spec isWg Gud)
open Go.ConcN (sumTo upd sumTo_upd upd_ne upd_same sumTo_congr sumTo_upd_out)
theorem cell_setChan {w : World} {c : Nat} {o : Obj} (hc : w.heap[c]? = some o) (ho : o.isChan = true) (cap : Nat) (buf : Array Value) (cl : Bool) (a b : Nat) (tm : Bool) {ad : Addr} {v : Value} (hv : w.cell? ad = some v) : (w.setChan c cap buf cl a b tm).cell? ad = some v := by
  have hne : c ≠ ad.block := fun e => by
    unfold World.cell? at hv
    rw [← e, hc] at hv
    cases o <;> simp [Obj.isChan] at ho hv
  unfold World.cell? at hv ⊢
  rw [heap_setChan_ne w _ _ _ _ _ _ hne]; exact hv
theorem StC.setChan {L : Stl} {w : World} (h : StC L w) {c : Nat} {o : Obj} (hc : w.heap[c]? = some o) (ho : o.isChan = true) (cap : Nat) (buf : Array Value) (cl : Bool) (a b : Nat) (tm : Bool) : StC L (w.setChan c cap buf cl a b tm) :=
  fun x hx => cell_setChan hc ho _ _ _ _ _ _ (h x hx)
theorem StP.setChan {L : Stl} {w : World} (h : StP L w) {c : Nat} {o : Obj} (hc : w.heap[c]? = some o) (ho : o.isChan = true) (cap : Nat) (buf : Array Value) (cl : Bool) (a b : Nat) (tm : Bool) : StP L (w.setChan c cap buf cl a b tm) :=
  fun x hx => by
    obtain ⟨o', h1, h2, h3⟩ := h x hx
    have hne : c ≠ x.1.block := fun e => by
      rw [← e, hc] at h1; obtain rfl := Option.some.inj h1
      cases o <;> simp [Obj.isChan, spec] at ho h2
    exact ⟨o', by rw [heap_setChan_ne w _ _ _ _ _ _ hne]; exact h1, h2, h3⟩
section
variable {p : Par} {role : Nat → Role} {h e : Nat} {T : Trace} {gs : Array Goroutine} {w : World} {q : Nat → Nat}
/-- What the giver is behind its send. -/
inductive Gives (p : Par) (role : Nat → Role) (w : World) : Nat → Nat → Role → Prop
  | don (e : Nat) : Gives p role w (e + 1) e .don
  | quit (e : Nat) : Gives p role w e e .quit
  | seat (e c : Nat) (z : Value) (home : Goroutine → Prop) (L : Stl) : p.Ch c → (∀ x, (role x).ch ≠ some c) → StC L w → StP L w → (∀ x ∈ L, ¬ p.X x.1) → Gives p role w e e (.seat c z home L)
theorem Gives.rly {e e' : Nat} {r' : Role} {role₁ : Nat → Role} {w₁ : World} (h : Gives p role w e e' r') (hs : Same role role₁) (hw : Rly w w₁) : Gives p role₁ w₁ e e' r' := by
  cases h with
  | don => exact .don _
  | quit => exact .quit _
  | seat e c z home L h1 h2 h3 h4 h5 => exact .seat e c z home L h1 (fun x => by rw [(hs x).ch]; exact h2 x) (h3.rly h4 hw) (h4.rly hw) h5
/-- THE FRAME BEHIND A MEETING. -/
theorem Fr.pass (C : Fr p role h e true T gs w q) {j c : Nat} (hjh : j ≠ h) (hj : (role j).ch = some c) {k : Nat} (hck : w.heap[c]? = some (.chan 0 #[] false k k false)) {gs' : Array Goroutine} {T' : Trace} {H' : Goroutine}
    (hlh : h < gs.size) (hsz : gs'.size = gs.size) (hoth : ∀ x, x ≠ h → x ≠ j → gs'[x]? = gs[x]?) (hH : gs'[h]? = some H') (hDeaf : ∀ x, Deaf T' x = Deaf T x) {r' : Role} {e' nh : Nat} (hr : Gives p role w e e' r') (hafter : Idle p T' h nh H' r')
    (hlow : ∀ i a ad, touchAt T' i = some a → a.loc = .cell ad → ad.block < w.heap.size)
    (hpast : PastB (Stil (upd role h r')) p.Shun (Mems role h true) (fun g => (role g).isSeat ∧ g ≠ j) j T') :
    Fr p (upd (upd role j .quit) h r') j e' true T' gs' (w.setChan c 0 #[] false (k + 1) (k + 1) false) (upd q h nh) := by
  have hcC := C.seats j c hj
  have hcw := C.wgne hcC
  have hsj : (role j).isSeat := Role.isSeat_ch.2 ⟨c, hj⟩
  have hro : ∀ x, x ≠ h → x ≠ j → upd (upd role j .quit) h r' x = role x := fun x h1 h2 => by rw [upd_ne _ r' h1, upd_ne role _ h2]
  have hrj : upd (upd role j .quit) h r' j = .quit := by rw [upd_ne _ r' hjh, upd_same]
  have hrh : upd (upd role j .quit) h r' h = r' := upd_same _ _ _
  have hle : e' ≤ e := by cases hr <;> omega
  have hdn : sumTo gs.size (fun x => (upd (upd role j .quit) h r' x).dn) + e' = sumTo gs.size (fun x => (role x).dn) + e := by
    have h1 := sumTo_upd (upd role j Role.quit) r' Role.dn hlh
    have h2 : (fun x => (upd role j Role.quit x).dn) = fun x => (role x).dn := by
      funext x
      by_cases ex : x = j
      · subst ex; rw [upd_same]; revert hsj; cases role x <;> simp [Role.isSeat, Role.dn]
      · rw [upd_ne role _ ex]
    rw [h2, upd_ne role _ (Ne.symm hjh), C.rh] at h1
    have h3 : (Role.quit).dn = 0 := rfl
    have h4 : Role.don.dn = 1 := rfl
    have h5 : ∀ c z o L, (Role.seat c z o L).dn = 0 := fun _ _ _ _ => rfl
    cases hr with
    | don => omega
    | quit => omega
    | seat _ c' z' o' L' => have := h5 c' z' o' L'; omega
  have hchn : ∀ x c', (upd (upd role j .quit) h r' x).ch = some c' → (x ≠ h ∧ x ≠ j ∧ (role x).ch = some c') ∨ (x = h ∧ r'.ch = some c') := fun x c' hx => by
    by_cases exh : x = h
    · subst exh; rw [hrh] at hx; exact .inr ⟨rfl, hx⟩
    · by_cases exj : x = j
      · subst exj; rw [hrj] at hx; cases hx
      · rw [hro x exh exj] at hx; exact .inl ⟨exh, exj, hx⟩
  have hseat : ∀ x, (upd (upd role j .quit) h r' x).isSeat → (x ≠ j ∧ (role x).isSeat) ∨ x = h := fun x hx => by
    by_cases exh : x = h
    · exact .inr exh
    · by_cases exj : x = j
      · subst exj; rw [hrj] at hx; exact hx.elim
      · rw [hro x exh exj] at hx; exact .inl ⟨exj, hx⟩
  have hfresh : ∀ c' x, r'.ch = some c' → (role x).ch ≠ some c' := fun c' x hx => by
    cases hr with
    | don => cases hx
    | quit => cases hx
    | seat e c z home L h1 h2 _ _ _ => simp only [Role.ch, Option.some.injEq] at hx; subst hx; exact h2 x
  have hL : StC r'.st w ∧ StP r'.st w ∧ ∀ x ∈ r'.st, ¬ p.X x.1 := by
    cases hr with
    | don => exact ⟨fun _ h => (by cases h), fun _ h => (by cases h), fun _ h => (by cases h)⟩
    | quit => exact ⟨fun _ h => (by cases h), fun _ h => (by cases h), fun _ h => (by cases h)⟩
    | seat e c z home L h1 h2 h3 h4 h5 => exact ⟨h3, h4, h5⟩
  have hst : ∀ x, (upd (upd role j .quit) h r' x).st = if x = h then r'.st else if x = j then [] else (role x).st := fun x => by
    by_cases exh : x = h
    · subst exh; rw [hrh, if_pos rfl]
    · rw [if_neg exh]
      by_cases exj : x = j
      · subst exj; rw [hrj, if_pos rfl]; rfl
      · rw [if_neg exj, hro x exh exj]
  have hCC : ∀ x, StC (upd (upd role j .quit) h r' x).st w ∧ StP (upd (upd role j .quit) h r' x).st w ∧ ∀ y ∈ (upd (upd role j .quit) h r' x).st, ¬ p.X y.1 := fun x => by
    rw [hst]
    by_cases exh : x = h
    · rw [if_pos exh]; exact hL
    · rw [if_neg exh]
      by_cases exj : x = j
      · rw [if_pos exj]; exact ⟨fun _ h => (by cases h), fun _ h => (by cases h), fun _ h => (by cases h)⟩
      · rw [if_neg exj]; exact ⟨C.keep x, C.pro x, C.nox x⟩
  have e1 : (w.setChan c 0 #[] false (k + 1) (k + 1) false).heap.size = w.heap.size := by simp [World.setChan]
  refine ⟨fun x y hx hy => ?_, hrj, fun x hx => ?_, fun x c' hx => ?_, fun x y c' hx hy => ?_, fun c' hc' => ?_, fun x hx => ?_, ?_, fun x => (hCC x).1.setChan hck rfl _ _ _ _ _ _, fun x => (hCC x).2.1.setChan hck rfl _ _ _ _ _ _, ?_, by rw [hsz, hdn]; exact C.few, by rw [e1]; exact hlow, fun ad hs => ?_, C.shc, fun x => (hCC x).2.2, fun ad hx => by rw [e1]; exact C.xlow ad hx⟩
  · by_cases exh : x = h
    · subst exh
      rw [hH] at hy
      obtain rfl := Option.some.inj hy
      rw [upd_same, hrh]; exact hafter
    · rw [hoth x exh hx] at hy
      rw [upd_ne q nh exh, hro x exh hx]
      have hi := C.idle x y exh hy
      cases er : role x with
      | seat c' z' a L => rw [er] at hi; exact hi
      | born c' z' a L v => rw [er] at hi; exact hi
      | quit => rw [er] at hi; exact ⟨hi.1, by rw [hDeaf]; exact hi.2⟩
      | don => rw [er] at hi; exact ⟨hi.1, by rw [hDeaf]; exact hi.2⟩
  · rw [hsz] at hx
    have h1 : x ≠ h := by omega
    by_cases h2 : x = j
    · subst h2; exact hrj
    · rw [hro x h1 h2]; exact C.out x hx
  · rcases hchn x c' hx with ⟨_, _, h3⟩ | ⟨_, h3⟩
    · exact C.seats x c' h3
    · cases hr with
      | don => cases h3
      | quit => cases h3
      | seat e c z home L h1 _ _ _ _ => simp only [Role.ch, Option.some.injEq] at h3; subst h3; exact h1
  · rcases hchn x c' hx with ⟨_, _, h3⟩ | ⟨e1, h3⟩ <;> rcases hchn y c' hy with ⟨_, _, h4⟩ | ⟨e2, h4⟩
    · exact C.inj x y c' h3 h4
    · exact absurd h3 (hfresh c' x h4)
    · exact absurd h4 (hfresh c' y h3)
    · rw [e1, e2]
  · by_cases ec : c = c'
    · subst ec
      exact ⟨k + 1, heap_setChan_self w hck _ _ _ _ _ _⟩
    · obtain ⟨k', hk'⟩ := C.chans c' hc'
      exact ⟨k', by rw [heap_setChan_ne w _ _ _ _ _ _ ec]; exact hk'⟩
  · rw [hDeaf]; exact C.above x (by omega)
  · have h0 : PastB (Stil (upd (upd role j .quit) h r')) p.Shun (Mems role h true) (fun g => (role g).isSeat ∧ g ≠ j) j T' := by
      refine hpast.restill (fun z => z.2 rfl) (fun g hg => ?_) (fun l hl => ?_)
      · simp only [Stil]
        by_cases egh : g = h
        · subst egh; rw [upd_same, upd_same]
        · rw [upd_ne _ r' egh, upd_ne _ r' egh, upd_ne role _ hg]
      · simp only [Stil, hrj] at hl
        obtain ⟨x, hx, _⟩ := hl; cases hx
    have h1 := h0.fewer (Mem' := Mems (upd (upd role j .quit) h r') j true) fun x hx => by
      rcases hx with hx | ⟨rfl, _⟩
      · rcases hseat x hx with ⟨_, h2⟩ | h2
        · exact .inl h2
        · exact .inr ⟨h2, rfl⟩
      · exact .inl hsj
    refine h1.loosen fun x ⟨hx, hxj⟩ => ?_
    by_cases exh : x = h
    · subst exh; rw [C.rh] at hx; exact hx.elim
    · rw [hro x exh hxj]; exact hx
  · have := C.wg
    rw [← hdn] at this
    rw [hsz, WgS, heap_setChan_ne w _ _ _ _ _ _ hcw]; exact this
  · obtain ⟨o, h1, h2⟩ := C.shw ad hs
    have hne : c ≠ ad.block := fun ec => by rw [← ec, hck] at h1; obtain rfl := Option.some.inj h1; cases h2
    exact ⟨o, by rw [heap_setChan_ne w _ _ _ _ _ _ hne]; exact h1, h2⟩
theorem low_met {t : Trace} {n h j : Nat} {fh fj : FuncId} {ph pj : String} {c k cap : Nat} (hl : ∀ i a ad, touchAt t i = some a → a.loc = .cell ad → ad.block < n) :
    ∀ i a ad, touchAt (t ++ met h j fh ph fj pj c k cap) i = some a → a.loc = .cell ad → ad.block < n :=
  low_app hl (Nat.le_refl _) fun op hop b hb => by rw [met_mute _ _ _ _ _ _ _ _ _ op hop] at hb; cases hb
/-- Where the token has come to goroutine j. -/
def Given (p : Par) (rolej : Nat → Role) (j e' n : Nat) (r : Role) (c : Nat) (w : World) (v : Value) (m : Machine) (t : Trace) : Prop :=
  ∃ (gs' : Array Goroutine) (g₂ : Goroutine) (w₁ : World) (k : Nat) (sl' : Option (Nat × Nat)) (q' : Nat → Nat) (role' : Nat → Role) (L' : Stl), m = crowd gs' (w₁.setChan c 0 #[] false (k + 1) (k + 1) false) sl' ∧ gs'.size = n ∧ gs'[j]? = some (Conc.served g₂ (recvd false v true)) ∧ r.serves L' g₂ ∧
    (StC L' w₁ ∧ StP L' w₁ ∧ ∀ x ∈ L', ¬ p.X x.1) ∧ Rly w w₁ ∧ w₁.heap[c]? = some (.chan 0 #[] false k k false) ∧ Fr p role' j e' true t gs' (w₁.setChan c 0 #[] false (k + 1) (k + 1) false) q' ∧ Same rolej role'
/-- What a giver's own step lists. -/
theorem evH_past {M : Nat → Prop} {Loose : Nat → Prop} {w' : World} {es : Array Event} {hm : Bool} (C : Fr p role h e hm T gs w q) (hd : DX p.X w w' es) {fn : FuncId} {pos : String} :
    PastB (Stil role) p.Shun (Mems role h hm) (fun i => (role i).isSeat) h (T ++ MemOp.ofEvents h fn pos es) ∧ (∀ i a ad, touchAt (T ++ MemOp.ofEvents h fn pos es) i = some a → a.loc = .cell ad → ad.block < w'.heap.size) ∧ (∀ x, Deaf (T ++ MemOp.ofEvents h fn pos es) x = Deaf T x) := by
  have hops : ∀ op ∈ MemOp.ofEvents h fn pos es, op.g = h := fun op hop => by obtain ⟨e, _, rfl⟩ := Conc.mem_ofEvents hop; rfl
  have hdf : Deaf (T ++ MemOp.ofEvents h fn pos es) h = Deaf T h := by
    rw [Deaf_own]
    exact deafBehind_still (fun e he => ⟨fun h => absurd ((hd.evs e he).2 _ h) (by simp [Go.Sx.okMark]), fun h => absurd ((hd.evs e he).2 _ h) (by simp [Go.Sx.okMark])⟩) _
  refine ⟨?_, low_app C.low hd.size ?_, fun x => ?_⟩
  · refine C.past.appH (fun g hg => .inl hg) hops (fun op hop b hb hw g hg hs => ?_) (fun op hop b hb hs => ?_) (fun _ => hdf)
    · obtain ⟨ev, he, rfl⟩ := Conc.mem_ofEvents hop
      obtain ⟨x, hx, hl⟩ := hs
      obtain ⟨e1, e2⟩ := hd.touch he hb hl
      obtain ⟨o, h1, h2, _⟩ := C.pro g x hx
      exact C.nox g x hx ((((hd.evs ev he).1 _ e1).2 o h1).2 (e2 hw) h2)
    · obtain ⟨ev, he, rfl⟩ := Conc.mem_ofEvents hop
      cases hl : b.loc with
      | cell ad =>
        rw [hl] at hs
        obtain ⟨o, h1, h2⟩ := C.shw ad hs
        obtain ⟨e1, _⟩ := hd.touch he hb hl
        have := (((hd.evs ev he).1 _ e1).2 o h1).1
        rw [h2] at this; cases this
      | _ => rw [hl] at hs; exact absurd hs (C.shc _ (by intro ad; simp))
  · intro op hop b hb ad hl
    obtain ⟨ev, he, rfl⟩ := Conc.mem_ofEvents hop
    obtain ⟨e1, _⟩ := hd.touch he hb hl
    exact ((hd.evs ev he).1 _ e1).1
  · by_cases ex : x = h
    · subst ex; exact hdf
    · exact Deaf_other T (fun z => ex z.symm) _ hops
theorem Idle.sits {p : Par} {T : Trace} {i n : Nat} {g : Goroutine} {r : Role} {c : Nat} (h : Idle p T i n g r) (hc : r.ch = some c) : (∃ z home L B, r = .seat c z home L ∧ Sits p.P (i == 0) (StC L) (StL L) B (Seat.one c z false home) n g) ∨ (∃ z home L v, r = .born c z home L v ∧ Born p.P c z home L v n g) := by
  cases r with
  | seat c' z home L => simp only [Role.ch, Option.some.injEq] at hc; subst hc; obtain ⟨B, hs⟩ := h; exact .inl ⟨z, home, L, B, rfl, hs⟩
  | born c' z home L v => simp only [Role.ch, Option.some.injEq] at hc; subst hc; exact .inr ⟨z, home, L, v, rfl, h.2⟩
  | quit => cases hc
  | don => cases hc
/-- ████ THE HOLDER STANDS AT A SEND ON j's CHANNEL: ON WHATEVER TAPE THE TOKEN COMES TO j. ████ -/
theorem Fr.give (hSh : ∀ k, p.Shun (.cell ⟨p.Wg, k, none⟩)) (C : Fr p role h e true T gs w q)
    {a a₂ : Goroutine} {j c : Nat} {v z' : Value} {es : World → Array Event} {sl : Option (Nat × Nat)} (hjlt : j < gs.size) (hjh : j ≠ h) (hj : (role j).ch = some c) (ha : gs[h]? = some a) (hrun : a.status = .running)
    (hsend : ∀ w₁, Rly w w₁ → stepG p.P (h == 0) a w₁ = .comm a₂ #[scase c v z'] true .send w₁ (es w₁)) (hes : ∀ w₁, Rly w w₁ → DX p.X w₁ w₁ (es w₁))
    {r' : Role} {e' nh : Nat} (hr : Gives p role w e e' r') (hafter : ∀ T', Deaf T' h = 0 → Idle p T' h nh (Conc.served a₂ undef) r') :
    ∃ N m' T', runNT p.P N (crowd gs w sl) T = (.next m', T') ∧ Given p (upd (upd role j .quit) h r') j e' gs.size (role j) c w v m' T' := by
  refine runs_until (P := p.P) (Done := Given p (upd (upd role j .quit) h r') j e' gs.size (role j) c w v)
    (Inv := fun μ m t => Given p (upd (upd role j .quit) h r') j e' gs.size (role j) c w v m t ∨ ∃ gs₁ w₁ sl₁ q₁ role₁, ∃ pk : Bool, m = crowd gs₁ w₁ sl₁ ∧ gs₁.size = gs.size ∧ gs₁[h]? = some (if pk then parked a₂ #[scase c v z'] .send else a) ∧ Rly w w₁ ∧
      Fr p role₁ h e true t gs₁ w₁ q₁ ∧ Same role role₁ ∧ (pk = true → 0 < q₁ j) ∧ μ = sumTo gs₁.size q₁ + (if pk then 0 else 1))
    (fun μ m t hInv => ?_) _ _ T (.inr ⟨gs, w, sl, q, role, false, rfl, rfl, ha, Rly.refl _, C, Same.refl _, by simp, rfl⟩)
  rcases hInv with hdone | ⟨gs₁, w₁, sl₁, q₁, role₁, pk, rfl, hsz, ha₁, hrel, C₁, hsm, hpk, hμ⟩
  · exact .inl hdone
  refine .inr ?_
  obtain ⟨gj, hgj⟩ : ∃ gj, gs₁[j]? = some gj := ⟨gs₁[j]'(by omega), Array.getElem?_eq_getElem (by omega)⟩
  have hlth : h < gs₁.size := (Array.getElem?_eq_some_iff.1 ha₁).1
  have hj₁ : (role₁ j).ch = some c := by rw [(hsm j).ch]; exact hj
  have hcC := C₁.seats j c hj₁
  have hIj := C₁.idle j gj hjh hgj
  have hSj := hIj.sits hj₁
  have hjrun : pk = true → gj.status = .running := fun hp => by
    rcases hSj with ⟨z, home, L, B, er, hs⟩ | ⟨z, home, L, v, er, hb⟩
    · have hk := C₁.keep j
      rw [er] at hk
      exact (Sits.status hk hs).elim (·.1) (fun z => by have := hpk hp; omega)
    · exact hb.running
  have hsome : ∃ (i : Nat) (g : Goroutine), gs₁[i]? = some g ∧ g.status = .running := by
    cases pk with
    | false => exact ⟨h, a, ha₁, hrun⟩
    | true => exact ⟨j, gj, hgj, hjrun rfl⟩
  obtain ⟨i, g, d', sl', hi, hg, hst⟩ := crowd_pick (P := p.P) (w := w₁) (sl := sl₁) (C₁.awake ha₁ (by cases pk <;> simp [hrun, parked])) hsome
  have Cd := C₁.at d'
  have hreld : Rly w (w₁.at d') := hrel.trans (Rly.at _ _)
  obtain ⟨k, hcd⟩ := Cd.chans c hcC
  have hmm : Mems role₁ h true = Mems role h true := by funext x; simp only [Mems, propext (hsm x).isSeat]
  have hrd : Gives p role₁ (w₁.at d') e e' r' := hr.rly hsm hreld
  have hrL : ∀ l, Stil (upd role₁ h r') h l → l.isMemory = true ∧ ¬ p.Shun l := fun l hl => by
    simp only [Stil, upd_same] at hl
    obtain ⟨x, hx, rfl⟩ := hl
    refine ⟨rfl, fun hs => ?_⟩
    obtain ⟨o, h1, h2⟩ := Cd.shw _ hs
    cases hrd with
    | don => cases hx
    | quit => cases hx
    | seat e c z home L _ _ _ h4 _ =>
      obtain ⟨o', h5, _, h6⟩ := h4 x hx
      rw [h1] at h5; obtain rfl := Option.some.inj h5
      rw [h2] at h6; cases h6
  -- BEHIND EITHER MEETING
  have fin : ∀ (gs' : Array Goroutine) (ops₀ : Array MemOp) (g₂ : Goroutine) (z : Value) (home : Goroutine → Prop) (L : Stl), role₁ j = .seat c z home L → gs'.size = gs₁.size → (∀ x, x ≠ h → x ≠ j → gs'[x]? = gs₁[x]?) → gs'[h]? = some (Conc.served a₂ undef) → gs'[j]? = some (Conc.served g₂ (recvd false v true)) → home g₂ →
      PastB (Stil role₁) p.Shun (Mems role₁ h true) (fun g => (role₁ g).isSeat) h (t ++ ops₀) → (∀ x, Deaf (t ++ ops₀) x = Deaf t x) → (∀ i a ad, touchAt (t ++ ops₀) i = some a → a.loc = .cell ad → ad.block < (w₁.at d').heap.size) →
      Given p (upd (upd role j .quit) h r') j e' gs.size (role j) c w v (crowd gs' ((w₁.at d').setChan c 0 #[] false (k + 1) (k + 1) false) sl') (t ++ (ops₀ ++ met h j a₂.frame.fn a₂.frame.place g₂.frame.fn g₂.frame.place c k 0)) := by
    intro gs' ops₀ g₂ z home L erj hsz' hoth hH hJ hhome p1 hD0 hlow
    have hDeaf : ∀ x, Deaf (t ++ (ops₀ ++ met h j a₂.frame.fn a₂.frame.place g₂.frame.fn g₂.frame.place c k 0)) x = Deaf t x := fun x => by rw [← Array.append_assoc, Deaf_quiet (met_quiet _ _ _ _ _ _ _ _ _ x), hD0]
    have p1' : PastB (Stil (upd role₁ h r')) p.Shun (Mems role₁ h true) (fun g => (role₁ g).isSeat) h (t ++ ops₀) :=
      p1.restill (fun z => by rw [C₁.rh] at z; exact z) (fun g hg => by simp only [Stil, upd_ne role₁ r' hg]) hrL
    have p2 := p1'.give (.inr ⟨rfl, rfl⟩) (.inl (by rw [erj]; trivial)) a₂.frame.fn a₂.frame.place g₂.frame.fn g₂.frame.place (c := c) k 0
    have l2 := low_met (h := h) (j := j) (fh := a₂.frame.fn) (fj := g₂.frame.fn) (ph := a₂.frame.place) (pj := g₂.frame.place) (c := c) (k := k) (cap := 0) hlow
    rw [Array.append_assoc] at p2 l2
    have hkj := Cd.keep j; have hpj := Cd.pro j; have hnj := Cd.nox j
    rw [erj] at hkj hpj hnj
    refine ⟨gs', g₂, w₁.at d', k, sl', upd q₁ h nh, upd (upd role₁ j .quit) h r', L, rfl, hsz'.trans hsz, hJ, (hsm j).serves (by rw [erj]; exact ⟨rfl, hhome⟩), ⟨hkj, hpj, hnj⟩, hreld, hcd,
      Fr.pass Cd hjh hj₁ hcd hlth hsz' hoth hH hDeaf hrd (hafter _ (by rw [hDeaf]; exact C₁.past.hears h (.inr ⟨rfl, rfl⟩))) l2 p2, fun x => ?_⟩
    by_cases exh : x = h
    · subst exh; rw [upd_same, upd_same]; exact .refl _
    · rw [upd_ne _ r' exh, upd_ne _ r' exh]
      by_cases exj : x = j
      · subst exj; rw [upd_same, upd_same]; exact .refl _
      · rw [upd_ne _ _ exj, upd_ne _ _ exj]; exact hsm x
  have hμpos : 0 < μ := by
    cases pk with
    | false => simp at hμ; omega
    | true =>
      have h1 := hpk rfl
      have h2 : q₁ j ≤ sumTo gs₁.size q₁ := Go.ConcN.le_sumTo (f := q₁) (by omega)
      simp at hμ; omega
  by_cases ei : i = h
  · -- THE HOLDER's STEP
    subst ei
    cases pk with
    | true => rw [ha₁] at hi; obtain rfl := Option.some.inj hi; cases hg
    | false =>
      obtain rfl : g = a := by rw [ha₁] at hi; exact (Option.some.inj hi).symm
      obtain ⟨hpH, hlw, hDf⟩ := evH_past (M := fun _ => True) (Loose := fun _ => True) Cd (hes _ hreld) (fn := g.frame.fn) (pos := g.frame.place)
      have hoff : ∀ (x : Nat) (y : Goroutine), x ≠ j → (gs₁.setIfInBounds i ph)[x]? = some y → offersAt y c false = [] := by
        intro x y hxj hy
        rcases getElem?_stand gs₁ i x y hy with ⟨_, rfl⟩ | ⟨hx, hy'⟩
        · exact offersAt_ph _ _
        · exact Cd.noRecv hx hy' fun hs' => hxj (C₁.inj x j c hs' hj₁)
      have hwait : gj.status = .running → 0 < q₁ j → ∃ m' ops n', stepT p.P (crowd gs₁ w₁ sl₁) = (.next m', ops) ∧ n' < μ ∧ (Given p (upd (upd role j .quit) i r') j e' gs.size (role j) c w v m' (t ++ ops) ∨
          ∃ gs₁ w₁ sl₁ q₁ role₁, ∃ pk : Bool, m' = crowd gs₁ w₁ sl₁ ∧ gs₁.size = gs.size ∧ gs₁[i]? = some (if pk then parked a₂ #[scase c v z'] .send else g) ∧ Rly w w₁ ∧ Fr p role₁ i e true (t ++ ops) gs₁ w₁ q₁ ∧ Same role role₁ ∧ (pk = true → 0 < q₁ j) ∧ n' = sumTo gs₁.size q₁ + (if pk then 0 else 1)) := by
        intro hjr hq0
        have hp : partners (gs₁.setIfInBounds i ph) c false = [] := partners_nil fun x y hy => by
          by_cases hxj : x = j
          · subst hxj
            rw [stand_get hjh hgj] at hy
            obtain rfl := Option.some.inj hy
            exact offersAt_of_not_blocked (by rw [hjr]; simp) _ _
          · exact hoff x y hxj hy
        have hw : ∀ cc ∈ #[scase c v z'], NoWays (w₁.at d') (gs₁.setIfInBounds i ph) cc := by
          intro cc hcc
          simp only [List.mem_toArray, List.mem_cons, List.not_mem_nil, or_false] at hcc
          subst hcc
          exact ways_send_none hcd (Nat.le_refl _) hp
        refine ⟨_, _, sumTo gs₁.size q₁ + 0, by rw [hst]; exact crowd_waits (sl := sl') hi (hsend _ hreld) hw, by simp at hμ; omega, .inr ⟨_, w₁.at d', sl', q₁, role₁, true, rfl, by simpa using hsz, Array.getElem?_setIfInBounds_self_of_lt hlth, hreld, ?_, hsm, fun _ => hq0, by simp⟩⟩
        refine ⟨fun x y hx hy => ?_, Cd.rh, fun x hx => Cd.out x (by simpa using hx), Cd.seats, Cd.inj, Cd.chans, fun x hx => ?_, hpH, Cd.keep, Cd.pro, by simpa using Cd.wg, by simpa using Cd.few, hlw, Cd.shw, Cd.shc, Cd.nox, Cd.xlow⟩
        · rw [Array.getElem?_setIfInBounds_ne (fun z => hx z.symm)] at hy
          exact (Cd.idle x y hx hy).other (fun z => hx z.symm) (fun op hop => by obtain ⟨e, _, rfl⟩ := Conc.mem_ofEvents hop; rfl)
        · rw [hDf]; exact Cd.above x (by simpa using hx)
      rcases hSj with ⟨z, home, L, B, erj, hsits⟩ | ⟨z, home, L, v₀, erj, hb⟩
      · rcases hsits with ⟨kk, w₀, hq, hG⟩ | ⟨hq0, g₀, g₂, rfl, hat⟩
        · -- j is on its way: the holder is parked at its send
          have hk := C₁.keep j
          rw [erj] at hk
          have hjr : gj.status = .running := (Sits.status hk (.inl ⟨kk, w₀, hq, hG⟩)).elim (·.1) (fun z => by omega)
          exact hwait hjr (by omega)
        · -- j is parked: the meeting
          have hp : partners (gs₁.setIfInBounds i ph) c false = [(j, 0)] := by
            rw [partners_one (stand_get hjh hgj) fun x y hxj hy => hoff x y hxj hy]
            show List.map _ (offersAt (parked g₂ #[rcase c z] (.recv false)) c false) = _
            rw [offersAt_parked_recv, if_pos rfl]; rfl
          refine ⟨_, _, 0, by rw [hst]; exact crowd_send_meets_sel (sl := sl') hi (hsend _ hreld) hcd hjh hgj (k := 0) (zj := z) rfl hp, hμpos, .inl ?_⟩
          exact fin _ _ g₂ z home L erj (by simp) (fun x hx hxj => by rw [Array.getElem?_setIfInBounds_ne (fun z => hx z.symm), Array.getElem?_setIfInBounds_ne (fun z => hxj z.symm)]) (Array.getElem?_setIfInBounds_self_of_lt (by simpa using hlth))
            (by rw [Array.getElem?_setIfInBounds_ne (fun z => hjh z.symm), Array.getElem?_setIfInBounds_self_of_lt (by omega)]; exact congrArg some (by rw [finishComm_served]; exact congrArg _ (commResult_one _ _ _ _ _ _))) hat.2.2.2.2.1 hpH hDf hlw
      · refine hwait hb.running ?_
        cases hq : q₁ j with
        | zero => rw [hq] at hb; exact hb.elim
        | succ n => omega
  · by_cases ej : i = j ∧ pk = true ∧ ∃ z home L B g₂, role₁ i = .seat c z home L ∧ AtIn p.P (i == 0) (StC L) (StL L) B (Seat.one c z false home) g g₂
    · -- j COMES TO ITS RECEIVE AND MEETS THE PARKED HOLDER
      obtain ⟨rfl, rfl, z, home, L, B, g₂, erj, hat⟩ := ej
      obtain ⟨_, _, _, _, hhome, esj, hesj, hstp⟩ := hat
      obtain ⟨hops, hr', _, hd⟩ := evC_ops (i := i) (fn := g.frame.fn) (pos := g.frame.place) hesj
      have hkj := Cd.keep i
      rw [erj] at hkj
      have hstil : Stil role₁ i = StL L := by simp only [Stil, erj]; rfl
      have hp : partners (gs₁.setIfInBounds i ph) c true = [(h, 0)] := by
        rw [partners_one (stand_get (Ne.symm hjh) ha₁) fun x y hxh hy => by
          rcases getElem?_stand gs₁ i x y hy with ⟨_, rfl⟩ | ⟨_, hy'⟩
          · exact offersAt_ph _ _
          · exact Cd.noSend hxh hy' _]
        simp [offersAt_parked_send]
      have ho : ∀ (m : Nat) (c' : CommCase), m ≠ 0 → (Seat.one c z false home).cases[m]? = some c' → NoWays (w₁.at d') (gs₁.setIfInBounds i ph) c' := by
        intro m c' hm hc'
        simp [Seat.one, hm] at hc'
      have hM : (role₁ i).isSeat := by rw [erj]; trivial
      have hlw := low_app (t := t) (u := MemOp.ofEvents i g.frame.fn g.frame.place esj) Cd.low (Nat.le_refl _) (fun op hop b hb ad hl => by
        obtain ⟨x, hx, e⟩ := (hr' op hop b hb).2
        rw [hl] at e
        simp only [Loc.cell.injEq] at e
        obtain ⟨o, h1, _⟩ := Cd.pro i x (by rw [erj]; exact hx)
        rw [e]; exact (Array.getElem?_eq_some_iff.1 h1).1)
      refine ⟨_, _, 0, by rw [hst]; exact crowd_sel_recv_meets (sl := sl') hi (hstp _ hkj) (k := 0) (z := z) rfl ho hcd (Ne.symm hjh) ha₁ hp, hμpos, .inl ?_⟩
      exact fin _ _ g₂ z home L erj (by simp) (fun x hx hxj => by rw [Array.getElem?_setIfInBounds_ne (fun z => hxj z.symm), Array.getElem?_setIfInBounds_ne (fun z => hx z.symm)])
        (by rw [Array.getElem?_setIfInBounds_ne hjh, Array.getElem?_setIfInBounds_self_of_lt hlth, finishComm_send]) (by rw [Array.getElem?_setIfInBounds_self_of_lt (by simp; omega)]; exact congrArg some (by rw [finishComm_served]; exact congrArg _ (commResult_one _ _ _ _ _ _))) hhome
        (C₁.past.appRead (.inl hM) hM hops (fun op hop b hb => by rw [hstil]; exact hr' op hop b hb) (hd t))
        (fun x => by
          by_cases ex : x = i
          · subst ex; exact hd t
          · exact Deaf_other t (fun z => ex z.symm) _ hops) hlw
    · -- SOMEBODY ELSE's STEP (j's own way to its seat among them)
      obtain ⟨gs', w', ops, q', role', hrt, hsz', hgh, hrl, hchs, C', hlt, hqo, hs1, hq0, hbq, _⟩ := Cd.other (sl := sl') hSh hi ei hg
        (fun gx hgx w' hw' => by
          rw [ha₁] at hgx; obtain rfl := Option.some.inj hgx
          cases pk with
          | false => exact again_of_running (.inl hrun) _
          | true => exact again_send_open (by rw [hw' c hcC]; exact hcd))
        (fun c' z'' a' L' B g₂ hs' hat gx hgx => by
          rw [ha₁] at hgx; obtain rfl := Option.some.inj hgx
          cases pk with
          | false => exact offersAt_of_not_blocked (by simp [hrun]) _ _
          | true =>
            simp only [if_true]
            rw [offersAt_parked_send, if_neg]
            intro ec
            subst ec
            have hij : i = j := C₁.inj i j c (by rw [hs']; rfl) hj₁
            subst hij
            exact ej ⟨rfl, rfl, z'', a', L', B, g₂, hs', hat⟩)
      refine ⟨_, _, sumTo gs'.size q' + (if pk then 0 else 1), by rw [hst]; exact hrt, by rw [hsz']; omega, .inr ⟨gs', w', sl', q', role', pk, rfl, hsz'.trans hsz, by rw [hgh]; exact ha₁, hreld.trans hrl, C', hsm.trans hs1, fun hp => ?_, rfl⟩⟩
      subst hp
      by_cases hij : j = i
      · subst hij
        obtain ⟨gj', hgj'⟩ : ∃ gj', gs'[j]? = some gj' := ⟨gs'[j]'(by omega), Array.getElem?_eq_getElem (by omega)⟩
        have hI' := (C'.idle j gj' hjh hgj').sits (c := c) (by rw [(hs1 j).ch]; exact hj₁)
        rcases hI' with ⟨z, home, L, B, er', hs'⟩ | ⟨z, home, L, v₀, er', hb'⟩
        · rcases Nat.eq_zero_or_pos (q' j) with h0 | h0
          · -- it has come to its seat: from its seat's way, or from its block
            rcases hSj with ⟨z2, home2, L2, B2, er2, hs2⟩ | ⟨z2, home2, L2, v2, er2, hb2⟩
            · obtain ⟨B3, g₂, hat⟩ := hq0 c z2 home2 L2 er2 h0
              exact absurd ⟨rfl, rfl, z2, home2, L2, B3, g₂, er2, hat⟩ ej
            · exact hbq c z2 home2 L2 v2 er2
          · exact h0
        · cases hq : q' j with
          | zero => rw [hq] at hb'; exact hb'.elim
          | succ n => omega
      · rw [hqo j hij]; exact hpk rfl
end
end Go.Bt
end
section
namespace Go.Bt
variable [Gnd]
open Go.Conc
open Go.Sx (Rly spec isWg Gud)
open Go.ConcN (sumTo upd sumTo_upd upd_ne upd_same sumTo_congr sumTo_upd_out)
section
variable {p : Par} {role : Nat → Role} {h e : Nat} {hm : Bool} {T : Trace} {gs : Array Goroutine} {w : World} {q : Nat → Nat}
/-- A GO STATEMENT OF THE HOLDER's. -/
theorem Fr.hire (hSh : ∀ k, p.Shun (.cell ⟨p.Wg, k, none⟩)) (C : Fr p role h e true T gs w q) {a a' child : Goroutine} {es : World → Array Event} {sl : Option (Nat × Nat)} (ha : gs[h]? = some a) (hrun : a.status = .running)
    (hgo : ∀ w₁, Rly w w₁ → stepG p.P (h == 0) a w₁ = .spawn a' child w₁ (es w₁)) (hes : ∀ w₁, Rly w w₁ → DX p.X w₁ w₁ (es w₁))
    {c : Nat} {z v : Value} {home : Nat → Goroutine → Prop} {L : Stl} {nb : Nat} (hc : p.Ch c) (hf : ∀ x, (role x).ch ≠ some c) (hL : StC L w) (hP : StP L w) (hX : ∀ x ∈ L, ¬ p.X x.1) (hb : Born p.P c z home L v nb child) :
    ∃ (N : Nat) (gs' : Array Goroutine) (w' : World) (sl' : Option (Nat × Nat)) (T' : Trace) (q' : Nat → Nat) (role' : Nat → Role), runNT p.P N (crowd gs w sl) T = (.next (crowd gs' w' sl'), T') ∧ gs'.size = gs.size + 1 ∧ gs'[h]? = some a' ∧ Rly w w' ∧
      Fr p role' h e true T' gs' w' q' ∧ Same (upd role gs.size (.born c z home L v)) role' := by
  obtain ⟨N, gs₁, w₁, w₂, sl₁, sl₂, T₁, q₁, role₁, hr, hst, hsz, ha₁, hrel, C₁, hsm⟩ := C.picked (sl := sl) hSh ha hrun
  have hlt : h < gs₁.size := (Array.getElem?_eq_some_iff.1 ha₁).1
  have hrt := runT_crowd_spawn (P := p.P) (sl := sl₂) ha₁ (hgo w₂ hrel)
  have hpush : ((MemOp.ofEvents h a.frame.fn a.frame.place (es w₂)).push { g := h, fn := a.frame.fn, pos := a.frame.place, act := .go gs₁.size } |>.push { g := gs₁.size, fn := child.frame.fn, pos := a.frame.place, act := .start }) =
      MemOp.ofEvents h a.frame.fn a.frame.place (es w₂) ++ #[{ g := h, fn := a.frame.fn, pos := a.frame.place, act := .go gs₁.size }, { g := gs₁.size, fn := child.frame.fn, pos := a.frame.place, act := .start }] := by
    apply Array.ext'; simp
  rw [hpush] at hrt
  generalize hr' : Role.born c z home L v = r'
  obtain ⟨p1, hlow1, hD1⟩ := evH_past (M := fun _ => True) (Loose := fun _ => True) C₁ (hes w₂ hrel) (fn := a.frame.fn) (pos := a.frame.place)
  have hro : role₁ gs₁.size = .quit := C₁.out _ (Nat.le_refl _)
  have hne : gs₁.size ≠ h := by omega
  have hup : ∀ x, x ≠ gs₁.size → upd role₁ gs₁.size r' x = role₁ x := fun x hx => upd_ne role₁ r' hx
  have hself : upd role₁ gs₁.size r' gs₁.size = r' := upd_same _ _ _
  have hst' : r'.st = L := by rw [← hr']; rfl
  have hch' : r'.ch = some c := by rw [← hr']; rfl
  have hLsh : ∀ l, StL L l → l.isMemory = true ∧ ¬ p.Shun l := fun l hl => by
    obtain ⟨x, hx, rfl⟩ := hl
    refine ⟨rfl, fun hs => ?_⟩
    obtain ⟨o, h1, h2⟩ := C₁.shw _ hs
    obtain ⟨o', h3, _, h5⟩ := (hP.rly hrel) x hx
    rw [h1] at h3; obtain rfl := Option.some.inj h3
    rw [h2] at h5; cases h5
  have p2 : PastB (Stil (upd role₁ gs₁.size r')) p.Shun (Mems role₁ h true) (fun i => (role₁ i).isSeat) h (T₁ ++ MemOp.ofEvents h a.frame.fn a.frame.place (es w₂)) := by
    refine p1.still_of (fun g hg => .inl hg) (fun g hg => ?_) (fun g l hl => ?_)
    · have : g ≠ gs₁.size := fun e => by
        subst e
        rcases hg with hg | ⟨hg, _⟩
        · rw [hro] at hg; exact hg
        · exact hne hg
      simp only [Stil, hup g this]
    · by_cases eg : g = gs₁.size
      · subst eg; simp only [Stil, hself, hst'] at hl; exact (hLsh l hl).2
      · simp only [Stil, hup g eg] at hl; exact (C₁.stilNot hl).2
  have p3 := p2.hire (c := gs₁.size) (.inr ⟨rfl, rfl⟩) (by rw [hD1]; exact C₁.above _ (Nat.le_refl _)) (fun l hl => by simp only [Stil, hself, hst'] at hl; exact (hLsh l hl).1) a.frame.fn a.frame.place child.frame.fn
  rw [Array.append_assoc] at p3
  have hD2 : ∀ x, Deaf (T₁ ++ (MemOp.ofEvents h a.frame.fn a.frame.place (es w₂) ++ #[{ g := h, fn := a.frame.fn, pos := a.frame.place, act := .go gs₁.size }, { g := gs₁.size, fn := child.frame.fn, pos := a.frame.place, act := .start }])) x = Deaf T₁ x := fun x => by
    rw [← Array.append_assoc, Deaf_quiet (fun op hop d => by
      simp only [List.mem_toArray, List.mem_cons, List.not_mem_nil, or_false] at hop
      rcases hop with rfl | rfl <;> rfl), hD1]
  have hs : sumTo (gs₁.size + 1) (fun x => (upd role₁ gs₁.size r' x).dn) = sumTo gs₁.size (fun x => (role₁ x).dn) := by
    have e1 : sumTo (gs₁.size + 1) (fun x => (upd role₁ gs₁.size r' x).dn) = sumTo gs₁.size (fun x => (upd role₁ gs₁.size r' x).dn) + (upd role₁ gs₁.size r' gs₁.size).dn := rfl
    rw [e1, hself, ← hr']
    show sumTo gs₁.size _ + 0 = _
    rw [Nat.add_zero]
    exact sumTo_congr fun x hx => by rw [upd_ne role₁ _ (by omega)]
  refine ⟨N + 1, _, w₂, sl₂, _, upd q₁ gs₁.size nb, upd role₁ gs₁.size r', runNT_succ hr (hst.trans hrt), by simp [hsz], (by rw [Array.getElem?_push, if_neg (by simp; omega)]; exact Array.getElem?_setIfInBounds_self_of_lt hlt), hrel, ?_, fun x => ?_⟩
  · refine ⟨fun x y hx hy => ?_, by rw [hup h (Ne.symm hne)]; exact C₁.rh, fun x hx => ?_, fun x c' hx => ?_, fun x y c' hx hy => ?_, C₁.chans, fun j hj => ?_, ?_, fun x => ?_, fun x => ?_, ?_, ?_, ?_, C₁.shw, C₁.shc, fun x => ?_, C₁.xlow⟩
    · by_cases ex : x = gs₁.size
      · subst ex
        rw [Array.getElem?_push, if_pos (by simp)] at hy
        obtain rfl := Option.some.inj hy
        rw [upd_same, hself, ← hr']
        exact ⟨by omega, hb⟩
      · have hxl : x < gs₁.size := by
          have := (Array.getElem?_eq_some_iff.1 hy).1
          simp at this; omega
        rw [Array.getElem?_push, if_neg (by simp; omega), Array.getElem?_setIfInBounds_ne (fun z => hx z.symm)] at hy
        rw [upd_ne q₁ nb ex, hup x ex]
        have hi := C₁.idle x y hx hy
        cases er : role₁ x with
        | seat c' z' a L => rw [er] at hi; exact hi
        | born c' z' a L v => rw [er] at hi; exact hi
        | quit => rw [er] at hi; exact ⟨hi.1, by rw [hD2]; exact hi.2⟩
        | don => rw [er] at hi; exact ⟨hi.1, by rw [hD2]; exact hi.2⟩
    · simp at hx
      rw [hup x (by omega)]; exact C₁.out x (by omega)
    · by_cases ex : x = gs₁.size
      · subst ex; rw [hself, hch'] at hx; obtain rfl := Option.some.inj hx; exact hc
      · rw [hup x ex] at hx; exact C₁.seats x c' hx
    · by_cases ex : x = gs₁.size
      · subst ex
        rw [hself, hch'] at hx
        obtain rfl := Option.some.inj hx
        by_cases ey : y = gs₁.size
        · rw [ey]
        · rw [hup y ey, (hsm y).ch] at hy; exact absurd hy (hf y)
      · rw [hup x ex] at hx
        by_cases ey : y = gs₁.size
        · subst ey
          rw [hself, hch'] at hy
          obtain rfl := Option.some.inj hy
          rw [(hsm x).ch] at hx; exact absurd hx (hf x)
        · rw [hup y ey] at hy; exact C₁.inj x y c' hx hy
    · rw [hD2]; exact C₁.above j (by simp at hj; omega)
    · refine (p3.fewer (Mem' := Mems (upd role₁ gs₁.size r') h true) fun x hx => ?_).loosen (Loose' := fun x => (upd role₁ gs₁.size r' x).isSeat) fun x hx => ?_
      · rcases hx with hx | hx
        · by_cases ex : x = gs₁.size
          · exact .inr ex
          · rw [hup x ex] at hx; exact .inl (.inl hx)
        · exact .inl (.inr hx)
      · rcases hx with hx | rfl
        · have : x ≠ gs₁.size := fun e => by subst e; rw [hro] at hx; exact hx
          rw [hup x this]; exact hx
        · rw [hself, ← hr']; trivial
    · by_cases ex : x = gs₁.size
      · subst ex; rw [hself, hst']; exact hL.rly hP hrel
      · rw [hup x ex]; exact C₁.keep x
    · by_cases ex : x = gs₁.size
      · subst ex; rw [hself, hst']; exact hP.rly hrel
      · rw [hup x ex]; exact C₁.pro x
    · simp only [Array.size_push, Array.size_setIfInBounds]
      rw [hs]; exact C₁.wg
    · simp only [Array.size_push, Array.size_setIfInBounds]
      rw [hs]; exact C₁.few
    · rw [← Array.append_assoc]
      refine low_app hlow1 (Nat.le_refl _) fun op hop b hb => ?_
      simp only [List.mem_toArray, List.mem_cons, List.not_mem_nil, or_false] at hop
      rcases hop with rfl | rfl <;> simp [MemAct.touch?] at hb
    · by_cases ex : x = gs₁.size
      · subst ex; rw [hself, hst']; exact hX
      · rw [hup x ex]; exact C₁.nox x
  · rw [← hsz]
    by_cases ex : x = gs₁.size
    · subst ex; rw [upd_same, hself]; exact .refl _
    · rw [upd_ne _ _ ex, hup x ex]; exact hsm x
/-- An access of the group's cells, atomic or said; or none at all. -/
def EvG (Wg : Nat) (e : Event) : Prop := ∀ b, (MemAct.ofEvent e).touch? = some b → (∃ k, b.loc = .cell ⟨Wg, k, none⟩) ∧ b.kind ≠ .plain
/-- The holder, hearing or deaf. -/
theorem Fr.deafen (C : Fr p role h e hm T gs w q) : Fr p role h e false T gs w q :=
  ⟨C.idle, C.rh, C.out, C.seats, C.inj, C.chans, C.above, C.past.fewer fun x hx => hx.imp id (fun z => by cases z.2), C.keep, C.pro, C.wg, C.few, C.low, C.shw, C.shc, C.nox, C.xlow⟩
theorem Fr.hearken (C : Fr p role h e hm T gs w q) (hd : Deaf T h = 0) : Fr p role h e true T gs w q := by
  refine ⟨C.idle, C.rh, C.out, C.seats, C.inj, C.chans, C.above, ?_, C.keep, C.pro, C.wg, C.few, C.low, C.shw, C.shc, C.nox, C.xlow⟩
  refine (C.deafen.past.member hd (fun l hl => by simp only [Stil, C.rh] at hl; obtain ⟨x, hx, _⟩ := hl; cases hx)).fewer fun x hx => ?_
  rcases hx with hx | ⟨hx, _⟩
  · exact .inl (.inl hx)
  · exact .inr hx
/-- A step of the holder's that leaves the world as it is and touches the group alone. -/
theorem Fr.ownG (hSh : ∀ k, p.Shun (.cell ⟨p.Wg, k, none⟩)) (C : Fr p role h e false T gs w q) {a a' : Goroutine} {w' : World} {es : Array Event} {e' : Nat} (ha : gs[h]? = some a) (hes : ∀ ev ∈ es, EvG p.Wg ev) (hrl : Rly w w') (hsz' : w'.heap.size = w.heap.size)
    (hwg : WgS p.Wg w' (((sumTo gs.size (fun i => (role i).dn) + e' : Nat) : Int) * KK)) (hfew : sumTo gs.size (fun i => (role i).dn) + e' < 2147483647) :
    Fr p role h e' false (T ++ MemOp.ofEvents h a.frame.fn a.frame.place es) ((gs.map (woken p.P a a' w')).setIfInBounds h a') w' q ∧ ((gs.map (woken p.P a a' w')).setIfInBounds h a')[h]? = some a' ∧
      Deaf (T ++ MemOp.ofEvents h a.frame.fn a.frame.place es) h = deafBehind (Deaf T h) es := by
  have hlt : h < gs.size := (Array.getElem?_eq_some_iff.1 ha).1
  have hops : ∀ op ∈ MemOp.ofEvents h a.frame.fn a.frame.place es, op.g = h := fun op hop => by obtain ⟨e, _, rfl⟩ := Conc.mem_ofEvents hop; rfl
  have hch := C.chsame hrl
  have hWl : p.Wg < w.heap.size := (Array.getElem?_eq_some_iff.1 C.wg).1
  refine ⟨⟨fun x y hx hy => ?_, C.rh, fun x hx => C.out x (by simpa using hx), C.seats, C.inj, fun c hc => ?_, fun j hj => ?_, ?_, fun i => (C.keep i).rly (C.pro i) hrl, fun i => (C.pro i).rly hrl, ?_, by simpa using hfew, low_app C.low (by omega) ?_, fun ad hs => ?_, C.shc, C.nox, fun ad hx => by rw [hsz']; exact C.xlow ad hx⟩, Array.getElem?_setIfInBounds_self_of_lt (by simpa using hlt), by rw [Deaf_own]⟩
  · rw [Array.getElem?_setIfInBounds_ne (fun e => hx e.symm), Array.getElem?_map] at hy
    obtain ⟨y₀, hy₀, rfl⟩ := Option.map_eq_some_iff.1 hy
    rw [woken_of_again (C.fixed hx hy₀ fun c hc => by obtain ⟨k, hk⟩ := C.chans c hc; exact ⟨_, _, _, _, _, by rw [hch c hc]; exact hk⟩)]
    exact (C.idle x y₀ hx hy₀).other (fun z => hx z.symm) hops
  · obtain ⟨k, hk⟩ := C.chans c hc; exact ⟨k, by rw [hch c hc]; exact hk⟩
  · simp only [Array.size_setIfInBounds, Array.size_map] at hj
    rw [Deaf_other T (g' := h) (by omega) _ hops]
    exact C.above j hj
  · refine C.past.appH (fun g hg => .inl hg) hops (fun op hop b hb hw g hg hs => ?_) (fun op hop b hb hs => ?_) (fun hM => ?_)
    · obtain ⟨ev, he, rfl⟩ := Conc.mem_ofEvents hop
      obtain ⟨⟨k, hk⟩, _⟩ := hes ev he b hb
      rw [hk] at hs
      exact (C.stilNot hs).2 (hSh k)
    · obtain ⟨ev, he, rfl⟩ := Conc.mem_ofEvents hop
      exact (hes ev he b hb).2
    · rcases hM with hM | ⟨_, hM⟩
      · rw [C.rh] at hM; exact hM.elim
      · cases hM
  · simpa using hwg
  · intro op hop b hb ad hl
    obtain ⟨ev, he, rfl⟩ := Conc.mem_ofEvents hop
    obtain ⟨⟨k, hk⟩, _⟩ := hes ev he b hb
    rw [hk] at hl
    simp only [Loc.cell.injEq] at hl
    rw [← hl, hsz']; exact hWl
  · obtain ⟨o, h1, h2⟩ := C.shw ad hs
    rcases hrl.heap _ _ h1 with h3 | ⟨_, o', h3, h4⟩
    · exact ⟨o, h3, h2⟩
    · exact ⟨o', h3, h4.1⟩
/-- Nobody says Done. -/
def NoDon (role : Nat → Role) : Prop := ∀ x, role x ≠ .don
theorem NoDon.same {role role' : Nat → Role} (h : NoDon role) (hs : Same role role') : NoDon role' := fun x hx => by
  have h1 := hs x
  rw [hx] at h1
  generalize hr : role x = r at h1
  cases h1
  exact h x hr
theorem NoDon.sum {role : Nat → Role} (h : NoDon role) (n : Nat) : sumTo n (fun x => (role x).dn) = 0 := by
  have : sumTo n (fun x => (role x).dn) = sumTo n (fun _ => 0) := sumTo_congr fun x _ => by
    have := h x
    revert this
    cases role x <;> simp [Role.dn]
  rw [this]
  clear this
  induction n with
  | zero => rfl
  | succ n ih => exact ih
end
end Go.Bt
end
section
namespace Go.Bt
variable [Gnd]
open Go.Conc Go.ConcN Go.RowKit Go.Conc.Lib Go.ConcR.Gen
open Go.Sx (Rly spec isWg Gud)
open Go.ConcR (wgBlock WgAt mk DC0)
/-- While it walks the group stays one. -/
def RG (Wg : Nat) (_ w₁ : World) : Prop := WgLive 80 Wg w₁
theorem rg_rely {Wg : Nat} {w w₁ : World} (_ : WgLive 80 Wg w) (r : RG Wg w w₁) : WgLive 80 Wg w₁ := r
theorem WgS.live {Wg : Nat} {w : World} {st : Int} (h : WgS Wg w st) : WgLive 80 Wg w := ⟨st, 0, h⟩
section
variable {p : Par} {role : Nat → Role} {h e : Nat} {T : Trace} {gs : Array Goroutine} {w : World} {q : Nat → Nat}
theorem Fr.live {hm : Bool} (C : Fr p role h e hm T gs w q) : WgLive 80 p.Wg w := C.wg.live
/-- The holder walks, and touches the group alone. -/
theorem Fr.walkG (hSh : ∀ k, p.Shun (.cell ⟨p.Wg, k, none⟩)) {Stop : Goroutine → World → Prop} : ∀ {n : Nat} {role : Nat → Role} {a : Goroutine} {gs : Array Goroutine} {w w₀ : World} {sl : Option (Nat × Nat)} {T : Trace} {q : Nat → Nat},
    Goes p.P (h == 0) (RG p.Wg) DC0 Stop n a w₀ → gs[h]? = some a → Fr p role h e false T gs w q →
    ∃ (N : Nat) (gs' : Array Goroutine) (a' : Goroutine) (w' : World) (sl' : Option (Nat × Nat)) (T' : Trace) (q' : Nat → Nat) (role' : Nat → Role),
      runNT p.P N (crowd gs w sl) T = (.next (crowd gs' w' sl'), T') ∧ gs'.size = gs.size ∧ gs'[h]? = some a' ∧ Stop a' w' ∧ Rly w w' ∧ Fr p role' h e false T' gs' w' q' ∧ Same role role' ∧ Deaf T' h = Deaf T h := by
  intro n
  induction n with
  | zero =>
    intro role a gs w w₀ sl T q hG ha C
    exact ⟨0, gs, a, w, sl, T, q, role, rfl, rfl, ha, hG w C.live, Rly.refl _, C, Same.refl _, rfl⟩
  | succ n ih =>
    intro role a gs w w₀ sl T q hG ha C
    rcases hG with hG | ⟨hrun, hstep⟩
    · exact ⟨0, gs, a, w, sl, T, q, role, rfl, rfl, ha, hG w C.live, Rly.refl _, C, Same.refl _, rfl⟩
    · obtain ⟨N, gs₁, w₁, w₂, sl₁, sl₂, T₁, q₁, role₁, hr, hst, hsz, ha₁, hrel, C₁, hsm, hdf⟩ := C.pickedD (sl := sl) hSh ha hrun
      have hs := hstep w₂ C₁.live
      cases hgo : stepG p.P (h == 0) a w₂ with
      | go g' w' es =>
        rw [hgo, goes_go] at hs
        obtain ⟨⟨rfl, rfl⟩, hch⟩ := hs
        obtain ⟨C₂, ha₂, hd₂⟩ := C₁.ownG (a' := g') (es := #[]) hSh ha₁ (fun ev he => by simp at he) (Rly.refl _) rfl C₁.wg C₁.few
        have hrt := runT_crowd_go (P := p.P) (sl := sl₂) ha₁ hgo
        obtain ⟨N', gs', a', w', sl', T', q', role', hr', hsz', ha', hS, hrl', C', hsm', hdf'⟩ := ih (sl := sl₂) hch ha₂ C₂
        exact ⟨N + 1 + N', gs', a', w', sl', T', q', role', runNT_cat (runNT_succ hr (hst.trans hrt)) hr', by rw [hsz']; simpa using hsz, ha', hS, hrel.trans hrl', C', hsm.trans hsm', by rw [hdf', hd₂]; exact hdf⟩
      | _ => rw [hgo] at hs; exact hs.elim
/-- One step of the holder's at the group: a mark, or the atomic Add. -/
theorem Fr.stepG1 (hSh : ∀ k, p.Shun (.cell ⟨p.Wg, k, none⟩)) {a a' : Goroutine} {sl : Option (Nat × Nat)} {e' : Nat} {f : World → World} {es : Array Event} (C : Fr p role h e false T gs w q) (ha : gs[h]? = some a) (hrun : a.status = .running)
    (hgo : ∀ w₁ v, v + e < 2147483647 → WgS p.Wg w₁ (((v + e : Nat) : Int) * KK) → stepG p.P (h == 0) a w₁ = .go a' (f w₁) es ∧ Rly w₁ (f w₁) ∧ (f w₁).heap.size = w₁.heap.size ∧ WgS p.Wg (f w₁) (((v + e' : Nat) : Int) * KK))
    (hes : ∀ ev ∈ es, EvG p.Wg ev) (hfew : ∀ v, v + e < 2147483647 → v + e' < 2147483647) :
    ∃ (N : Nat) (gs' : Array Goroutine) (w' : World) (sl' : Option (Nat × Nat)) (T' : Trace) (q' : Nat → Nat) (role' : Nat → Role),
      runNT p.P N (crowd gs w sl) T = (.next (crowd gs' w' sl'), T') ∧ gs'.size = gs.size ∧ gs'[h]? = some a' ∧ Rly w w' ∧ Fr p role' h e' false T' gs' w' q' ∧ Same role role' ∧ Deaf T' h = deafBehind (Deaf T h) es := by
  obtain ⟨N, gs₁, w₁, w₂, sl₁, sl₂, T₁, q₁, role₁, hr, hst, hsz, ha₁, hrel, C₁, hsm, hdf⟩ := C.pickedD (sl := sl) hSh ha hrun
  have hbd := sum_dn_le role₁ gs₁.size
  have hfew₁ := C₁.few
  obtain ⟨hgo', hrl, hsz', hwg⟩ := hgo w₂ (sumTo gs₁.size fun i => (role₁ i).dn) (by omega) C₁.wg
  obtain ⟨C₂, ha₂, hd₂⟩ := C₁.ownG (a' := a') hSh ha₁ hes hrl hsz' hwg (hfew _ hfew₁)
  have hrt := runT_crowd_go (P := p.P) (sl := sl₂) ha₁ hgo'
  exact ⟨N + 1, _, _, _, _, _, _, runNT_succ hr (hst.trans hrt), by simpa using hsz, ha₂, hrel.trans hrl, C₂, hsm, by rw [hd₂, hdf]⟩
end
section
variable (P : Program) (main : Bool) (Wg : Nat)
abbrev QG (Stop : Goroutine → Prop) (n : Nat) (g : Goroutine) : Prop := ∀ w, WgLive 80 Wg w → Goes P main (RG Wg) DC0 (fun g _ => Stop g) n g w
def AtEn (gf : Goroutine) (g : Goroutine) : Prop := g.status = .running ∧ ∃ g', (∀ w, stepG P main g w = .go g' w #[mk .enable]) ∧ ∃ m, QG P main Wg (· = gf) m g'
/-- The first one says that it looks at the semaphore's cell. -/
def AtRd (gf : Goroutine) (g : Goroutine) : Prop := g.status = .running ∧ ∃ g', (∀ w, stepG P main g w = .go g' w #[mk (.read ⟨Wg, 1, none⟩)]) ∧ ∃ m, QG P main Wg (AtEn P main Wg gf) m g'
def AtAdd (gf : Goroutine) (g : Goroutine) : Prop := g.status = .running ∧ ∀ (w : World) (v : Nat), v < 2147483647 → WgS Wg w ((v : Int) * KK) →
  ∃ g', stepG P main g w = .go g' (w.setCell (stA Wg) (.int .u64 (((v : Int) + 1) * KK))) #[rdA (stA Wg), wrA (stA Wg)] ∧ ∃ m, QG P main Wg (fun g => AtRd P main Wg gf g ∨ AtEn P main Wg gf g) m g'
def AtDis (gf : Goroutine) (g : Goroutine) : Prop := g.status = .running ∧ ∃ g', (∀ w, stepG P main g w = .go g' w #[mk .disable]) ∧ ∃ m, QG P main Wg (AtAdd P main Wg gf) m g'
end
end Go.Bt
end
