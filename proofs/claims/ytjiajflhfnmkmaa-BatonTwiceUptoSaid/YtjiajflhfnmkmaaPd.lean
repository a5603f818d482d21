/- A PLAY OF THE BATON: what the row rests on. -/
import Derived.Test.YtjiajflhfnmkmaaPc
import Derived.Conc.Deaf
import Derived.Conc.JoinTrace
import Derived.Conc.Beside
set_option linter.unusedVariables false
set_option linter.unusedSimpArgs false
set_option linter.unusedSectionVars false
section
namespace Go.Bt
variable [Gnd]
open Go.Conc Go.ConcN Go.RowKit Go.Conc.Lib Go.ConcR.Gen
open Go.Sx (Rly spec isWg Gud)
open Go.ConcR (wgBlock WgAt mk DC0)
section
variable {p : Par} {role : Nat → Role} {h e : Nat} {T : Trace} {gs : Array Goroutine} {w : World} {q : Nat → Nat}
theorem evG_mk {Wg : Nat} {m : Mark} (hm : (MemAct.ofEvent (mk m)).touch? = none) : ∀ ev ∈ #[mk m], EvG Wg ev := fun ev he b hb => by
  simp only [List.mem_toArray, List.mem_cons, List.not_mem_nil, or_false] at he
  subst he
  rw [hm] at hb; cases hb
/-- A mark of the holder's. -/
theorem Fr.markG (hSh : ∀ k, p.Shun (.cell ⟨p.Wg, k, none⟩)) {a a' : Goroutine} {sl : Option (Nat × Nat)} {es : Array Event} (C : Fr p role h e false T gs w q) (ha : gs[h]? = some a) (hrun : a.status = .running)
    (hgo : ∀ w, stepG p.P (h == 0) a w = .go a' w es) (hes : ∀ ev ∈ es, EvG p.Wg ev) :
    ∃ (N : Nat) (gs' : Array Goroutine) (w' : World) (sl' : Option (Nat × Nat)) (T' : Trace) (q' : Nat → Nat) (role' : Nat → Role),
      runNT p.P N (crowd gs w sl) T = (.next (crowd gs' w' sl'), T') ∧ gs'.size = gs.size ∧ gs'[h]? = some a' ∧ Rly w w' ∧ Fr p role' h e false T' gs' w' q' ∧ Same role role' ∧ Deaf T' h = deafBehind (Deaf T h) es :=
  C.stepG1 (f := id) hSh ha hrun (fun w₁ v _ hw => ⟨hgo w₁, Rly.refl _, rfl, hw⟩) hes (fun _ h => h)
/-- ████ THE HOLDER SAYS Add(1). ████ -/
theorem Fr.add (hSh : ∀ k, p.Shun (.cell ⟨p.Wg, k, none⟩)) (C : Fr p role h e true T gs w q) {a gf : Goroutine} {n : Nat} {sl : Option (Nat × Nat)} (ha : gs[h]? = some a) (hW : QG p.P (h == 0) p.Wg (AtDis p.P (h == 0) p.Wg gf) n a) (hnd : NoDon role) (hfew : e + 1 < 2147483647) :
    ∃ (N : Nat) (gs' : Array Goroutine) (w' : World) (sl' : Option (Nat × Nat)) (T' : Trace) (q' : Nat → Nat) (role' : Nat → Role),
      runNT p.P N (crowd gs w sl) T = (.next (crowd gs' w' sl'), T') ∧ gs'.size = gs.size ∧ gs'[h]? = some gf ∧ Rly w w' ∧ Fr p role' h (e + 1) true T' gs' w' q' ∧ Same role role' := by
  have hd0 : Deaf T h = 0 := C.past.hears h (.inr ⟨rfl, rfl⟩)
  have C0 := C.deafen
  obtain ⟨N₁, gs₁, a₁, w₁, sl₁, T₁, q₁, role₁, r₁, z₁, h₁, ⟨s₁, g₁', m₁, n₁, k₁⟩, l₁, C₁, e₁, d₁⟩ := C0.walkG (sl := sl) hSh (hW w C.live) ha
  obtain ⟨N₂, gs₂, w₂, sl₂, T₂, q₂, role₂, r₂, z₂, h₂, l₂, C₂, e₂, d₂⟩ := C₁.markG (sl := sl₁) hSh h₁ s₁ m₁ (evG_mk rfl)
  obtain ⟨N₃, gs₃, a₃, w₃, sl₃, T₃, q₃, role₃, r₃, z₃, h₃, ⟨s₃, ha₃⟩, l₃, C₃, e₃, d₃⟩ := C₂.walkG (sl := sl₂) hSh (k₁ w₂ C₂.live) h₂
  -- the atomic Add
  have hbd := sum_dn_le role₃ gs₃.size
  have hf₃ := C₃.few
  obtain ⟨N₄, gs₄, a₄, w₄, sl₄, T₄, q₄, role₄, r₄, z₄, h₄, ⟨n₄, k₄⟩, l₄, C₄, e₄, d₄⟩ : ∃ (N : Nat) (gs' : Array Goroutine) (a₄ : Goroutine) (w' : World) (sl' : Option (Nat × Nat)) (T' : Trace) (q' : Nat → Nat) (role' : Nat → Role),
      runNT p.P N (crowd gs₃ w₃ sl₃) T₃ = (.next (crowd gs' w' sl'), T') ∧ gs'.size = gs₃.size ∧ gs'[h]? = some a₄ ∧ (∃ m, QG p.P (h == 0) p.Wg (fun g => AtRd p.P (h == 0) p.Wg gf g ∨ AtEn p.P (h == 0) p.Wg gf g) m a₄) ∧ Rly w₃ w' ∧ Fr p role' h (e + 1) false T' gs' w' q' ∧ Same role₃ role' ∧ Deaf T' h = Deaf T₃ h := by
    obtain ⟨N, gs', w', w'', sl', sl'', T', q', role', hr, hst, hsz, ha', hrel, C', hsm, hdf⟩ := C₃.pickedD (sl := sl₃) hSh h₃ s₃
    have hf' := C'.few
    have hd0' : sumTo gs'.size (fun i => (role' i).dn) = 0 := (hnd.same (((e₁.trans e₂).trans e₃).trans hsm)).sum _
    obtain ⟨g', hgo, hk⟩ := ha₃ w'' (sumTo gs'.size (fun i => (role' i).dn) + e) (by omega) C'.wg
    have hwg : WgS p.Wg (w''.setCell (stA p.Wg) (.int .u64 ((((sumTo gs'.size (fun i => (role' i).dn) + e : Nat) : Int) + 1) * KK))) (((sumTo gs'.size (fun i => (role' i).dn) + (e + 1) : Nat) : Int) * KK) := by
      rw [show (((sumTo gs'.size (fun i => (role' i).dn) + (e + 1) : Nat) : Int)) = ((sumTo gs'.size (fun i => (role' i).dn) + e : Nat) : Int) + 1 by omega]
      exact C'.wg.set
    have hes : ∀ ev ∈ #[rdA (stA p.Wg), wrA (stA p.Wg)], EvG p.Wg ev := fun ev he b hb => by
      simp only [List.mem_toArray, List.mem_cons, List.not_mem_nil, or_false] at he
      rcases he with rfl | rfl <;>
      · simp only [MemAct.ofEvent, rdA, wrA, MemAct.touch?, Option.some.injEq] at hb
        subst hb
        exact ⟨⟨0, rfl⟩, by simp⟩
    obtain ⟨C₂', ha₂', hd₂'⟩ := C'.ownG (a' := g') hSh ha' hes (rly_cell p.wl C'.wg 0 _) (by simp [World.setCell]) hwg (by omega)
    have hrt := runT_crowd_go (P := p.P) (sl := sl'') ha' hgo
    exact ⟨N + 1, _, _, _, _, _, _, _, runNT_succ hr (hst.trans hrt), by simpa using hsz, ha₂', hk, hrel.trans (rly_cell p.wl C'.wg 0 _), C₂', hsm, by rw [hd₂', deafBehind_still (fun e he => by simp only [List.mem_toArray, List.mem_cons, List.not_mem_nil, or_false] at he; rcases he with rfl | rfl <;> simp [rdA, wrA]), hdf]⟩
  obtain ⟨N₅, gs₅, a₅, w₅, sl₅, T₅, q₅, role₅, r₅, z₅, h₅, hs₅, l₅, C₅, e₅, d₅⟩ := C₄.walkG (sl := sl₄) hSh (k₄ w₄ C₄.live) h₄
  obtain ⟨N₆, gs₆, a₆, w₆, sl₆, T₆, q₆, role₆, r₆, z₆, h₆, ⟨s₆, g₆', m₆, n₆, k₆⟩, l₆, C₆, e₆, d₆⟩ : ∃ (N : Nat) (gs' : Array Goroutine) (a' : Goroutine) (w' : World) (sl' : Option (Nat × Nat)) (T' : Trace) (q' : Nat → Nat) (role' : Nat → Role),
      runNT p.P N (crowd gs₅ w₅ sl₅) T₅ = (.next (crowd gs' w' sl'), T') ∧ gs'.size = gs₅.size ∧ gs'[h]? = some a' ∧ AtEn p.P (h == 0) p.Wg gf a' ∧ Rly w₅ w' ∧ Fr p role' h (e + 1) false T' gs' w' q' ∧ Same role₅ role' ∧ Deaf T' h = Deaf T₅ h := by
    rcases hs₅ with ⟨s, g', m, n, k⟩ | hen
    · obtain ⟨N₆, gs₆, w₆, sl₆, T₆, q₆, role₆, r₆, z₆, h₆, l₆, C₆, e₆, d₆⟩ := C₅.markG (sl := sl₅) hSh h₅ s m (fun ev he b hb => by
        simp only [List.mem_toArray, List.mem_cons, List.not_mem_nil, or_false] at he
        subst he
        obtain rfl := Option.some.inj (show some (⟨.cell ⟨p.Wg, 1, none⟩, false, .said⟩ : Touch) = some b from hb)
        exact ⟨⟨1, rfl⟩, by simp⟩)
      obtain ⟨N₇, gs₇, a₇, w₇, sl₇, T₇, q₇, role₇, r₇, z₇, h₇, s₇, l₇, C₇, e₇, d₇⟩ := C₆.walkG (sl := sl₆) hSh (k w₆ C₆.live) h₆
      exact ⟨_, gs₇, a₇, w₇, sl₇, T₇, q₇, role₇, runNT_cat r₆ r₇, z₇.trans z₆, h₇, s₇, l₆.trans l₇, C₇, e₆.trans e₇, by rw [d₇, d₆]; rfl⟩
    · exact ⟨0, gs₅, a₅, w₅, sl₅, T₅, q₅, role₅, rfl, rfl, h₅, hen, Rly.refl _, C₅, Same.refl _, rfl⟩
  obtain ⟨N₇, gs₇, w₇, sl₇, T₇, q₇, role₇, r₇, z₇, h₇, l₇, C₇, e₇, d₇⟩ := C₆.markG (sl := sl₆) hSh h₆ s₆ m₆ (evG_mk rfl)
  obtain ⟨N₈, gs₈, a₈, w₈, sl₈, T₈, q₈, role₈, r₈, z₈, h₈, rfl, l₈, C₈, e₈, d₈⟩ := C₇.walkG (sl := sl₇) hSh (k₆ w₇ C₇.live) h₇
  refine ⟨_, gs₈, w₈, sl₈, T₈, q₈, role₈, runNT_cat (runNT_cat (runNT_cat (runNT_cat (runNT_cat (runNT_cat (runNT_cat r₁ r₂) r₃) r₄) r₅) r₆) r₇) r₈, by omega, h₈, ((((((l₁.trans l₂).trans l₃).trans l₄).trans l₅).trans l₆).trans l₇).trans l₈, C₈.hearken ?_, ((((((e₁.trans e₂).trans e₃).trans e₄).trans e₅).trans e₆).trans e₇).trans e₈⟩
  rw [d₈, d₇, d₆, d₅, d₄, d₃, d₂, d₁, hd0]
  rfl
/-- OTHER PARAMETERS: more channels of which nobody waits at one; other sealed cells that the holder may turn. -/
theorem Fr.param {hm : Bool} (C : Fr p role h e hm T gs w q) {Ch' : Nat → Prop} {X' : Addr → Prop} (hCh : ∀ c, p.Ch c → Ch' c) (hnew : ∀ c, Ch' c → p.Ch c ∨ ∃ k, w.heap[c]? = some (.chan 0 #[] false k k false))
    (hX : ∀ i, ∀ x ∈ (role i).st, ¬ X' x.1) (hXl : ∀ ad, X' ad → ad.block < w.heap.size) : Fr { p with Ch := Ch', X := X' } role h e hm T gs w q :=
  ⟨fun i g hi hg => by
    have := C.idle i g hi hg
    cases er : role i <;> rw [er] at this <;> exact this, C.rh, C.out, fun i c hc => hCh c (C.seats i c hc), C.inj, fun c hc => (hnew c hc).elim (C.chans c) id, C.above, C.past, C.keep, C.pro, C.wg, C.few, C.low, C.shw, C.shc, hX, hXl⟩
end
end Go.Bt
end
section
namespace Go.Bt
variable [Gnd]
open Go.Conc Go.ConcN Go.RowKit Go.Conc.Lib Go.ConcR.Gen
open Go.Sx (Rly spec isWg Gud)
open Go.ConcR (wgBlock WgAt mk DC0)
open Go.ConcN (sumTo upd sumTo_upd upd_ne upd_same sumTo_congr)
def smB (Wg : Nat) : Addr := ⟨Wg, 1, none⟩
/-- The last one's way: it looks at the state, stores nought, lets the waiter go; then it leaves. -/
def Lst (P : Program) (Wg : Nat) : Nat → Nat → Nat → Goroutine → Prop
  | _, 0, _, _ => False
  | s, n + 1, d, g => g.status = .running ∧ 0 < d ∧ ((∀ w st, WgS Wg w st → ∃ g', stepG P false g w = .go g' w #[] ∧ Lst P Wg s n d g') ∨
      match s with
      | 3 => ∀ w, WgS Wg w 1 → ∃ g', stepG P false g w = .go g' w #[rdA (stA Wg)] ∧ Lst P Wg 2 n d g'
      | 2 => ∀ w, WgS Wg w 1 → ∃ g', stepG P false g w = .go g' (w.setCell (stA Wg) (.int .u64 0)) #[wrA (stA Wg)] ∧ Lst P Wg 1 n d g'
      | 1 => mayWake P g = true ∧ ∀ w, WgS Wg w 0 → ∃ g', stepG P false g w = .go g' (w.setCell (smB Wg) (.int .u32 1)) (semEvents (smB Wg)) ∧ g'.status = .running ∧ QuitsD P n d g'
      | _ => False)
theorem Lst.running {P : Program} {Wg s n d : Nat} {g : Goroutine} (h : Lst P Wg s n d g) : g.status = .running := by
  cases n with
  | zero => exact h.elim
  | succ n => exact h.1
inductive WRole where
  | quit | don
  | lst (s : Nat)
def WRole.wt : WRole → Nat
  | .quit => 0
  | .don => 10
  | .lst s => s
def WRole.cn : WRole → Nat
  | .don => 1
  | _ => 0
def WIdle (P : Program) (Wg : Nat) (T : Trace) (i n : Nat) (g : Goroutine) : WRole → Prop
  | .quit => QuitsD P n (Deaf T i) g
  | .don => Don P Wg (Lst P Wg 3) n (Deaf T i) g
  | .lst s => Lst P Wg s n (Deaf T i) g
theorem WIdle.status {P : Program} {Wg : Nat} {T : Trace} {i n : Nat} {g : Goroutine} {r : WRole} (h : WIdle P Wg T i n g r) : g.status = .running ∨ g.status = .finished := by
  cases r with
  | quit => exact QuitsD.status h
  | don => exact .inl (Don.running h)
  | lst s => exact .inl (Lst.running h)
theorem WIdle.other {P : Program} {Wg : Nat} {T u : Trace} {i i' n : Nat} {g : Goroutine} {r : WRole} (h : WIdle P Wg T i n g r) (hne : i' ≠ i) (hu : ∀ op ∈ u, op.g = i') : WIdle P Wg (T ++ u) i n g r := by
  cases r <;> (simp only [WIdle] at *; rw [Deaf_other T hne u hu]; exact h)
/-- THE FRAME while goroutine 0 waits (hm: it hears). -/
structure WF (P : Program) (Wg : Nat) (Shun : Loc → Prop) (role : Nat → WRole) (hm : Bool) (T : Trace) (gs : Array Goroutine) (w : World) (q : Nat → Nat) : Prop where
  idle : ∀ i g, 0 < i → gs[i]? = some g → WIdle P Wg T i (q i) g (role i)
  r0 : role 0 = .quit
  out : ∀ i, gs.size ≤ i → role i = .quit
  above : ∀ j, gs.size ≤ j → Deaf T j = 0
  past : PastB (fun _ _ => False) Shun (fun i => i = 0 ∧ hm = true) (fun _ => False) 0 T
  few : sumTo gs.size (fun i => (role i).cn) < 2147483647
  low : ∀ i a ad, touchAt T i = some a → a.loc = .cell ad → ad.block < w.heap.size
  shw : ∀ ad, Shun (.cell ad) → ∃ o, w.heap[ad.block]? = some o ∧ isWg o = true
  shc : ∀ l, (∀ ad, l ≠ .cell ad) → ¬ Shun l
  gl : Go.Sx.n0 ≤ Wg
def cnt (role : Nat → WRole) (n : Nat) : Nat := sumTo n fun i => (role i).cn
def wts (role : Nat → WRole) (n : Nat) : Nat := sumTo n fun i => (role i).wt
section
variable {P : Program} {Wg : Nat} {Shun : Loc → Prop} {role : Nat → WRole} {hm : Bool} {T : Trace} {gs : Array Goroutine} {w : World} {q : Nat → Nat}
theorem WF.at (C : WF P Wg Shun role hm T gs w q) (d : Nat) : WF P Wg Shun role hm T gs (w.at d) q := ⟨C.idle, C.r0, C.out, C.above, C.past, C.few, C.low, C.shw, C.shc, C.gl⟩
theorem WF.deafen (C : WF P Wg Shun role hm T gs w q) : WF P Wg Shun role false T gs w q := ⟨C.idle, C.r0, C.out, C.above, C.past.fewer fun x hx => (by cases hx.2), C.few, C.low, C.shw, C.shc, C.gl⟩
theorem WF.hearken (C : WF P Wg Shun role false T gs w q) (hd : Deaf T 0 = 0) : WF P Wg Shun role true T gs w q :=
  ⟨C.idle, C.r0, C.out, C.above, (C.past.member hd (fun l hl => hl.elim)).fewer fun x hx => .inr hx.1, C.few, C.low, C.shw, C.shc, C.gl⟩
/-- Its operations, within the group. -/
def EvW (Wg : Nat) (es : Array Event) : Prop := ∀ ev ∈ es, ∀ b, (MemAct.ofEvent ev).touch? = some b → ∃ k, b.loc = .cell ⟨Wg, k, none⟩
theorem evW_low {es : Array Event} (h : EvW Wg es) {g : Nat} {fn : FuncId} {pos : String} {n : Nat} (hW : Wg < n) : ∀ op ∈ MemOp.ofEvents g fn pos es, ∀ b, op.act.touch? = some b → ∀ ad, b.loc = .cell ad → ad.block < n := fun op hop b hb ad hl => by
  obtain ⟨ev, he, rfl⟩ := Conc.mem_ofEvents hop
  obtain ⟨k, hk⟩ := h ev he b hb
  rw [hk] at hl
  simp only [Loc.cell.injEq] at hl
  rw [← hl]; exact hW
theorem shw_rly (h : ∀ ad, Shun (.cell ad) → ∃ o, w.heap[ad.block]? = some o ∧ isWg o = true) {w' : World} (hr : Rly w w') : ∀ ad, Shun (.cell ad) → ∃ o, w'.heap[ad.block]? = some o ∧ isWg o = true := fun ad hs => by
  obtain ⟨o, h1, h2⟩ := h ad hs
  rcases hr.heap _ _ h1 with h3 | ⟨_, o', h3, h4⟩
  · exact ⟨o, h3, h2⟩
  · exact ⟨o', h3, h4.1⟩
/-- A STEP OF GOROUTINE 0's, within the group. -/
theorem WF.own (hSh : ∀ k, Shun (.cell ⟨Wg, k, none⟩)) (C : WF P Wg Shun role false T gs w q) {a a' : Goroutine} {w' : World} {es : Array Event} (ha : gs[0]? = some a) (hW : Wg < w.heap.size) (hes : EvW Wg es) (hpl : ∀ ev ∈ es, ∀ b, (MemAct.ofEvent ev).touch? = some b → b.kind ≠ .plain) (hrl : Rly w w') :
    WF P Wg Shun role false (T ++ MemOp.ofEvents 0 a.frame.fn a.frame.place es) ((gs.map (woken P a a' w')).setIfInBounds 0 a') w' q ∧ ((gs.map (woken P a a' w')).setIfInBounds 0 a')[0]? = some a' ∧ Deaf (T ++ MemOp.ofEvents 0 a.frame.fn a.frame.place es) 0 = deafBehind (Deaf T 0) es := by
  have hlt : 0 < gs.size := (Array.getElem?_eq_some_iff.1 ha).1
  have hops : ∀ op ∈ MemOp.ofEvents 0 a.frame.fn a.frame.place es, op.g = 0 := fun op hop => by obtain ⟨e, _, rfl⟩ := Conc.mem_ofEvents hop; rfl
  refine ⟨⟨fun x y hx hy => ?_, C.r0, fun x hx => C.out x (by simpa using hx), fun j hj => ?_, ?_, by simpa using C.few, low_app C.low hrl.size (evW_low hes (Nat.lt_of_lt_of_le hW hrl.size)), shw_rly C.shw hrl, C.shc, C.gl⟩, Array.getElem?_setIfInBounds_self_of_lt (by simpa using hlt), by rw [Deaf_own]⟩
  · rw [Array.getElem?_setIfInBounds_ne (by omega), Array.getElem?_map] at hy
    obtain ⟨y₀, hy₀, rfl⟩ := Option.map_eq_some_iff.1 hy
    have hi := C.idle x y₀ hx hy₀
    rw [woken_of_again (again_running _ hi.status)]
    exact hi.other (by omega) hops
  · simp only [Array.size_setIfInBounds, Array.size_map] at hj
    rw [Deaf_other T (g' := 0) (by omega) _ hops]
    exact C.above j hj
  · exact C.past.appH (fun g hg => hg.elim) hops (fun op hop b hb hw g hg hs => hs) (fun op hop b hb hs => by
      obtain ⟨ev, he, rfl⟩ := Conc.mem_ofEvents hop
      exact hpl ev he b hb) (fun hM => by cases hM.2)
theorem notHeard {i d : Nat} {fn : FuncId} {pos : String} {es : Array Event} (hd : Deaf T i = d) (h : ∀ (j : Nat) (e : Event), es[j]? = some e → (MemAct.ofEvent e).touch? = none ∨ 0 < deafBehind d (es.extract 0 j)) :
    ∀ k x, (T ++ MemOp.ofEvents i fn pos es)[k]? = some x → T.size ≤ k → x.act.touch? ≠ none → ¬ (T ++ MemOp.ofEvents i fn pos es).heard k := fun k x hx hk ht ⟨gx, hgx, hdx⟩ => by
  have hj : (MemOp.ofEvents i fn pos es)[k - T.size]? = some x := by
    rw [Array.getElem?_append] at hx
    simpa [Nat.not_lt.2 hk] using hx
  rw [ofEvents_eq, Array.getElem?_map] at hj
  obtain ⟨e, he, rfl⟩ := Option.map_eq_some_iff.1 hj
  have hjs : k - T.size ≤ es.size := by
    have := (Array.getElem?_eq_some_iff.1 he).1
    omega
  rcases h _ e he with h0 | h0
  · exact ht h0
  · have hg1 : gx = i := by
      have := g?_of hx
      rw [hgx] at this; exact Option.some.inj this
    subst hg1
    have := deaf_inside T gx fn pos es (k - T.size) hjs
    rw [show T.size + (k - T.size) = k by omega, hdx, hd] at this
    omega
/-- A STEP OF SOMEBODY ELSE's. -/
theorem WF.other (C : WF P Wg Shun role false T gs w q) (hSh : ∀ k, Shun (.cell ⟨Wg, k, none⟩)) {i : Nat} {g g' : Goroutine} {w' : World} {es : Array Event} {r' : WRole} {n' : Nat} (hi : 0 < i) (hg : gs[i]? = some g) (hW : Wg < w.heap.size) (hrl : Rly w w')
    (hes : ∀ ev ∈ es, ∀ b, (MemAct.ofEvent ev).touch? = some b → (∃ k, b.loc = .cell ⟨Wg, k, none⟩) ∧ b.kind = .atomic) (hd : ∀ (j : Nat) (e : Event), es[j]? = some e → (MemAct.ofEvent e).touch? = none ∨ 0 < deafBehind (Deaf T i) (es.extract 0 j))
    (hid : ∀ T', Deaf T' i = deafBehind (Deaf T i) es → WIdle P Wg T' i n' g' r') (hcn : r'.cn ≤ (role i).cn) :
    WF P Wg Shun (upd role i r') false (T ++ MemOp.ofEvents i g.frame.fn g.frame.place es) ((gs.map (woken P g g' w')).setIfInBounds i g') w' (upd q i n') ∧ Deaf (T ++ MemOp.ofEvents i g.frame.fn g.frame.place es) 0 = Deaf T 0 ∧ ∀ a, gs[0]? = some a → ((gs.map (woken P g g' w')).setIfInBounds i g')[0]? = some (woken P g g' w' a) := by
  have hlt : i < gs.size := (Array.getElem?_eq_some_iff.1 hg).1
  have hops : ∀ op ∈ MemOp.ofEvents i g.frame.fn g.frame.place es, op.g = i := fun op hop => by obtain ⟨e, _, rfl⟩ := Conc.mem_ofEvents hop; rfl
  refine ⟨⟨fun x y hx hy => ?_, by rw [upd_ne role r' (by omega)]; exact C.r0, fun x hx => ?_, fun j hj => ?_, ?_, ?_, low_app C.low hrl.size (evW_low (fun ev he b hb => (hes ev he b hb).1) (Nat.lt_of_lt_of_le hW hrl.size)), shw_rly C.shw hrl, C.shc, C.gl⟩, Deaf_other T (by omega) _ hops, fun a ha => by rw [Array.getElem?_setIfInBounds_ne (by omega), Array.getElem?_map, ha]; rfl⟩
  · by_cases ex : x = i
    · subst ex
      rw [Array.getElem?_setIfInBounds_self_of_lt (by simpa using hlt)] at hy
      obtain rfl := Option.some.inj hy
      rw [upd_same, upd_same]
      exact hid _ (by rw [Deaf_own])
    · rw [Array.getElem?_setIfInBounds_ne (fun z => ex z.symm), Array.getElem?_map] at hy
      obtain ⟨y₀, hy₀, rfl⟩ := Option.map_eq_some_iff.1 hy
      have hi' := C.idle x y₀ hx hy₀
      rw [woken_of_again (again_running _ hi'.status), upd_ne q n' ex, upd_ne role r' ex]
      exact hi'.other (fun z => ex z.symm) hops
  · simp only [Array.size_setIfInBounds, Array.size_map] at hx
    rw [upd_ne role r' (by omega)]; exact C.out x hx
  · simp only [Array.size_setIfInBounds, Array.size_map] at hj
    rw [Deaf_other T (g' := i) (by omega) _ hops]
    exact C.above j hj
  · refine C.past.appShun hops (fun hM => by cases hM.2) (fun op hop b hb => ?_) (notHeard rfl hd)
    obtain ⟨ev, he, rfl⟩ := Conc.mem_ofEvents hop
    obtain ⟨⟨k, hk⟩, h2⟩ := hes ev he b hb
    exact ⟨by rw [hk]; exact hSh k, h2⟩
  · have h1 := sumTo_upd role r' WRole.cn hlt
    have h2 := C.few
    simp only [Array.size_setIfInBounds, Array.size_map]
    omega
theorem WF.awake (C : WF P Wg Shun role hm T gs w q) {a : Goroutine} (ha : gs[0]? = some a) (hs : a.status = .running ∨ a.status = .blocked) : ∀ g ∈ gs, awake g := by
  intro g hg
  obtain ⟨i, hi, rfl⟩ := Array.mem_iff_getElem.1 hg
  rcases Nat.eq_zero_or_pos i with rfl | hpos
  · have : gs[0] = a := by simpa [Array.getElem?_eq_getElem hi] using ha
    rw [this]; exact awake_of (hs.elim .inl fun x => .inr (.inl x))
  · exact awake_of ((C.idle i _ hpos (Array.getElem?_eq_getElem hi)).status.elim .inl fun x => .inr (.inr x))
end
end Go.Bt
end
section
namespace Go.Bt
variable [Gnd]
open Go.Conc Go.ConcN Go.RowKit Go.Conc.Lib Go.ConcR.Gen
open Go.Sx (Rly spec isWg Gud)
open Go.ConcR (wgBlock WgAt mk DC0)
open Go.ConcN (sumTo upd sumTo_upd upd_ne upd_same sumTo_congr)
section
variable (P : Program) (Wg : Nat) (gf : Goroutine)
abbrev Q0 (Stop : Goroutine → Prop) (n : Nat) (g : Goroutine) : Prop := QG P true Wg Stop n g
def WAcq (g : Goroutine) : Prop := g.status = .running ∧ ∃ g', (∀ w, stepG P true g w = .go g' w #[mk (.acquire (stA Wg))]) ∧ ∃ m, Q0 P Wg (· = gf) m g'
def WKe (g : Goroutine) : Prop := g.status = .running ∧ ∃ g', (∀ w, stepG P true g w = .go g' w #[mk .enable]) ∧ ∃ m, Q0 P Wg (WAcq P Wg gf) m g'
def W4 (g : Goroutine) : Prop := g.status = .running ∧ ∀ w, WgAt 80 Wg w 0 0 → ∃ g', stepG P true g w = .go g' w #[rdA (stA Wg)] ∧ ∃ m, Q0 P Wg (WKe P Wg gf) m g'
def W3 (g : Goroutine) : Prop := g.status = .running ∧ g.offers = none ∧ (∀ w st, WgAt 80 Wg w st 0 → stepG P true g w = .go { g with status := .blocked } w #[]) ∧
  (∀ w, WgAt 80 Wg w 0 1 → ∃ g', stepG P true g w = .go g' (w.setCell (smB Wg) (.int .u32 0)) (semEvents (smB Wg)) ∧ ∃ m, Q0 P Wg (W4 P Wg gf) m g')
def WWr (g : Goroutine) : Prop := g.status = .running ∧ ∃ g', (∀ w, stepG P true g w = .go g' w #[mk (.write (smB Wg))]) ∧ ∃ m, Q0 P Wg (W3 P Wg gf) m g'
def W2 (W1 : Goroutine → Prop) (vs : Nat) (g : Goroutine) : Prop := g.status = .running ∧ ∀ (w : World) (v : Nat), v < 2147483648 → WgAt 80 Wg w ((v : Int) * KK) 0 →
  (v = vs → ∃ g', stepG P true g w = .go g' (w.setCell (stA Wg) (.int .u64 ((v : Int) * KK + 1))) #[rdA (stA Wg), wrA (stA Wg)] ∧ ∃ m, Q0 P Wg (WWr P Wg gf) m g') ∧
  (v ≠ vs → ∃ g', stepG P true g w = .go g' w #[rdA (stA Wg)] ∧ ∃ m, Q0 P Wg W1 m g')
/-- Where it looks at the state; 'A': where it stands at its loop's head again. -/
def W1 (A : Goroutine → Prop) (g : Goroutine) : Prop := g.status = .running ∧ ∀ (w : World) (v : Nat), v < 2147483648 → WgAt 80 Wg w ((v : Int) * KK) 0 → ∃ g', stepG P true g w = .go g' w #[rdA (stA Wg)] ∧
  (v = 0 → ∃ m, Q0 P Wg (WKe P Wg gf) m g') ∧ (v ≠ 0 → ∃ m, Q0 P Wg (W2 P Wg gf A v) m g')
def WKd (A : Goroutine → Prop) (g : Goroutine) : Prop := g.status = .running ∧ ∃ g', (∀ w, stepG P true g w = .go g' w #[mk .disable]) ∧ ∃ m, Q0 P Wg A m g'
inductive MTag where
  | kd | w1 | wr | w3 | blk | w4 | ke | acq | ret
  | w2 (vs : Nat)
def MSit (A : Goroutine → Prop) : MTag → Nat → Nat → Goroutine → Prop
  | .kd, f, d, g => d = 0 ∧ Q0 P Wg (WKd P Wg A) f g
  | .w1, f, d, g => d = 1 ∧ Q0 P Wg (W1 P Wg gf A) f g
  | .w2 vs, f, d, g => d = 1 ∧ Q0 P Wg (W2 P Wg gf A vs) f g
  | .wr, f, d, g => d = 1 ∧ Q0 P Wg (WWr P Wg gf) f g
  | .w3, f, d, g => d = 1 ∧ ∃ k, f = k + 1 ∧ Q0 P Wg (W3 P Wg gf) k g
  | .blk, _, d, g => d = 1 ∧ ∃ g0, W3 P Wg gf g0 ∧ g = { g0 with status := .blocked }
  | .w4, f, d, g => d = 1 ∧ Q0 P Wg (W4 P Wg gf) f g
  | .ke, f, d, g => d = 1 ∧ Q0 P Wg (WKe P Wg gf) f g
  | .acq, f, d, g => d = 0 ∧ Q0 P Wg (WAcq P Wg gf) f g
  | .ret, f, d, g => d = 0 ∧ Q0 P Wg (· = gf) f g
end
def phi (v : Nat) : MTag → Nat
  | .kd => 13
  | .w1 => 11
  | .w2 vs => if vs = v then 9 else 12
  | .wr => 8
  | .w3 => 7
  | .blk => 7
  | .w4 => 6
  | .ke => 5
  | .acq => 4
  | .ret => 3
def isOpen : MTag → Prop
  | .kd | .w1 | .w2 _ => True
  | _ => False
def isW3 : MTag → Prop
  | .wr | .w3 | .blk => True
  | _ => False
def isWr : MTag → Prop
  | .wr | .w3 => True
  | _ => False
def isFin : MTag → Prop
  | .w4 | .ke | .acq | .ret => True
  | _ => False
/-- How the group's cells hang on where everybody stands. -/
inductive Mode (n : Nat) (role : Nat → WRole) : MTag → Int → Int → Prop
  | opn {tag : MTag} : isOpen tag → (∀ i s, role i ≠ .lst s) → (∀ vs, tag = .w2 vs → cnt role n ≤ vs ∧ 1 ≤ vs) → Mode n role tag (((cnt role n : Nat) : Int) * KK) 0
  | reg {tag : MTag} : isW3 tag → (∀ i s, role i ≠ .lst s) → 1 ≤ cnt role n → Mode n role tag (((cnt role n : Nat) : Int) * KK + 1) 0
  | last {tag : MTag} (L s : Nat) : isW3 tag → 0 < L → L < n → role L = .lst s → 1 ≤ s → s ≤ 3 → (∀ i, i ≠ L → role i = .quit) → Mode n role tag (if s = 1 then 0 else 1) 0
  | sema {tag : MTag} : isWr tag → (∀ i, role i = .quit) → Mode n role tag 0 1
  | fin {tag : MTag} : isFin tag → (∀ i, role i = .quit) → Mode n role tag 0 0
theorem qg_cases {P : Program} {main : Bool} {Wg : Nat} {Stop : Goroutine → Prop} {f : Nat} {g : Goroutine} (h : QG P main Wg Stop f g) {w : World} (hw : WgLive 80 Wg w) : Stop g ∨ ∃ f', f = f' + 1 ∧ g.status = .running ∧ ∃ g', stepG P main g w = .go g' w #[] ∧ QG P main Wg Stop f' g' := by
  cases f with
  | zero => exact .inl (h w hw w hw)
  | succ f' =>
    rcases h w hw with hs | ⟨hrun, hs⟩
    · exact .inl (hs w hw)
    · have hs := hs w hw
      cases hgo : stepG P main g w with
      | go g' w' es =>
        rw [hgo, goes_go] at hs
        obtain ⟨⟨rfl, rfl⟩, hk⟩ := hs
        refine .inr ⟨f', rfl, hrun, g', rfl, fun w₂ hw₂ => ?_⟩
        cases f' with
        | zero => exact hk
        | succ k => exact hk
      | _ => rw [hgo] at hs; exact hs.elim
theorem goes_mono {P : Program} {main : Bool} {R : World → World → Prop} {D : World → World → Array Event → Prop} {Stop : Goroutine → World → Prop} {n n' : Nat} {g : Goroutine} {w : World} (h : Goes P main R D Stop n g w) (hn : n ≤ n') : Goes P main R D Stop n' g w := by
  induction hn with
  | refl => exact h
  | step _ ih => exact ih.more
theorem blocked_again {g : Goroutine} (hs : g.status = .running) (ho : g.offers = none) (w : World) : ({ g with status := .blocked } : Goroutine).again w = g := by
  obtain ⟨fr, cs, stt, dy, off⟩ := g
  simp only at hs ho
  subst hs ho
  simp [Goroutine.again]
theorem qg_bind {P : Program} {main : Bool} {Wg : Nat} {S S' : Goroutine → Prop} {M : Nat} (hM : ∀ g, S g → QG P main Wg S' M g) : ∀ {n : Nat} {g : Goroutine} {w : World}, Goes P main (RG Wg) DC0 (fun g _ => S g) n g w → Goes P main (RG Wg) DC0 (fun g _ => S' g) (n + M) g w := by
  have stop : ∀ {g : Goroutine} {w : World} {n : Nat}, (∀ w₁, RG Wg w w₁ → S g) → Goes P main (RG Wg) DC0 (fun g _ => S' g) (n + M) g w := by
    intro g w n h
    by_cases hw : ∃ w₁, WgLive 80 Wg w₁
    · obtain ⟨w₁, hw₁⟩ := hw
      have := goes_mono (hM g (h w₁ hw₁) w₁ hw₁) (Nat.le_add_left M n)
      cases hn : n + M with
      | zero => rw [hn] at this; exact this
      | succ k => rw [hn] at this; exact this
    · exact Goes.stop fun w₁ h₁ => absurd ⟨w₁, h₁⟩ hw
  intro n
  induction n with
  | zero => intro g w h; exact stop h
  | succ n ih =>
    intro g w h
    rcases h with h | ⟨hr, h⟩
    · exact stop h
    · rw [Nat.succ_add]
      refine .inr ⟨hr, fun w₁ h₁ => ?_⟩
      have := h w₁ h₁
      cases hgo : stepG P main g w₁ with
      | go g' w' es => rw [hgo, goes_go] at this; exact ⟨this.1, ih this.2⟩
      | _ => rw [hgo] at this; exact this.elim
theorem rly_wg {Wg : Nat} {w : World} {st sm : Int} (hl : Go.Sx.n0 ≤ Wg) (h : WgAt 80 Wg w st sm) (k : Nat) (v : Value) (hv : WgV k v := by first | exact .inl ⟨rfl, _, rfl⟩ | exact .inr ⟨rfl, _, rfl⟩) : Rly w (w.setCell ⟨Wg, k, none⟩ v) :=
  ⟨rfl, rfl, rfl, fun b o hb => by
    simp only [World.setCell]; rw [Array.getElem?_modify]
    by_cases e : Wg = b
    · subst e
      rw [if_pos rfl]
      have h' : w.heap[Wg]? = some (.cells #[.int .u64 st, .int .u32 sm] 80) := h
      rw [h'] at hb; obtain rfl := Option.some.inj hb
      refine .inr ⟨rfl, _, by rw [h']; rfl, ?_⟩
      rcases hv with ⟨rfl, x, rfl⟩ | ⟨rfl, x, rfl⟩ <;> exact ⟨rfl, hl⟩
    · rw [if_neg e]; exact .inl hb⟩
section
variable {P : Program} {Wg : Nat} {Shun : Loc → Prop} {role : Nat → WRole} {T : Trace} {gs : Array Goroutine} {w : World} {q : Nat → Nat} {A : Goroutine → Prop} {gf : Goroutine} {tag : MTag} {f d : Nat} {a : Goroutine}
theorem W3.again {g0 : Goroutine} (h : W3 P Wg gf g0) (w : World) : ({ g0 with status := .blocked } : Goroutine).again w = g0 := blocked_again h.1 h.2.1 w
theorem MSit.status (h : MSit P Wg gf A tag f d a) (hA : ∀ g, A g → g.status = .running) (hgf : gf.status = .running) (hw : WgLive 80 Wg w) : (a.status = .running ∧ tag ≠ .blk) ∨ (a.status = .blocked ∧ tag = .blk) := by
  cases tag with
  | blk => obtain ⟨_, g0, _, rfl⟩ := h; exact .inr ⟨rfl, rfl⟩
  | kd => exact .inl ⟨(qg_cases h.2 hw).elim (fun x => x.1) (fun ⟨_, _, x, _⟩ => x), by simp⟩
  | w1 => exact .inl ⟨(qg_cases h.2 hw).elim (fun x => x.1) (fun ⟨_, _, x, _⟩ => x), by simp⟩
  | w2 vs => exact .inl ⟨(qg_cases h.2 hw).elim (fun x => x.1) (fun ⟨_, _, x, _⟩ => x), by simp⟩
  | wr => exact .inl ⟨(qg_cases h.2 hw).elim (fun x => x.1) (fun ⟨_, _, x, _⟩ => x), by simp⟩
  | w3 => obtain ⟨_, k, _, h⟩ := h; exact .inl ⟨(qg_cases h hw).elim (fun x => x.1) (fun ⟨_, _, x, _⟩ => x), by simp⟩
  | w4 => exact .inl ⟨(qg_cases h.2 hw).elim (fun x => x.1) (fun ⟨_, _, x, _⟩ => x), by simp⟩
  | ke => exact .inl ⟨(qg_cases h.2 hw).elim (fun x => x.1) (fun ⟨_, _, x, _⟩ => x), by simp⟩
  | acq => exact .inl ⟨(qg_cases h.2 hw).elim (fun x => x.1) (fun ⟨_, _, x, _⟩ => x), by simp⟩
  | ret => exact .inl ⟨(qg_cases h.2 hw).elim (fun x => by rw [x]; exact hgf) (fun ⟨_, _, x, _⟩ => x), by simp⟩
/-- Under another's step. -/
theorem MSit.woken (h : MSit P Wg gf A tag f d a) (hs : (a.status = .running ∧ tag ≠ .blk) ∨ (a.status = .blocked ∧ tag = .blk)) (g g' : Goroutine) (w' : World) :
    ∃ tag' f', MSit P Wg gf A tag' f' d (Go.Conc.woken P g g' w' a) ∧ f' ≤ f + 1 ∧ (tag' = tag ∨ (tag = .blk ∧ tag' = .w3)) ∧ (mayWake P g = true → g'.status = .running → tag' ≠ .blk) := by
  unfold Go.Conc.woken
  split
  · rcases hs with ⟨hr, hne⟩ | ⟨_, rfl⟩
    · exact ⟨tag, f, by rw [again_running _ (.inl hr)]; exact h, by omega, .inl rfl, fun _ _ => hne⟩
    · obtain ⟨hd, g0, h3, rfl⟩ := h
      exact ⟨.w3, 1, by rw [h3.again]; exact ⟨hd, 0, rfl, fun w hw w₁ h₁ => h3⟩, by omega, .inr ⟨rfl, rfl⟩, fun _ _ => by simp⟩
  · rename_i hc
    exact ⟨tag, f, h, by omega, .inl rfl, fun h1 h2 => absurd (by simp [h1, h2]) hc⟩
abbrev Lt2 : Nat × Nat → Nat × Nat → Prop := Prod.Lex (· < ·) (· < ·)
theorem lt2_wf : WellFounded Lt2 := (Prod.lex Nat.lt_wfRel Nat.lt_wfRel).wf
def mu (n : Nat) (role : Nat → WRole) (q : Nat → Nat) (tag : MTag) (f : Nat) : Nat × Nat := (phi (cnt role n) tag + wts role n, f + 2 * sumTo n q)
def WInv (P : Program) (Wg : Nat) (Shun : Loc → Prop) (A : Goroutine → Prop) (gf : Goroutine) (n0 : Nat) (w0 : World) (μ : Nat × Nat) (m : Machine) (t : Trace) : Prop :=
  ∃ gs w sl role q tag f a st sm, m = crowd gs w sl ∧ gs.size = n0 ∧ gs[0]? = some a ∧ Rly w0 w ∧ WF P Wg Shun role false t gs w q ∧ MSit P Wg gf A tag f (Deaf t 0) a ∧ WgAt 80 Wg w st sm ∧ Mode n0 role tag st sm ∧ μ = mu n0 role q tag f
def WDone (P : Program) (Wg : Nat) (Shun : Loc → Prop) (gf : Goroutine) (n0 : Nat) (w0 : World) (m : Machine) (t : Trace) : Prop :=
  ∃ gs w sl role q, m = crowd gs w sl ∧ gs.size = n0 ∧ gs[0]? = some gf ∧ Rly w0 w ∧ WF P Wg Shun role true t gs w q ∧ (∀ i, role i = .quit) ∧ WgAt 80 Wg w 0 0
theorem wgAt_lt {st sm : Int} (h : WgAt 80 Wg w st sm) : Wg < w.heap.size := (Array.getElem?_eq_some_iff.1 (show w.heap[Wg]? = some _ from h)).1
/-- GOROUTINE 0's STEP. -/
theorem mainGo (hSh : ∀ k, Shun (.cell ⟨Wg, k, none⟩)) {n0 : Nat} {w0 : World} {sl : Option (Nat × Nat)} (hsz : gs.size = n0) (ha : gs[0]? = some a) (hr0 : Rly w0 w) (C : WF P Wg Shun role false T gs w q) {st sm st' sm' : Int} (hwg : WgAt 80 Wg w st sm)
    {a' : Goroutine} {w' : World} {es : Array Event} {tag' : MTag} {f' : Nat} (hgo : stepG P true a w = .go a' w' es) (hrl : Rly w w') (hes : EvW Wg es) (hpl : ∀ ev ∈ es, ∀ b, (MemAct.ofEvent ev).touch? = some b → b.kind ≠ .plain)
    (hs' : MSit P Wg gf A tag' f' (deafBehind (Deaf T 0) es) a') (hwg' : WgAt 80 Wg w' st' sm') (hm' : Mode n0 role tag' st' sm') (hlt : Lt2 (mu n0 role q tag' f') (mu n0 role q tag f)) :
    ∃ m₁ ops μ', runT P (crowd gs w sl) 0 = (.next m₁, ops) ∧ Lt2 μ' (mu n0 role q tag f) ∧ WInv P Wg Shun A gf n0 w0 μ' m₁ (T ++ ops) := by
  obtain ⟨C', ha', hd'⟩ := C.own (a' := a') hSh ha (wgAt_lt hwg) hes hpl hrl
  have hrt := runT_crowd_go (P := P) (sl := sl) (i := 0) ha (show stepG P (0 == 0) a w = _ from hgo)
  exact ⟨_, _, _, hrt, hlt, _, w', sl, role, q, tag', f', a', st', sm', rfl, by simpa using hsz, ha', hr0.trans hrl, C', by rw [hd']; exact hs', hwg', hm', rfl⟩
end
end Go.Bt
end
section
namespace Go.Bt
variable [Gnd]
open Go.Conc Go.ConcN Go.RowKit Go.Conc.Lib Go.ConcR.Gen
open Go.Sx (Rly spec isWg Gud)
open Go.ConcR (wgBlock WgAt mk DC0)
open Go.ConcN (sumTo upd sumTo_upd upd_ne upd_same sumTo_congr)
theorem evW_none {Wg : Nat} {es : Array Event} (h : ∀ e ∈ es, (MemAct.ofEvent e).touch? = none) : EvW Wg es ∧ ∀ ev ∈ es, ∀ b, (MemAct.ofEvent ev).touch? = some b → b.kind ≠ .plain :=
  ⟨fun ev he b hb => (by rw [h ev he] at hb; cases hb), fun ev he b hb => (by rw [h ev he] at hb; cases hb)⟩
theorem evW_nil {Wg : Nat} : EvW Wg #[] ∧ ∀ ev ∈ (#[] : Array Event), ∀ b, (MemAct.ofEvent ev).touch? = some b → b.kind ≠ .plain := evW_none (by simp)
theorem evW_mk {Wg : Nat} {m : Mark} (hm : (MemAct.ofEvent (mk m)).touch? = none) : EvW Wg #[mk m] ∧ ∀ ev ∈ #[mk m], ∀ b, (MemAct.ofEvent ev).touch? = some b → b.kind ≠ .plain :=
  evW_none fun e he => by simp only [List.mem_toArray, List.mem_cons, List.not_mem_nil, or_false] at he; subst he; exact hm
theorem touch_sync {a : Addr} {wr : Bool} {b : Touch} (h : (MemAct.ofEvent ⟨.cell a, wr, true⟩).touch? = some b) : b = ⟨.cell a, wr, .atomic⟩ := by
  simpa [MemAct.ofEvent, MemAct.touch?] using h.symm
theorem evA {Wg : Nat} {es : Array Event} (h : ∀ ev ∈ es, (∃ m, ev = mk m ∧ (MemAct.ofEvent (mk m)).touch? = none) ∨ ∃ k wr, ev = ⟨.cell ⟨Wg, k, none⟩, wr, true⟩) : ∀ ev ∈ es, ∀ b, (MemAct.ofEvent ev).touch? = some b → (∃ k, b.loc = .cell ⟨Wg, k, none⟩) ∧ b.kind = .atomic := fun ev he b hb => by
  rcases h ev he with ⟨m, rfl, hm⟩ | ⟨k, wr, rfl⟩
  · rw [hm] at hb; cases hb
  · rw [touch_sync hb]; exact ⟨⟨k, rfl⟩, rfl⟩
theorem evA_w {Wg : Nat} {es : Array Event} (h : ∀ ev ∈ es, ∀ b, (MemAct.ofEvent ev).touch? = some b → (∃ k, b.loc = .cell ⟨Wg, k, none⟩) ∧ b.kind = .atomic) : EvW Wg es ∧ ∀ ev ∈ es, ∀ b, (MemAct.ofEvent ev).touch? = some b → b.kind ≠ .plain :=
  ⟨fun ev he b hb => (h ev he b hb).1, fun ev he b hb => by rw [(h ev he b hb).2]; simp⟩
theorem evA_rd (Wg : Nat) : ∀ ev ∈ #[rdA (stA Wg)], ∀ b, (MemAct.ofEvent ev).touch? = some b → (∃ k, b.loc = .cell ⟨Wg, k, none⟩) ∧ b.kind = .atomic :=
  evA fun ev he => by simp only [List.mem_toArray, List.mem_cons, List.not_mem_nil, or_false] at he; subst he; exact .inr ⟨0, _, rfl⟩
theorem evA_wr (Wg : Nat) : ∀ ev ∈ #[wrA (stA Wg)], ∀ b, (MemAct.ofEvent ev).touch? = some b → (∃ k, b.loc = .cell ⟨Wg, k, none⟩) ∧ b.kind = .atomic :=
  evA fun ev he => by simp only [List.mem_toArray, List.mem_cons, List.not_mem_nil, or_false] at he; subst he; exact .inr ⟨0, _, rfl⟩
theorem evA_rw (Wg : Nat) : ∀ ev ∈ #[rdA (stA Wg), wrA (stA Wg)], ∀ b, (MemAct.ofEvent ev).touch? = some b → (∃ k, b.loc = .cell ⟨Wg, k, none⟩) ∧ b.kind = .atomic :=
  evA fun ev he => by simp only [List.mem_toArray, List.mem_cons, List.not_mem_nil, or_false] at he; rcases he with rfl | rfl <;> exact .inr ⟨0, _, rfl⟩
theorem evA_sem (Wg : Nat) : ∀ ev ∈ semEvents (smB Wg), ∀ b, (MemAct.ofEvent ev).touch? = some b → (∃ k, b.loc = .cell ⟨Wg, k, none⟩) ∧ b.kind = .atomic :=
  evA fun ev he => by
    simp only [semEvents, List.mem_toArray, List.mem_cons, List.not_mem_nil, or_false] at he
    rcases he with rfl | rfl | rfl | rfl
    · exact .inl ⟨_, rfl, rfl⟩
    · exact .inr ⟨1, _, rfl⟩
    · exact .inr ⟨1, _, rfl⟩
    · exact .inl ⟨_, rfl, rfl⟩
theorem evW_write (Wg : Nat) : EvW Wg #[mk (.write (smB Wg))] ∧ ∀ ev ∈ #[mk (.write (smB Wg))], ∀ b, (MemAct.ofEvent ev).touch? = some b → b.kind ≠ .plain := by
  refine ⟨fun ev he b hb => ?_, fun ev he b hb => ?_⟩ <;>
  · simp only [List.mem_toArray, List.mem_cons, List.not_mem_nil, or_false] at he
    subst he
    obtain rfl := Option.some.inj (show some (⟨.cell (smB Wg), true, .said⟩ : Touch) = some b from hb)
    first | exact ⟨1, rfl⟩ | simp
theorem cnt_upd {n i : Nat} (role : Nat → WRole) (r : WRole) (hi : i < n) : cnt (upd role i r) n + (role i).cn = cnt role n + r.cn := sumTo_upd role r WRole.cn hi
theorem wts_upd {n i : Nat} (role : Nat → WRole) (r : WRole) (hi : i < n) : wts (upd role i r) n + (role i).wt = wts role n + r.wt := sumTo_upd role r WRole.wt hi
theorem cnt_le (role : Nat → WRole) : ∀ n, cnt role n ≤ n
  | 0 => Nat.le_refl _
  | n + 1 => by
    have := cnt_le role n
    have h1 : cnt role (n + 1) = cnt role n + (role n).cn := rfl
    have h2 : (role n).cn ≤ 1 := by cases role n <;> simp [WRole.cn]
    omega
theorem cnt_mem {role : Nat → WRole} : ∀ {n : Nat}, cnt role n = 0 → ∀ i, i < n → role i ≠ .don
  | 0, _, i, hi => by omega
  | n + 1, h, i, hi => by
    have h1 : cnt role (n + 1) = cnt role n + (role n).cn := rfl
    by_cases e : i = n
    · subst e; intro hd; rw [hd] at h1; simp [WRole.cn] at h1; omega
    · exact cnt_mem (n := n) (by omega) i (by omega)
theorem cnt_pos {role : Nat → WRole} : ∀ {n : Nat}, 1 ≤ cnt role n → ∃ i, i < n ∧ role i = .don
  | 0, h => by simp [cnt, sumTo] at h
  | n + 1, h => by
    have h1 : cnt role (n + 1) = cnt role n + (role n).cn := rfl
    cases e : role n with
    | don => exact ⟨n, by omega, e⟩
    | quit => rw [e] at h1; obtain ⟨i, hi, hd⟩ := cnt_pos (show 1 ≤ cnt role n by simp [WRole.cn] at h1; omega); exact ⟨i, by omega, hd⟩
    | lst s => rw [e] at h1; obtain ⟨i, hi, hd⟩ := cnt_pos (show 1 ≤ cnt role n by simp [WRole.cn] at h1; omega); exact ⟨i, by omega, hd⟩
theorem all_quit {role : Nat → WRole} {n : Nat} (h0 : cnt role n = 0) (hl : ∀ i s, role i ≠ .lst s) (ho : ∀ i, n ≤ i → role i = .quit) : ∀ i, role i = .quit := fun i => by
  by_cases hi : i < n
  · have h1 := cnt_mem h0 i hi
    cases e : role i with
    | quit => rfl
    | don => exact absurd e h1
    | lst s => exact absurd e (hl i s)
  · exact ho i (by omega)
theorem phi_near (v v' : Nat) (tag : MTag) : phi v' tag ≤ phi v tag + 3 := by
  cases tag <;> simp only [phi] <;> (repeat' split) <;> omega
theorem phi_retag (v : Nat) {tag tag' : MTag} (e : tag' = tag ∨ (tag = .blk ∧ tag' = .w3)) : phi v tag' = phi v tag := by
  rcases e with rfl | ⟨rfl, rfl⟩ <;> rfl
theorem isW3_retag {tag tag' : MTag} (e : tag' = tag ∨ (tag = .blk ∧ tag' = .w3)) (h : isW3 tag) : isW3 tag' := by
  rcases e with rfl | ⟨rfl, rfl⟩
  · exact h
  · trivial
section
variable {P : Program} {Wg : Nat} {Shun : Loc → Prop} {role : Nat → WRole} {T : Trace} {gs : Array Goroutine} {w : World} {q : Nat → Nat} {A : Goroutine → Prop} {gf : Goroutine} {tag : MTag} {f d : Nat} {a : Goroutine}
theorem mainStep (hSh : ∀ k, Shun (.cell ⟨Wg, k, none⟩)) {M : Nat} (hA : ∀ g, A g → Q0 P Wg (W1 P Wg gf A) M g) {n0 : Nat} {w0 : World} {sl : Option (Nat × Nat)} (hsz : gs.size = n0) (ha : gs[0]? = some a) (hr0 : Rly w0 w) (C : WF P Wg Shun role false T gs w q)
    {st sm : Int} (hwg : WgAt 80 Wg w st sm) (hs : MSit P Wg gf A tag f (Deaf T 0) a) (hm : Mode n0 role tag st sm) (hrun : a.status = .running) :
    WDone P Wg Shun gf n0 w0 (crowd gs w sl) T ∨ ∃ m₁ ops μ', runT P (crowd gs w sl) 0 = (.next m₁, ops) ∧ Lt2 μ' (mu n0 role q tag f) ∧ WInv P Wg Shun A gf n0 w0 μ' m₁ (T ++ ops) := by
  have hl : WgLive 80 Wg w := ⟨st, sm, hwg⟩
  have hcl := cnt_le role n0
  have hfew : cnt role n0 < 2147483647 := by rw [← hsz]; exact C.few
  have ho : ∀ i, n0 ≤ i → role i = .quit := fun i hi => C.out i (by omega)
  have low : ∀ {tag' : MTag} {f' : Nat}, phi (cnt role n0) tag' < phi (cnt role n0) tag → Lt2 (mu n0 role q tag' f') (mu n0 role q tag f) := fun h => Prod.Lex.left _ _ (by omega)
  have idl : ∀ {f' : Nat}, f' < f → Lt2 (mu n0 role q tag f') (mu n0 role q tag f) := fun h => Prod.Lex.right _ (by omega)
  cases tag with
  | kd =>
    obtain ⟨hd, hq⟩ := hs
    rcases qg_cases hq hl with ⟨_, g', hgo, m, hk⟩ | ⟨f', rfl, _, g', hgo, hk⟩
    · cases hm with
      | opn _ h2 _ => exact .inr (mainGo hSh hsz ha hr0 C hwg (hgo w) (Rly.refl _) (evW_mk (Wg := Wg) rfl).1 (evW_mk (Wg := Wg) rfl).2 (tag' := .w1) (f' := m + M) ⟨by rw [hd]; rfl, fun w hw => qg_bind hA (hk w hw)⟩ hwg (.opn trivial h2 (by simp)) (low (by simp [phi])))
      | reg h1 => exact h1.elim
      | last _ _ h1 => exact h1.elim
      | sema h1 => exact h1.elim
      | fin h1 => exact h1.elim
    · exact .inr (mainGo hSh hsz ha hr0 C hwg hgo (Rly.refl _) (evW_nil (Wg := Wg)).1 (evW_nil (Wg := Wg)).2 (tag' := .kd) (f' := f') ⟨by rw [hd]; rfl, hk⟩ hwg hm (idl (by omega)))
  | w1 =>
    obtain ⟨hd, hq⟩ := hs
    rcases qg_cases hq hl with ⟨_, hall⟩ | ⟨f', rfl, _, g', hgo, hk⟩
    · cases hm with
      | opn _ h2 _ =>
        obtain ⟨g', hgo, hz, hnz⟩ := hall w (cnt role n0) (by omega) hwg
        by_cases e : cnt role n0 = 0
        · obtain ⟨m, hk⟩ := hz e
          have hqt := all_quit e h2 ho
          exact .inr (mainGo hSh hsz ha hr0 C hwg hgo (Rly.refl _) (evA_w (evA_rd Wg)).1 (evA_w (evA_rd Wg)).2 (tag' := .ke) (f' := m) ⟨by rw [hd]; rfl, hk⟩ hwg (by rw [e]; simpa using Mode.fin (n := n0) (role := role) (tag := .ke) trivial hqt) (low (by simp [phi])))
        · obtain ⟨m, hk⟩ := hnz e
          exact .inr (mainGo hSh hsz ha hr0 C hwg hgo (Rly.refl _) (evA_w (evA_rd Wg)).1 (evA_w (evA_rd Wg)).2 (tag' := .w2 (cnt role n0)) (f' := m) ⟨by rw [hd]; rfl, hk⟩ hwg (.opn trivial h2 (fun vs e' => by cases e'; omega)) (low (by simp [phi])))
      | reg h1 => exact h1.elim
      | last _ _ h1 => exact h1.elim
      | sema h1 => exact h1.elim
      | fin h1 => exact h1.elim
    · exact .inr (mainGo hSh hsz ha hr0 C hwg hgo (Rly.refl _) (evW_nil (Wg := Wg)).1 (evW_nil (Wg := Wg)).2 (tag' := .w1) (f' := f') ⟨by rw [hd]; rfl, hk⟩ hwg hm (idl (by omega)))
  | w2 vs =>
    obtain ⟨hd, hq⟩ := hs
    rcases qg_cases hq hl with ⟨_, hall⟩ | ⟨f', rfl, _, g', hgo, hk⟩
    · cases hm with
      | opn _ h2 h3 =>
        obtain ⟨hle, h1⟩ := h3 vs rfl
        obtain ⟨hhit, hmiss⟩ := hall w (cnt role n0) (by omega) hwg
        by_cases e : cnt role n0 = vs
        · obtain ⟨g', hgo, m, hk⟩ := hhit e
          exact .inr (mainGo hSh hsz ha hr0 C hwg hgo (rly_wg C.gl hwg 0 _) (evA_w (evA_rw Wg)).1 (evA_w (evA_rw Wg)).2 (tag' := .wr) (f' := m) ⟨by rw [hd]; rfl, hk⟩ (hwg.setSt _) (.reg trivial h2 (by omega)) (low (by simp [phi, e])))
        · obtain ⟨g', hgo, m, hk⟩ := hmiss e
          exact .inr (mainGo hSh hsz ha hr0 C hwg hgo (Rly.refl _) (evA_w (evA_rd Wg)).1 (evA_w (evA_rd Wg)).2 (tag' := .w1) (f' := m + M) ⟨by rw [hd]; rfl, fun w hw => qg_bind hA (hk w hw)⟩ hwg (.opn trivial h2 (by simp)) (low (by simp [phi, Ne.symm e])))
      | reg h1 => exact h1.elim
      | last _ _ h1 => exact h1.elim
      | sema h1 => exact h1.elim
      | fin h1 => exact h1.elim
    · exact .inr (mainGo hSh hsz ha hr0 C hwg hgo (Rly.refl _) (evW_nil (Wg := Wg)).1 (evW_nil (Wg := Wg)).2 (tag' := .w2 vs) (f' := f') ⟨by rw [hd]; rfl, hk⟩ hwg hm (idl (by omega)))
  | wr =>
    obtain ⟨hd, hq⟩ := hs
    rcases qg_cases hq hl with ⟨_, g', hgo, m, hk⟩ | ⟨f', rfl, _, g', hgo, hk⟩
    · have hm' : Mode n0 role .w3 st sm := by
        cases hm with
        | opn h1 => exact h1.elim
        | reg _ h2 h3 => exact .reg trivial h2 h3
        | last L s _ h2 h3 h4 h5 h6 h7 => exact .last L s trivial h2 h3 h4 h5 h6 h7
        | sema _ h2 => exact .sema trivial h2
        | fin h1 => exact h1.elim
      exact .inr (mainGo hSh hsz ha hr0 C hwg (hgo w) (Rly.refl _) (evW_write Wg).1 (evW_write Wg).2 (tag' := .w3) (f' := m + 1) ⟨by rw [hd]; rfl, m, rfl, hk⟩ hwg hm' (low (by simp [phi])))
    · exact .inr (mainGo hSh hsz ha hr0 C hwg hgo (Rly.refl _) (evW_nil (Wg := Wg)).1 (evW_nil (Wg := Wg)).2 (tag' := .wr) (f' := f') ⟨by rw [hd]; rfl, hk⟩ hwg hm (idl (by omega)))
  | w3 =>
    obtain ⟨hd, k, rfl, hq⟩ := hs
    rcases qg_cases hq hl with h3 | ⟨f', rfl, _, g', hgo, hk⟩
    · have blk : sm = 0 → (Mode n0 role .w3 st sm → Mode n0 role .blk st sm) → WDone P Wg Shun gf n0 w0 (crowd gs w sl) T ∨ ∃ m₁ ops μ', runT P (crowd gs w sl) 0 = (.next m₁, ops) ∧ Lt2 μ' (mu n0 role q .w3 (k + 1)) ∧ WInv P Wg Shun A gf n0 w0 μ' m₁ (T ++ ops) := fun e hmm => by
        subst e
        exact .inr (mainGo hSh hsz ha hr0 C hwg (h3.2.2.1 w st hwg) (Rly.refl _) (evW_nil (Wg := Wg)).1 (evW_nil (Wg := Wg)).2 (tag' := .blk) (f' := 0) ⟨by rw [hd]; rfl, a, h3, rfl⟩ hwg (hmm hm) (Prod.Lex.right _ (by omega)))
      cases hm with
      | opn h1 => exact h1.elim
      | reg _ h2 h4 => exact blk rfl fun _ => .reg trivial h2 h4
      | last L s _ h2 h4 h5 h6 h7 h8 => exact blk rfl fun _ => .last L s trivial h2 h4 h5 h6 h7 h8
      | sema _ h2 =>
        obtain ⟨g', hgo, m, hk⟩ := h3.2.2.2 w hwg
        exact .inr (mainGo hSh hsz ha hr0 C hwg hgo (rly_wg C.gl hwg 1 _) (evA_w (evA_sem Wg)).1 (evA_w (evA_sem Wg)).2 (tag' := .w4) (f' := m) ⟨by rw [hd]; rfl, hk⟩ (hwg.setSm _) (.fin trivial h2) (low (by simp [phi])))
      | fin h1 => exact h1.elim
    · exact .inr (mainGo hSh hsz ha hr0 C hwg hgo (Rly.refl _) (evW_nil (Wg := Wg)).1 (evW_nil (Wg := Wg)).2 (tag' := .w3) (f' := f' + 1) ⟨by rw [hd]; rfl, f', rfl, hk⟩ hwg hm (idl (by omega)))
  | blk => obtain ⟨_, g0, _, rfl⟩ := hs; cases hrun
  | w4 =>
    obtain ⟨hd, hq⟩ := hs
    rcases qg_cases hq hl with ⟨_, hall⟩ | ⟨f', rfl, _, g', hgo, hk⟩
    · cases hm with
      | fin _ h2 =>
        obtain ⟨g', hgo, m, hk⟩ := hall w hwg
        exact .inr (mainGo hSh hsz ha hr0 C hwg hgo (Rly.refl _) (evA_w (evA_rd Wg)).1 (evA_w (evA_rd Wg)).2 (tag' := .ke) (f' := m) ⟨by rw [hd]; rfl, hk⟩ hwg (.fin trivial h2) (low (by simp [phi])))
      | opn h1 => exact h1.elim
      | reg h1 => exact h1.elim
      | last _ _ h1 => exact h1.elim
      | sema h1 => exact h1.elim
    · exact .inr (mainGo hSh hsz ha hr0 C hwg hgo (Rly.refl _) (evW_nil (Wg := Wg)).1 (evW_nil (Wg := Wg)).2 (tag' := .w4) (f' := f') ⟨by rw [hd]; rfl, hk⟩ hwg hm (idl (by omega)))
  | ke =>
    obtain ⟨hd, hq⟩ := hs
    rcases qg_cases hq hl with ⟨_, g', hgo, m, hk⟩ | ⟨f', rfl, _, g', hgo, hk⟩
    · cases hm with
      | fin _ h2 => exact .inr (mainGo hSh hsz ha hr0 C hwg (hgo w) (Rly.refl _) (evW_mk (Wg := Wg) rfl).1 (evW_mk (Wg := Wg) rfl).2 (tag' := .acq) (f' := m) ⟨by rw [hd]; rfl, hk⟩ hwg (.fin trivial h2) (low (by simp [phi])))
      | opn h1 => exact h1.elim
      | reg h1 => exact h1.elim
      | last _ _ h1 => exact h1.elim
      | sema h1 => exact h1.elim
    · exact .inr (mainGo hSh hsz ha hr0 C hwg hgo (Rly.refl _) (evW_nil (Wg := Wg)).1 (evW_nil (Wg := Wg)).2 (tag' := .ke) (f' := f') ⟨by rw [hd]; rfl, hk⟩ hwg hm (idl (by omega)))
  | acq =>
    obtain ⟨hd, hq⟩ := hs
    rcases qg_cases hq hl with ⟨_, g', hgo, m, hk⟩ | ⟨f', rfl, _, g', hgo, hk⟩
    · cases hm with
      | fin _ h2 => exact .inr (mainGo hSh hsz ha hr0 C hwg (hgo w) (Rly.refl _) (evW_mk (Wg := Wg) rfl).1 (evW_mk (Wg := Wg) rfl).2 (tag' := .ret) (f' := m) ⟨by rw [hd]; rfl, hk⟩ hwg (.fin trivial h2) (low (by simp [phi])))
      | opn h1 => exact h1.elim
      | reg h1 => exact h1.elim
      | last _ _ h1 => exact h1.elim
      | sema h1 => exact h1.elim
    · exact .inr (mainGo hSh hsz ha hr0 C hwg hgo (Rly.refl _) (evW_nil (Wg := Wg)).1 (evW_nil (Wg := Wg)).2 (tag' := .acq) (f' := f') ⟨by rw [hd]; rfl, hk⟩ hwg hm (idl (by omega)))
  | ret =>
    obtain ⟨hd, hq⟩ := hs
    rcases qg_cases hq hl with rfl | ⟨f', rfl, _, g', hgo, hk⟩
    · cases hm with
      | fin _ h2 => exact .inl ⟨gs, w, sl, role, q, rfl, hsz, ha, hr0, C.hearken hd, h2, hwg⟩
      | opn h1 => exact h1.elim
      | reg h1 => exact h1.elim
      | last _ _ h1 => exact h1.elim
      | sema h1 => exact h1.elim
    · exact .inr (mainGo hSh hsz ha hr0 C hwg hgo (Rly.refl _) (evW_nil (Wg := Wg)).1 (evW_nil (Wg := Wg)).2 (tag' := .ret) (f' := f') ⟨by rw [hd]; rfl, hk⟩ hwg hm (idl (by omega)))
end
end Go.Bt
end
section
namespace Go.Bt
variable [Gnd]
open Go.Conc Go.ConcN Go.RowKit Go.Conc.Lib Go.ConcR.Gen
open Go.Sx (Rly spec isWg Gud)
open Go.ConcR (wgBlock WgAt mk DC0)
open Go.ConcN (sumTo upd sumTo_upd upd_ne upd_same sumTo_congr)
section
variable {P : Program} {Wg : Nat} {Shun : Loc → Prop} {role : Nat → WRole} {T : Trace} {gs : Array Goroutine} {w : World} {q : Nat → Nat} {A : Goroutine → Prop} {gf : Goroutine} {tag : MTag} {f d : Nat} {a : Goroutine}
theorem otherGo (hSh : ∀ k, Shun (.cell ⟨Wg, k, none⟩)) (hAr : ∀ g, A g → g.status = .running) (hgf : gf.status = .running) {n0 : Nat} {w0 : World} {sl : Option (Nat × Nat)} (hsz : gs.size = n0) (ha : gs[0]? = some a) (hr0 : Rly w0 w) (C : WF P Wg Shun role false T gs w q)
    {st sm st' sm' : Int} (hwg : WgAt 80 Wg w st sm) (hs : MSit P Wg gf A tag f (Deaf T 0) a) {i : Nat} {g g' : Goroutine} {w' : World} {es : Array Event} {r' : WRole} {n' : Nat} (hi : 0 < i) (hg : gs[i]? = some g) (hgo : stepG P false g w = .go g' w' es) (hrl : Rly w w')
    (hes : ∀ ev ∈ es, ∀ b, (MemAct.ofEvent ev).touch? = some b → (∃ k, b.loc = .cell ⟨Wg, k, none⟩) ∧ b.kind = .atomic) (hd : ∀ (j : Nat) (e : Event), es[j]? = some e → (MemAct.ofEvent e).touch? = none ∨ 0 < deafBehind (Deaf T i) (es.extract 0 j))
    (hid : ∀ T', Deaf T' i = deafBehind (Deaf T i) es → WIdle P Wg T' i n' g' r') (hwg' : WgAt 80 Wg w' st' sm')
    (hm' : ∀ tag', (tag' = tag ∨ (tag = .blk ∧ tag' = .w3)) → (mayWake P g = true → g'.status = .running → tag' ≠ .blk) → Mode n0 (upd role i r') tag' st' sm')
    (hlt : (r' = role i ∧ n' < q i) ∨ (r'.wt + 3 < (role i).wt ) ∨ (r'.wt < (role i).wt ∧ r'.cn = (role i).cn)) (hcn : r'.cn ≤ (role i).cn := by (rw [er]; simp [WRole.cn])) :
    ∃ m₁ ops μ', runT P (crowd gs w sl) i = (.next m₁, ops) ∧ Lt2 μ' (mu n0 role q tag f) ∧ WInv P Wg Shun A gf n0 w0 μ' m₁ (T ++ ops) := by
  have hlt' : i < gs.size := (Array.getElem?_eq_some_iff.1 hg).1
  obtain ⟨C', hd0, ha'⟩ := C.other hSh hi hg (wgAt_lt hwg) hrl hes hd hid hcn
  obtain ⟨tag', f', hs', hf', htag, hwk⟩ := hs.woken (hs.status hAr hgf ⟨st, sm, hwg⟩) g g' w'
  have hrt := runT_crowd_go (P := P) (sl := sl) (i := i) hg (show stepG P (i == 0) g w = _ by rw [show (i == 0) = false by simp; omega]; exact hgo)
  have e1 := cnt_upd role r' (show i < n0 by omega)
  have e2 := wts_upd role r' (show i < n0 by omega)
  have e3 : sumTo n0 (upd q i n') + q i = sumTo n0 q + n' := sumTo_upd q n' id (show i < n0 by omega)
  refine ⟨_, _, mu n0 (upd role i r') (upd q i n') tag' f', hrt, ?_, _, w', sl, upd role i r', upd q i n', tag', f', _, st', sm', rfl, by simpa using hsz, ha' a ha, hr0.trans hrl, C', by rw [hd0]; exact hs', hwg', hm' tag' htag hwk, rfl⟩
  simp only [mu]
  rw [phi_retag _ htag]
  rcases hlt with ⟨h1, h2⟩ | h1 | ⟨h1, h2⟩
  · subst h1
    have ec : cnt (upd role i (role i)) n0 = cnt role n0 := by omega
    have ew : wts (upd role i (role i)) n0 = wts role n0 := by omega
    rw [ec, ew]
    exact Prod.Lex.right _ (by omega)
  · have := phi_near (cnt role n0) (cnt (upd role i r') n0) tag
    exact Prod.Lex.left _ _ (by omega)
  · have ec : cnt (upd role i r') n0 = cnt role n0 := by omega
    rw [ec]
    exact Prod.Lex.left _ _ (by omega)
theorem Mode.retag {n : Nat} {tag tag' : MTag} {st sm : Int} (h : Mode n role tag st sm) (e : tag' = tag ∨ (tag = .blk ∧ tag' = .w3)) : Mode n role tag' st sm := by
  rcases e with rfl | ⟨rfl, rfl⟩
  · exact h
  · cases h with
    | opn h1 => exact h1.elim
    | reg _ h2 h3 => exact .reg trivial h2 h3
    | last L s _ h2 h3 h4 h5 h6 h7 => exact .last L s trivial h2 h3 h4 h5 h6 h7
    | sema h1 => exact h1.elim
    | fin h1 => exact h1.elim
theorem otherStep (hSh : ∀ k, Shun (.cell ⟨Wg, k, none⟩)) (hAr : ∀ g, A g → g.status = .running) (hgf : gf.status = .running) {n0 : Nat} {w0 : World} {sl : Option (Nat × Nat)} (hsz : gs.size = n0) (ha : gs[0]? = some a) (hr0 : Rly w0 w) (C : WF P Wg Shun role false T gs w q)
    {st sm : Int} (hwg : WgAt 80 Wg w st sm) (hs : MSit P Wg gf A tag f (Deaf T 0) a) (hm : Mode n0 role tag st sm) {i : Nat} {g : Goroutine} (hi : 0 < i) (hg : gs[i]? = some g) (hrun : g.status = .running) :
    ∃ m₁ ops μ', runT P (crowd gs w sl) i = (.next m₁, ops) ∧ Lt2 μ' (mu n0 role q tag f) ∧ WInv P Wg Shun A gf n0 w0 μ' m₁ (T ++ ops) := by
  have hlt' : i < n0 := by have := (Array.getElem?_eq_some_iff.1 hg).1; omega
  have hself : upd role i (role i) = role := upd_self role i
  have hid := C.idle i g hi hg
  have nol : ∀ {r' : WRole}, (∀ s, r' ≠ .lst s) → (∀ x s, role x ≠ .lst s) → ∀ x s, upd role i r' x ≠ .lst s := fun h h' x s => by
    by_cases ex : x = i
    · subst ex; rw [upd_same]; exact h s
    · rw [upd_ne role _ ex]; exact h' x s
  cases er : role i with
  | quit =>
    rw [er] at hid
    cases hqi : q i with
    | zero => rw [hqi] at hid; rw [hid.1] at hrun; cases hrun
    | succ k =>
      rw [hqi] at hid
      rcases hid with ⟨hf, _⟩ | ⟨_, g', es, hmu, hstp, hq'⟩
      · rw [hf] at hrun; cases hrun
      · have hnt : ∀ e ∈ es, (MemAct.ofEvent e).touch? = none := fun e he => touch_mute (hmu e he)
        exact otherGo hSh hAr hgf hsz ha hr0 C hwg hs hi hg (hstp w) (Rly.refl _) (fun ev he b hb => (by rw [hnt ev he] at hb; cases hb)) (fun j e he => .inl (hnt e (Array.mem_of_getElem? he))) (r' := .quit) (n' := k) (fun T' hT => by simp only [WIdle]; rw [hT]; exact hq') hwg
          (fun tag' ht _ => by rw [← er, hself]; exact hm.retag ht) (.inl ⟨er.symm, by omega⟩)
  | don =>
    rw [er] at hid
    cases hqi : q i with
    | zero => rw [hqi] at hid; exact hid.elim
    | succ k =>
      rw [hqi] at hid
      have hsm : sm = 0 ∧ (∀ x s, role x ≠ .lst s) ∧ ((isOpen tag ∧ st = ((cnt role n0 : Nat) : Int) * KK ∧ ∀ vs, tag = .w2 vs → cnt role n0 ≤ vs ∧ 1 ≤ vs) ∨ (isW3 tag ∧ st = ((cnt role n0 : Nat) : Int) * KK + 1)) := by
        cases hm with
        | opn h1 h2 h3 => exact ⟨rfl, h2, .inl ⟨h1, rfl, h3⟩⟩
        | reg h1 h2 _ => exact ⟨rfl, h2, .inr ⟨h1, rfl⟩⟩
        | last L s _ _ h2 h3 _ _ h4 =>
          by_cases e : i = L
          · subst e; rw [er] at h3; cases h3
          · rw [h4 i e] at er; cases er
        | sema _ h2 => rw [h2 i] at er; cases er
        | fin _ h2 => rw [h2 i] at er; cases er
      obtain ⟨rfl, hnl, hmode⟩ := hsm
      rcases hid.2 with hx | ⟨hdf, hadd⟩
      · obtain ⟨g', es, hmu, hstp, hq'⟩ := hx w _ hwg
        exact otherGo hSh hAr hgf hsz ha hr0 C hwg hs hi hg hstp (Rly.refl _) (fun ev he b hb => (by rw [hmu ev he] at hb; cases hb)) (fun j e he => .inl (hmu e (Array.mem_of_getElem? he))) (r' := .don) (n' := k) (fun T' hT => by simp only [WIdle]; rw [hT]; exact hq') hwg
          (fun tag' ht _ => by rw [← er, hself]; exact hm.retag ht) (.inl ⟨er.symm, by omega⟩)
      · -- the atomic Add
        have hcl := cnt_le role n0
        have hfew : cnt role n0 < 2147483647 := by rw [← hsz]; exact C.few
        have hc1 : 1 ≤ cnt role n0 := by
          have e1 := cnt_upd role .quit hlt'
          rw [er] at e1
          have : WRole.don.cn = 1 := rfl
          have : WRole.quit.cn = 0 := rfl
          omega
        obtain ⟨v, hv⟩ : ∃ v, cnt role n0 = v + 1 := ⟨cnt role n0 - 1, by omega⟩
        have hcq : cnt (upd role i .quit) n0 = v := by
          have e1 := cnt_upd role .quit hlt'
          rw [er] at e1
          have : WRole.don.cn = 1 := rfl
          have : WRole.quit.cn = 0 := rfl
          omega
        have hev : ∀ (j : Nat) (e : Event), (#[rdA (stA Wg), wrA (stA Wg)] : Array Event)[j]? = some e → (MemAct.ofEvent e).touch? = none ∨ 0 < deafBehind (Deaf T i) ((#[rdA (stA Wg), wrA (stA Wg)] : Array Event).extract 0 j) := fun j e _ => by
          refine .inr ?_
          rw [deafBehind_still (fun x hx => ?_)]
          · exact hdf
          · have hx' : x ∈ (#[rdA (stA Wg), wrA (stA Wg)] : Array Event) := by
              obtain ⟨k, hk, rfl⟩ := Array.mem_iff_getElem.1 hx
              simp only [Array.getElem_extract]
              exact Array.getElem_mem _
            simp only [List.mem_toArray, List.mem_cons, List.not_mem_nil, or_false] at hx'
            rcases hx' with rfl | rfl <;> simp [rdA, wrA]
        have hdb : deafBehind (Deaf T i) #[rdA (stA Wg), wrA (stA Wg)] = Deaf T i := deafBehind_still (fun e he => by simp only [List.mem_toArray, List.mem_cons, List.not_mem_nil, or_false] at he; rcases he with rfl | rfl <;> simp [rdA, wrA]) _
        rcases hmode with ⟨ho, rfl, hw2⟩ | ⟨h3, rfl⟩
        · obtain ⟨g', hstp, hq', _⟩ := hadd w v 0 (by omega) (by omega) (by rw [hv] at hwg; show WgAt 80 Wg w _ 0; simpa using hwg)
          have hq' := hq' (by omega)
          refine otherGo hSh hAr hgf hsz ha hr0 C hwg hs hi hg hstp (rly_wg C.gl hwg 0 _) (evA_rw Wg) hev (r' := .quit) (n' := k) (fun T' hT => by simp only [WIdle]; rw [hT, hdb]; exact hq') (hwg.setSt _) (fun tag' ht _ => ?_) (.inr (.inl (by rw [er]; simp [WRole.wt])))
          have e0 : ((v : Int) * KK + ((0 : Nat) : Int)) = ((cnt (upd role i .quit) n0 : Nat) : Int) * KK := by rw [hcq]; simp
          rw [e0]
          have ht' : tag' = tag := by
            rcases ht with h | ⟨h, _⟩
            · exact h
            · subst h; exact ho.elim
          subst ht'
          exact .opn ho (nol (by simp) hnl) fun vs e => by have := hw2 vs e; omega
        · obtain ⟨g', hstp, hq', hwk⟩ := hadd w v 1 (by omega) (by omega) (by rw [hv] at hwg; show WgAt 80 Wg w _ 0; simpa using hwg)
          rcases Nat.eq_zero_or_pos v with rfl | hvp
          · have hwk := hwk ⟨rfl, rfl⟩
            refine otherGo hSh hAr hgf hsz ha hr0 C hwg hs hi hg hstp (rly_wg C.gl hwg 0 _) (evA_rw Wg) hev (r' := .lst 3) (n' := k) (fun T' hT => by simp only [WIdle]; rw [hT, hdb]; exact hwk) (hwg.setSt _) (fun tag' ht _ => ?_) (.inr (.inl (by rw [er]; simp [WRole.wt])))
            have e0 : (((0 : Nat) : Int) * KK + ((1 : Nat) : Int)) = if (3 : Nat) = 1 then 0 else 1 := by simp
            rw [e0]
            refine .last i 3 (isW3_retag ht h3) hi hlt' (upd_same _ _ _) (by omega) (by omega) fun x hx => ?_
            rw [upd_ne role _ hx]
            have hq0 := all_quit hcq (nol (r' := .quit) (by simp) hnl) (fun y hy => by
              rw [upd_ne role _ (by omega)]
              exact C.out y (by omega)) x
            rwa [upd_ne role _ hx] at hq0
          · have hq' := hq' (by omega)
            refine otherGo hSh hAr hgf hsz ha hr0 C hwg hs hi hg hstp (rly_wg C.gl hwg 0 _) (evA_rw Wg) hev (r' := .quit) (n' := k) (fun T' hT => by simp only [WIdle]; rw [hT, hdb]; exact hq') (hwg.setSt _) (fun tag' ht _ => ?_) (.inr (.inl (by rw [er]; simp [WRole.wt])))
            have e0 : ((v : Int) * KK + ((1 : Nat) : Int)) = ((cnt (upd role i .quit) n0 : Nat) : Int) * KK + 1 := by rw [hcq]; simp
            rw [e0]
            exact .reg (isW3_retag ht h3) (nol (by simp) hnl) (by omega)
  | lst s =>
    rw [er] at hid
    have hinv : isW3 tag ∧ 1 ≤ s ∧ s ≤ 3 ∧ (∀ x, x ≠ i → role x = .quit) ∧ st = (if s = 1 then 0 else 1) ∧ sm = 0 := by
      cases hm with
      | opn _ h2 => exact absurd er (h2 i s)
      | reg _ h2 => exact absurd er (h2 i s)
      | last L s' h1 _ h2 h3 h4 h5 h6 =>
        by_cases e : i = L
        · subst e; rw [er] at h3; cases h3; exact ⟨h1, h4, h5, h6, rfl, rfl⟩
        · rw [h6 i e] at er; cases er
      | sema _ h2 => rw [h2 i] at er; cases er
      | fin _ h2 => rw [h2 i] at er; cases er
    obtain ⟨h3, hs1, hs3, hoth, rfl, rfl⟩ := hinv
    have hoth' : ∀ r' x, x ≠ i → upd role i r' x = .quit := fun r' x hx => by rw [upd_ne role r' hx]; exact hoth x hx
    cases hqi : q i with
    | zero => rw [hqi] at hid; exact hid.elim
    | succ k =>
      rw [hqi] at hid
      obtain ⟨_, hdf, hid⟩ := hid
      rcases hid with hx | hfire
      · obtain ⟨g', hstp, hq'⟩ := hx w _ hwg
        exact otherGo hSh hAr hgf hsz ha hr0 C hwg hs hi hg hstp (Rly.refl _) (fun ev he => by simp at he) (fun j e he => by simp at he) (r' := .lst s) (n' := k) (fun T' hT => by simp only [WIdle]; rw [hT]; exact hq') hwg
          (fun tag' ht _ => by rw [← er, hself]; exact hm.retag ht) (.inl ⟨er.symm, by omega⟩)
      · obtain rfl | rfl | rfl : s = 3 ∨ s = 2 ∨ s = 1 := by omega
        · obtain ⟨g', hstp, hq'⟩ := hfire w hwg
          exact otherGo hSh hAr hgf hsz ha hr0 C hwg hs hi hg hstp (Rly.refl _) (evA_rd Wg) (fun j e he => by
            cases j with
            | zero => exact .inr hdf
            | succ j => simp at he) (r' := .lst 2) (n' := k) (fun T' hT => by simp only [WIdle]; rw [hT]; exact hq') hwg (fun tag' ht _ => .last i 2 (isW3_retag ht h3) hi hlt' (upd_same _ _ _) (by omega) (by omega) (hoth' _)) (.inr (.inr (by rw [er]; exact ⟨by simp [WRole.wt], rfl⟩)))
        · obtain ⟨g', hstp, hq'⟩ := hfire w hwg
          exact otherGo hSh hAr hgf hsz ha hr0 C hwg hs hi hg hstp (rly_wg C.gl hwg 0 _) (evA_wr Wg) (fun j e he => by
            cases j with
            | zero => exact .inr hdf
            | succ j => simp at he) (r' := .lst 1) (n' := k) (fun T' hT => by simp only [WIdle]; rw [hT]; exact hq') (hwg.setSt _) (fun tag' ht _ => .last i 1 (isW3_retag ht h3) hi hlt' (upd_same _ _ _) (by omega) (by omega) (hoth' _)) (.inr (.inr (by rw [er]; exact ⟨by simp [WRole.wt], rfl⟩)))
        · obtain ⟨hmw, hfire⟩ := hfire
          obtain ⟨g', hstp, hr', hq'⟩ := hfire w hwg
          have hdb : deafBehind (Deaf T i) (semEvents (smB Wg)) = Deaf T i := by
            simp only [semEvents, deafBehind]
            obtain ⟨d, hd⟩ : ∃ d, Deaf T i = d + 1 := ⟨Deaf T i - 1, by omega⟩
            rw [hd]; rfl
          refine otherGo hSh hAr hgf hsz ha hr0 C hwg hs hi hg hstp (rly_wg C.gl hwg 1 _) (evA_sem Wg) (fun j e he => ?_) (r' := .quit) (n' := k) (fun T' hT => by simp only [WIdle]; rw [hT, hdb]; exact hq') (hwg.setSm _) (fun tag' ht hwk => ?_) (.inr (.inr (by rw [er]; exact ⟨by simp [WRole.wt], rfl⟩)))
          · match j with
            | 0 => simp only [semEvents, List.getElem?_toArray, List.getElem?_cons_zero, Option.some.injEq] at he; subst he; exact .inl rfl
            | 1 => refine .inr ?_; show 0 < deafBehind (Deaf T i) #[⟨.mark .disable, false, true⟩]; simp only [deafBehind]; exact Nat.succ_pos _
            | 2 => refine .inr ?_; show 0 < deafBehind (Deaf T i) #[⟨.mark .disable, false, true⟩, ⟨.cell (smB Wg), false, true⟩]; simp only [deafBehind]; exact Nat.succ_pos _
            | 3 => simp only [semEvents, List.getElem?_toArray, List.getElem?_cons_succ, List.getElem?_cons_zero, Option.some.injEq] at he; subst he; exact .inl rfl
            | j + 4 => simp [semEvents] at he
          · have hnb := hwk hmw hr'
            refine .sema ?_ fun x => ?_
            · have := isW3_retag ht h3
              cases tag' <;> first | trivial | exact this.elim | exact absurd rfl hnb
            · by_cases ex : x = i
              · subst ex; exact upd_same _ _ _
              · exact hoth' _ x ex
/-- ████ GOROUTINE 0 WAITS: ON WHATEVER TAPE IT COMES TO ITS END, AND ALL OTHERS ARE THROUGH. ████ -/
theorem waits_end (hSh : ∀ k, Shun (.cell ⟨Wg, k, none⟩)) {M : Nat} (hA : ∀ g, A g → Q0 P Wg (W1 P Wg gf A) M g) (hAr : ∀ g, A g → g.status = .running) (hgf : gf.status = .running) {n0 : Nat} {w0 : World} :
    ∀ μ m t, WInv P Wg Shun A gf n0 w0 μ m t → ∃ N m' t', runNT P N m t = (.next m', t') ∧ WDone P Wg Shun gf n0 w0 m' t' := by
  intro μ
  induction μ using lt2_wf.induction with
  | _ μ ih =>
    intro m t h
    obtain ⟨gs, w, sl, role, q, tag, f, a, st, sm, rfl, hsz, ha, hr0, C, hs, hwg, hm, rfl⟩ := h
    have hst := hs.status hAr hgf ⟨st, sm, hwg⟩
    have some1 : ∃ (i : Nat) (g : Goroutine), gs[i]? = some g ∧ g.status = .running := by
      rcases hst with ⟨h1, _⟩ | ⟨_, rfl⟩
      · exact ⟨0, a, ha, h1⟩
      · have get : ∀ i, i < n0 → 0 < i → role i ≠ .quit → ∃ (i : Nat) (g : Goroutine), gs[i]? = some g ∧ g.status = .running := fun i hi hp hr => by
          have hg : gs[i]? = some gs[i] := Array.getElem?_eq_getElem (by omega)
          refine ⟨i, _, hg, ?_⟩
          have hid := C.idle i _ hp hg
          cases er : role i with
          | quit => exact absurd er hr
          | don => rw [er] at hid; exact Don.running hid
          | lst s => rw [er] at hid; exact Lst.running hid
        cases hm with
        | opn h1 => exact h1.elim
        | reg _ _ h3 =>
          obtain ⟨i, hi, hd⟩ := cnt_pos h3
          have : 0 < i := by
            rcases Nat.eq_zero_or_pos i with rfl | h
            · rw [C.r0] at hd; cases hd
            · exact h
          exact get i hi this (by rw [hd]; simp)
        | last L s _ hp h2 h3 => exact get L h2 hp (by rw [h3]; simp)
        | sema h1 => exact h1.elim
        | fin h1 => exact h1.elim
    obtain ⟨i, g, dd, sl', hi, hg, hstp⟩ := crowd_pick (P := P) (w := w) (sl := sl) (C.awake ha (hst.elim (fun x => .inl x.1) fun x => .inr x.1)) some1
    have Cd := C.at dd
    have hwgd : WgAt 80 Wg (w.at dd) st sm := hwg
    have fin : ∀ {m₁ : Machine} {ops : Array MemOp} {μ' : Nat × Nat}, runT P (crowd gs (w.at dd) sl') i = (.next m₁, ops) → Lt2 μ' (mu n0 role q tag f) → WInv P Wg Shun A gf n0 w0 μ' m₁ (t ++ ops) → ∃ N m' t', runNT P N (crowd gs w sl) t = (.next m', t') ∧ WDone P Wg Shun gf n0 w0 m' t' := fun hr hlt hI => by
      obtain ⟨N, m', t', hrun, hd⟩ := ih _ hlt _ _ hI
      exact ⟨N + 1, m', t', by simp only [runNT, hstp, hr]; exact hrun, hd⟩
    rcases Nat.eq_zero_or_pos i with rfl | hpos
    · rw [ha] at hi; obtain rfl := Option.some.inj hi
      rcases mainStep (sl := sl') hSh hA hsz ha (hr0.trans (Rly.at w dd)) Cd hwgd hs hm hg with ⟨gs', w', sl'', role', q', e, hd⟩ | ⟨m₁, ops, μ', hr, hlt, hI⟩
      · -- at its end: the state ahead of the draw
        exact ⟨0, _, _, rfl, by
          have e1 : gs' = gs := by have := congrArg Machine.gs e; exact this.symm
          have e2 : w' = w.at dd := by have := congrArg Machine.world e; exact this.symm
          subst e1; subst e2
          obtain ⟨hz, ha2, _, hC, hq, hw⟩ := hd
          exact ⟨gs', w, sl, role', q', rfl, hz, ha2, hr0, ⟨hC.idle, hC.r0, hC.out, hC.above, hC.past, hC.few, hC.low, hC.shw, hC.shc, hC.gl⟩, hq, hw⟩⟩
      · exact fin hr hlt hI
    · obtain ⟨m₁, ops, μ', hr, hlt, hI⟩ := otherStep (sl := sl') hSh hAr hgf hsz ha (hr0.trans (Rly.at w dd)) Cd hwgd hs hm hpos hi hg
      exact fin hr hlt hI
end
end Go.Bt
end
section
namespace Go.Bt
variable [Gnd]
open Go.Conc Go.ConcN
open Go.Sx (Rly spec isWg Gud)
open Go.ConcR (wgBlock WgAt mk DC0)
open Go.ConcN (sumTo upd sumTo_upd upd_ne upd_same sumTo_congr)
/-- Between two plays. -/
abbrev LF (P : Program) (Shun : Loc → Prop) (T : Trace) (gs : Array Goroutine) (w : World) (q : Nat → Nat) : Prop := WF P Go.Sx.n0 Shun (fun _ => .quit) true T gs w q
section
variable {P : Program} {Shun : Loc → Prop} {T : Trace} {gs : Array Goroutine} {w : World} {q : Nat → Nat}
/-- Whoever has come to its end. -/
theorem lf_of_wf {Wg : Nat} {role : Nat → WRole} (C : WF P Wg Shun role true T gs w q) (hq : ∀ i, role i = .quit) : LF P Shun T gs w q := by
  obtain rfl : role = fun _ => .quit := funext hq
  exact ⟨C.idle, rfl, fun _ _ => rfl, C.above, C.past, C.few, C.low, C.shw, C.shc, Nat.le_refl _⟩
theorem gud_touch {w' : World} {es : Array Event} (hd : Gud w w' es) {e : Event} (he : e ∈ es) {b : Touch} (hb : (MemAct.ofEvent e).touch? = some b) {a : Addr} (ha : b.loc = .cell a) : e.loc = .cell a := by
  obtain ⟨l, wr, sy⟩ := e
  obtain ⟨_, hmk⟩ := hd.evs _ he
  unfold MemAct.ofEvent at hb
  split at hb
  · simp [MemAct.touch?] at hb
  · rename_i e₀ m b₀ s₀ heq
    have hl : l = .mark m := by cases heq; rfl
    have hm := hmk m hl
    cases m <;> first
      | (simp [MemAct.touch?] at hb; done)
      | (simp [Go.Sx.okMark] at hm; done)
  · simp only [MemAct.touch?, Option.some.injEq] at hb
    subst hb
    exact ha
theorem lf_past_app {w' : World} {es : Array Event} {fn : FuncId} {pos : String} (C : LF P Shun T gs w q) (hd : Gud w w' es) :
    PastB (fun _ _ => False) Shun (fun i => i = 0 ∧ true = true) (fun _ => False) 0 (T ++ MemOp.ofEvents 0 fn pos es) ∧ (∀ i a ad, touchAt (T ++ MemOp.ofEvents 0 fn pos es) i = some a → a.loc = .cell ad → ad.block < w'.heap.size) := by
  have hops : ∀ op ∈ MemOp.ofEvents 0 fn pos es, op.g = 0 := fun op hop => by obtain ⟨e, _, rfl⟩ := Conc.mem_ofEvents hop; rfl
  have hdf : Deaf (T ++ MemOp.ofEvents 0 fn pos es) 0 = Deaf T 0 := by
    rw [Deaf_own]; exact deafBehind_still (fun e he => ⟨fun h => absurd ((hd.evs e he).2 _ h) (by simp [Go.Sx.okMark]), fun h => absurd ((hd.evs e he).2 _ h) (by simp [Go.Sx.okMark])⟩) _
  refine ⟨C.past.appH (fun g hg => hg.elim) hops (fun op hop b hb hw g hg hs => hs) (fun op hop b hb hs => ?_) (fun _ => hdf), low_app C.low hd.size ?_⟩
  · obtain ⟨ev, he, rfl⟩ := Conc.mem_ofEvents hop
    cases hl : b.loc with
    | cell ad =>
      rw [hl] at hs
      obtain ⟨o, h1, h2⟩ := C.shw ad hs
      have := (((hd.evs ev he).1 _ (gud_touch hd he hb hl)).2 o h1).1
      rw [h2] at this; cases this
    | _ => rw [hl] at hs; exact absurd hs (C.shc _ (by intro ad; simp))
  · intro op hop b hb ad hl
    obtain ⟨ev, he, rfl⟩ := Conc.mem_ofEvents hop
    exact ((hd.evs ev he).1 _ (gud_touch hd he hb hl)).1
/-- A step of goroutine 0's. -/
theorem LF.own (C : LF P Shun T gs w q) {a a' : Goroutine} {w' : World} {es : Array Event} (ha : gs[0]? = some a) (hd : Gud w w' es) :
    LF P Shun (T ++ MemOp.ofEvents 0 a.frame.fn a.frame.place es) ((gs.map (woken P a a' w')).setIfInBounds 0 a') w' q ∧ ((gs.map (woken P a a' w')).setIfInBounds 0 a')[0]? = some a' := by
  have hlt : 0 < gs.size := (Array.getElem?_eq_some_iff.1 ha).1
  have hops : ∀ op ∈ MemOp.ofEvents 0 a.frame.fn a.frame.place es, op.g = 0 := fun op hop => by obtain ⟨e, _, rfl⟩ := Conc.mem_ofEvents hop; rfl
  obtain ⟨h1, h2⟩ := lf_past_app (fn := a.frame.fn) (pos := a.frame.place) C hd
  refine ⟨⟨fun x y hx hy => ?_, rfl, fun _ _ => rfl, fun j hj => ?_, h1, by simpa using C.few, h2, fun ad hs => ?_, C.shc, C.gl⟩, Array.getElem?_setIfInBounds_self_of_lt (by simpa using hlt)⟩
  · rw [Array.getElem?_setIfInBounds_ne (by omega), Array.getElem?_map] at hy
    obtain ⟨y₀, hy₀, rfl⟩ := Option.map_eq_some_iff.1 hy
    have hi := C.idle x y₀ hx hy₀
    rw [woken_of_again (again_running _ hi.status)]
    exact hi.other (by omega) hops
  · simp only [Array.size_setIfInBounds, Array.size_map] at hj
    rw [Deaf_other T (g' := 0) (by omega) _ hops]
    exact C.above j hj
  · obtain ⟨o, h1, h2⟩ := C.shw ad hs
    exact ⟨o, hd.keep _ o h1 (.inl (Go.Sx.spec_of_wg h2)), h2⟩
/-- A step of one who leaves. -/
theorem LF.slip (C : LF P Shun T gs w q) {sl : Option (Nat × Nat)} {i : Nat} {g : Goroutine} (hi : 0 < i) (hg : gs[i]? = some g) (hrun : g.status = .running) {a : Goroutine} (ha : gs[0]? = some a) (har : a.status = .running) :
    ∃ gs' ops q', runT P (crowd gs w sl) i = (.next (crowd gs' w sl), ops) ∧ gs'.size = gs.size ∧ gs'[0]? = some a ∧ LF P Shun (T ++ ops) gs' w q' ∧ sumTo gs'.size q' < sumTo gs.size q := by
  have hlt : i < gs.size := (Array.getElem?_eq_some_iff.1 hg).1
  have hid : QuitsD P (q i) (Deaf T i) g := C.idle i g hi hg
  cases hqi : q i with
  | zero => rw [hqi] at hid; rw [hid.1] at hrun; cases hrun
  | succ k =>
    rw [hqi] at hid
    rcases hid with ⟨hf, _⟩ | ⟨_, g', es, hmu, hstp, hq'⟩
    · rw [hf] at hrun; cases hrun
    · have hnt : ∀ e ∈ es, (MemAct.ofEvent e).touch? = none := fun e he => touch_mute (hmu e he)
      have hops : ∀ op ∈ MemOp.ofEvents i g.frame.fn g.frame.place es, op.g = i := fun op hop => by obtain ⟨e, _, rfl⟩ := Conc.mem_ofEvents hop; rfl
      have hno : ∀ op ∈ MemOp.ofEvents i g.frame.fn g.frame.place es, op.act.touch? = none := fun op hop => by obtain ⟨e, he, rfl⟩ := Conc.mem_ofEvents hop; exact hnt e he
      have e3 : sumTo gs.size (upd q i k) + q i = sumTo gs.size q + k := sumTo_upd q k id hlt
      refine ⟨_, _, upd q i k, runT_crowd_go (sl := sl) hg (by rw [show (i == 0) = false by simp; omega]; exact hstp w), by simp, ?_, ⟨fun x y hx hy => ?_, rfl, fun _ _ => rfl, fun j hj => ?_, ?_, by simpa using C.few, ?_, C.shw, C.shc, C.gl⟩, by simp; omega⟩
      · rw [Array.getElem?_setIfInBounds_ne (by omega), Array.getElem?_map, ha]
        simp [woken_of_again (again_running w (.inl har))]
      · by_cases ex : x = i
        · subst ex
          rw [Array.getElem?_setIfInBounds_self_of_lt (by simpa using hlt)] at hy
          obtain rfl := Option.some.inj hy
          rw [upd_same]
          show QuitsD P k _ _
          rw [Deaf_own]; exact hq'
        · rw [Array.getElem?_setIfInBounds_ne (fun z => ex z.symm), Array.getElem?_map] at hy
          obtain ⟨y₀, hy₀, rfl⟩ := Option.map_eq_some_iff.1 hy
          have hi' := C.idle x y₀ hx hy₀
          rw [woken_of_again (again_running _ hi'.status), upd_ne q k ex]
          exact hi'.other (fun z => ex z.symm) hops
      · simp only [Array.size_setIfInBounds, Array.size_map] at hj
        rw [Deaf_other T (g' := i) (by omega) _ hops]
        exact C.above j hj
      · exact C.past.appMute hops hno (fun hM => by omega)
      · exact low_app C.low (Nat.le_refl _) fun op hop b hb => by rw [hno op hop] at hb; cases hb
/-- GOROUTINE 0 IS PICKED IN THE END. -/
theorem LF.picked {a : Goroutine} {sl : Option (Nat × Nat)} (ha : gs[0]? = some a) (hrun : a.status = .running) (C : LF P Shun T gs w q) :
    ∃ (N : Nat) (gs' : Array Goroutine) (w₁ w₂ : World) (sl' sl'' : Option (Nat × Nat)) (T' : Trace) (q' : Nat → Nat), runNT P N (crowd gs w sl) T = (.next (crowd gs' w₁ sl'), T') ∧
      stepT P (crowd gs' w₁ sl') = runT P (crowd gs' w₂ sl'') 0 ∧ gs'.size = gs.size ∧ gs'[0]? = some a ∧ Rly w w₂ ∧ LF P Shun T' gs' w₂ q' := by
  obtain ⟨N, m', T', hr, gs', w₁, w₂, sl', sl'', q', rfl, hst, hsz, ha', hrel, C'⟩ := runs_until (P := P)
    (Inv := fun μ m t => ∃ gs₁ w₁ sl₁ q₁, m = crowd gs₁ w₁ sl₁ ∧ gs₁.size = gs.size ∧ gs₁[0]? = some a ∧ Rly w w₁ ∧ LF P Shun t gs₁ w₁ q₁ ∧ μ = sumTo gs₁.size q₁)
    (Done := fun m t => ∃ gs₁ w₁ w₂ sl₁ sl₂ q₁, m = crowd gs₁ w₁ sl₁ ∧ stepT P (crowd gs₁ w₁ sl₁) = runT P (crowd gs₁ w₂ sl₂) 0 ∧ gs₁.size = gs.size ∧ gs₁[0]? = some a ∧ Rly w w₂ ∧ LF P Shun t gs₁ w₂ q₁)
    (fun μ m t ⟨gs₁, w₁, sl₁, q₁, hmm, hsz, ha₁, hrel, C₁, hμ⟩ => by
      subst hmm
      obtain ⟨i, g, d, sl', hi, hg, hst⟩ := crowd_pick (P := P) (w := w₁) (sl := sl₁) (C₁.awake ha₁ (.inl hrun)) ⟨0, a, ha₁, hrun⟩
      have Cd : LF P Shun t gs₁ (w₁.at d) q₁ := C₁.at d
      have hrel' : Rly w (w₁.at d) := hrel.trans (Rly.at w₁ d)
      rcases Nat.eq_zero_or_pos i with rfl | hpos
      · exact .inl ⟨gs₁, w₁, w₁.at d, sl₁, sl', q₁, rfl, hst, hsz, ha₁, hrel', Cd⟩
      · obtain ⟨gs', ops, q', hrt, hsz', hgh, C', hlt⟩ := Cd.slip (sl := sl') hpos hi hg ha₁ hrun
        exact .inr ⟨_, _, sumTo gs'.size q', by rw [hst]; exact hrt, by rw [hsz'] at *; omega, gs', w₁.at d, sl', q', rfl, hsz'.trans hsz, hgh, hrel', C', rfl⟩)
    _ _ T ⟨gs, w, sl, q, rfl, rfl, ha, Rly.refl _, C, rfl⟩
  exact ⟨N, gs', w₁, w₂, sl', sl'', T', q', hr, hst, hsz, ha', hrel, C'⟩
end
end Go.Bt
end
