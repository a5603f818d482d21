/- A PLAY OF THE BATON: what the row rests on. -/
import Derived.Test.YtjiajflhfnmkmaaPk
import Derived.Test.YtjiajflhfnmkmaaPl
import Derived.Test.YtjiajflhfnmkmaaPc
set_option linter.unusedVariables false
set_option linter.unusedSimpArgs false
set_option linter.unusedSectionVars false
section
namespace Go.Bt
variable [Gnd]
open Go.Conc Go.ConcN Go.RowKit Go.Proofs Go.Conc.Lib Go.ConcR.Gen
open Go.Sx (Rly RV pz pzo pz_heap spec isWg Gud Co Lf Stb Fits Pt ReI ev ev_eval CallsTo Tame vInt)
open Go.ConcN (sumTo upd sumTo_upd upd_ne upd_same sumTo_congr)
section
variable {s : CS} {Post : Value → World → Prop} {n : Nat} {b : Frame} {cs : List Frame} {F : Go.Sx.Fr} {M : World → Prop} {k : List Item} {ops : Array Oper} {j : Nat} {rest : List Nat}
/-- A function is entered. -/
theorem pt_enter [hS : Stb M] {t : Option Nat} {op : Op} {ty : TypeId} {ps : String} {af : Array Edge} {f : FuncId} {args : Array Value} (hb : b.kind ≠ .early) (ho : ops[j]? = some ⟨t, op, ty, ps, af, none⟩) (hv : CallsTo Try.prog n F (fun _ => True) op ty f args) (hT : Tame Try.prog n F op ty)
    (h : ∀ a w, Fits n F a → Lf M w → ReC s Post (G (Frame.enter Try.prog f args .normal) (b.at a (.inRegion ops (j :: rest) :: k) :: cs)) w) : Pt (coPlay Post) n b cs (some s) (.inRegion ops (j :: rest) :: k) F M := fun a w hf hm =>
  ReC.step rfl fun w₁ h₁ => by
    have e := hv a (pz w₁) hf trivial t ps af none
    obtain ⟨w', es, h2, h3, h4⟩ := Go.Sx.pl_ok (hT.tame a hf t ps af none) e
    exact ⟨_, _, _, Go.Sx.stepG_runT ho (by simp [Region.wanted]) hb h2, h4.seen, h a w' hf ⟨_, (hm.rely h₁).here, h3 ▸ RV.refl _⟩⟩
instance : Go.Sx.FnOk Try.prog 33 := ⟨_, Try.func33, rfl, by decide⟩
instance : Go.Sx.FnOk Try.prog 29 := ⟨_, Try.func29, rfl, by decide⟩
theorem tm33 (Wg : Nat) : Frame.enter Try.prog 33 #[wgP Wg] .normal = (base Try.link.wait).at ⟨#[.pointer (some ⟨Wg, 0, none⟩)] ++ Array.replicate 83 undef, []⟩ [.code (body_wait Try.link)] := by
  simp only [Frame.enter, Try.wgLib.f_wait]
  rfl
theorem e_zero (h : ∀ i, i < s.ents.length → s.ov i = true) (hx : s.ex = 0) : s.e = 0 := by
  unfold CS.e
  rw [hx, Nat.add_zero]
  have : ∀ m, m ≤ s.ents.length → (sumTo m fun i => bn (s.ov i)) = 0 := by
    intro m
    induction m with
    | zero => exact fun _ => rfl
    | succ m ih =>
      intro hm
      show (sumTo m fun i => bn (s.ov i)) + bn (s.ov m) = 0
      rw [ih (by omega), h m (by omega)]; rfl
  exact this _ (Nat.le_refl _)
/-- ████ WAIT. ████ -/
theorem pt_wait [hS : Stb M] (hW : s.Wf) (hall : ∀ i, i < s.ents.length → s.ov i = true) (hex : s.ex = 0) {t : Nat} {ty : TypeId} {ps : String} {af : Array Edge} {x : Operand} {ts : Array TypeId} (hb : b.kind ≠ .early) (ho : ops[j]? = some ⟨some t, .call { callee := .value (.func 33), args := #[x], argTypes := ts }, ty, ps, af, none⟩) (hx : ev F x = some (wgP s.Wg)) (ht : Nat.blt t n = true)
    (h : Pt (coPlay Post) n b cs none (.inRegion ops rest :: k) ((t, .tuple #[]) :: F) M) : Pt (coPlay Post) n b cs (some s) (.inRegion ops (j :: rest) :: k) F M := by
  refine pt_enter hb ho (Go.Sx.callsTo (xs := [x]) (vs := [wgP s.Wg]) Try.func33 rfl (by decide) (by simp [Go.Sx.evs, hx])) inferInstance fun a w hf hm => ?_
  intro w₁ h₁ hI gs sl T q role Shun hSh hsm C hsz ha
  rw [tm33] at ha
  have hC : Fr (s.par Shun) role 0 0 true T gs w₁ q := by have h0 := e_zero hall hex; rw [h0] at C; exact C
  have hroles : ∀ i, role i = .don ∨ role i = .quit := fun i => by
    have h1 := hsm i
    by_cases hi : i < s.base ∨ s.base + s.ents.length ≤ i
    · rw [hW.rest i hi] at h1
      generalize hr : role i = r at h1
      cases h1
      exact .inr rfl
    · simp only [not_or, Nat.not_lt, Nat.not_le] at hi
      have hlt : i - s.base < s.ents.length := by omega
      have := hW.role _ _ (List.getElem?_eq_getElem hlt)
      rw [show s.base + (i - s.base) = i by omega] at this
      rcases this with ⟨_, h2⟩ | ⟨h2, _⟩
      · rw [h2] at h1
        generalize hr : role i = r at h1
        cases h1
        · exact .inl rfl
        · exact .inr rfl
      · rw [hall _ hlt] at h2; cases h2
  obtain ⟨N, gs', w', sl', T', q', hr, hsz', hg, hrel, hL⟩ := hC.wait (sl := sl) rfl hroles hSh (A := AnchB Try.link s.Wg (b.at a (.inRegion ops (j :: rest) :: k)) cs) (fun g hg => wait_round Try.wgLib is80 g hg) (fun g hg => hg.running) rfl ha (wait_start Try.wgLib is80)
  refine EndsW.after hr ?_
  have hdst : (ops[j]?).bind (·.dst) = some t := by rw [ho]; rfl
  rw [hdst] at hg
  have h2 := h (a.put (some t) (.tuple #[])) w' (hf.put ht _) (hm.rely (h₁.trans hrel))
  exact h2 w' (Rly.refl _) (hI.ks.rly hrel) gs' sl' T' q' Shun hL hg
end
end Go.Bt
end
section
namespace Go.Bt
variable [Gnd]
open Go.Conc Go.ConcN Go.RowKit Go.Proofs Go.Conc.Lib Go.ConcR.Gen
open Go.Sx (Rly RV pz pzo pz_heap spec isWg Gud Co Lf Stb Fits Pt ReI ev ev_eval CallsTo Tame vInt)
open Go.ConcN (sumTo upd sumTo_upd upd_ne upd_same sumTo_congr)
section
variable {s : CS} {Post : Value → World → Prop} {n : Nat} {b : Frame} {cs : List Frame} {F : Go.Sx.Fr} {M : World → Prop} {k : List Item} {ops : Array Oper} {j : Nat} {rest : List Nat}
theorem tm29 (Wg : Nat) : Frame.enter Try.prog 29 #[wgP Wg, vI 1] .normal = (base Try.link.add).at ⟨#[.pointer (some ⟨Wg, 0, none⟩), .int .i64 1] ++ Array.replicate 115 undef, []⟩ [.code (body_add Try.link)] := by
  simp only [Frame.enter, Try.wgLib.f_add]
  rfl
theorem noDon_of (hW : s.Wf) (hall : ∀ i, i < s.ents.length → s.ov i = false) {role : Nat → Role} (hsm : Same s.roles role) : NoDon role := by
  refine NoDon.same (role := s.roles) (fun x hx => ?_) hsm
  by_cases hi : x < s.base ∨ s.base + s.ents.length ≤ x
  · rw [hW.rest x hi] at hx; cases hx
  · simp only [not_or, Nat.not_lt, Nat.not_le] at hi
    have hlt : x - s.base < s.ents.length := by omega
    have := hW.role _ _ (List.getElem?_eq_getElem hlt)
    rw [show s.base + (x - s.base) = x by omega] at this
    rcases this with ⟨h2, _⟩ | ⟨_, ⟨bo, h2⟩ | ⟨_, h2⟩⟩
    · rw [hall _ hlt] at h2; cases h2
    · rw [h2] at hx; cases hx
    · rw [h2] at hx; cases hx
/-- ████ ADD(1). ████ -/
theorem pt_add [hS : Stb M] (hW : s.Wf) (hall : ∀ i, i < s.ents.length → s.ov i = false) (hfew : s.e + 1 < 2147483647) {t : Nat} {ty : TypeId} {ps : String} {af : Array Edge} {x y : Operand} {ts : Array TypeId} (hb : b.kind ≠ .early) (ho : ops[j]? = some ⟨some t, .call { callee := .value (.func 29), args := #[x, y], argTypes := ts }, ty, ps, af, none⟩) (hx : ev F x = some (wgP s.Wg)) (hy : ev F y = some (vI 1)) (ht : Nat.blt t n = true)
    (h : Pt (coPlay Post) n b cs (some { s with ex := s.ex + 1 }) (.inRegion ops rest :: k) ((t, .tuple #[]) :: F) M) : Pt (coPlay Post) n b cs (some s) (.inRegion ops (j :: rest) :: k) F M := by
  refine pt_enter hb ho (Go.Sx.callsTo (xs := [x, y]) (vs := [wgP s.Wg, vI 1]) Try.func29 rfl (by decide) (by simp [Go.Sx.evs, hx, hy])) inferInstance fun a w hf hm => ?_
  intro w₁ h₁ hI gs sl T q role Shun hSh hsm C hsz ha
  rw [show ([wgP s.Wg, vI 1].toArray : Array Value) = #[wgP s.Wg, vI 1] from rfl, tm29] at ha
  obtain ⟨N, gs', w', sl', T', q', role', hr, hsz', hg, hrel, C', hsm'⟩ := C.add (sl := sl) hSh ha (add_walk Try.wgLib is80) (noDon_of hW hall hsm) hfew
  refine EndsW.after hr ?_
  have hdst : (ops[j]?).bind (·.dst) = some t := by rw [ho]; rfl
  rw [hdst] at hg
  have h2 := h (a.put (some t) (.tuple #[])) w' (hf.put ht _) (hm.rely (h₁.trans hrel))
  refine h2 w' (Rly.refl _) ((hI.rly hrel).same rfl rfl rfl rfl rfl rfl rfl) gs' sl' T' q' role' Shun hSh (hsm.trans hsm') ?_ (by show gs'.size = s.base + s.ents.length; omega) hg
  have e1 : ({ s with ex := s.ex + 1 } : CS).e = s.e + 1 := rfl
  rw [e1]; exact C'
/-- Fresh: above all that is its own. -/
structure Fresh (s : CS) (M : World → Prop) (bN : Nat) : Prop where
  ents : ∀ e ∈ s.ents, e.A < bN ∧ e.T < bN ∧ e.gr < bN ∧ e.bk < bN
  pend : ∀ x ∈ s.pend, x.1 < bN
  row : s.hasRow = true → s.Rw < bN
  world : ∃ v, M v ∧ v.heap.size = bN
theorem CInv.fresh {w : World} (h : CInv s w) (hm : M (pz w)) : Fresh s M w.heap.size := by
  refine ⟨fun e he => ?_, fun x hx => (Array.getElem?_eq_some_iff.1 (h.pend x hx).1).1, fun hh => (Array.getElem?_eq_some_iff.1 (h.row hh)).1, _, hm, Go.Sx.pz_size w⟩
  obtain ⟨i, hi⟩ := List.mem_iff_getElem?.1 he
  obtain ⟨y, hy⟩ := h.turn i e hi
  exact ⟨(Array.getElem?_eq_some_iff.1 (h.act i e hi)).1, (Array.getElem?_eq_some_iff.1 hy).1, h.low e he⟩
/-- An operation that makes one sealed block, or a channel. -/
theorem pt_make [hS : Stb M] {t : Nat} {op : Op} {ty : TypeId} {ps : String} {af : Array Edge} {val : Nat → Value} {obj : Obj} (hsp : isWg obj = false ∧ (spec obj = true ∨ obj.isChan = true)) (hb : b.kind ≠ .early) (ho : ops[j]? = some ⟨some t, op, ty, ps, af, none⟩) (ht : Nat.blt t n = true)
    (hr : ∀ a w, Fits n F a → (execOp a.eval ⟨some t, op, ty, ps, af, none⟩).runT Try.prog w #[] = (.ok (.value (val w.heap.size)) { w with heap := w.heap.push obj }, #[]))
    (h : ∀ bN, Fresh s M bN → Pt (coPlay Post) n b cs (some { s with pend := (bN, obj) :: s.pend }) (.inRegion ops rest :: k) ((t, val bN) :: F) (fun u => M u ∧ u.heap[bN]? = some (pzo obj))) : Pt (coPlay Post) n b cs (some s) (.inRegion ops (j :: rest) :: k) F M := fun a w hf hm =>
  ReC.stepX rfl fun w₁ h₁ hI => by
    have hold : ∀ (b : Nat) (o : Obj), w₁.heap[b]? = some o → (w₁.heap.push obj)[b]? = some o := fun b o hb => by
      have := (Array.getElem?_eq_some_iff.1 hb).1
      rw [Array.getElem?_push_lt this, ← hb]; exact (Array.getElem?_eq_getElem this).symm
    have hrv : RV (pz w₁) (pz { w₁ with heap := w₁.heap.push obj }) := ⟨rfl, rfl, rfl, fun b' o hb' => by
      rw [pz_heap] at hb' ⊢
      obtain ⟨o', g1, g2⟩ := Option.map_eq_some_iff.1 hb'
      show ((w₁.heap.push obj)[b']?).map pzo = _
      rw [hold _ _ g1, Option.map_some, g2]⟩
    have hMw := (hm.rely h₁).here
    refine ⟨{ s with pend := (w₁.heap.size, obj) :: s.pend }, _, { w₁ with heap := w₁.heap.push obj }, _, ⟨rfl, rfl, rfl, rfl, rfl, rfl, rfl⟩, Go.Sx.stepG_runT ho (by simp [Region.wanted]) hb (hr a w₁ hf), DX.seen ⟨rfl, rfl, rfl, by simp, fun b o hb hs => ⟨o, hold _ _ hb, hs, rfl⟩, fun ad v o hb hs _ hc => ?_, fun b o hb _ => hold _ _ hb, fun e he => by simp at he⟩, ?_, h w₁.heap.size (hI.fresh hMw) _ _ (hf.put ht _) ⟨_, ⟨hS.stb hMw hrv, ?_⟩, RV.refl _⟩⟩
    · unfold World.cell? at hc ⊢
      rw [hb] at hc
      show (match (w₁.heap.push obj)[ad.block]? with | _ => _) = _
      rw [hold _ _ hb]; exact hc
    · refine ⟨fun i e he => hold _ _ (hI.act i e he), fun i e he => let ⟨y, hy⟩ := hI.turn i e he; ⟨y, hold _ _ hy⟩, fun hh => hold _ _ (hI.row hh), fun x hx => ?_, fun e he => ?_, ⟨by have := hI.ks.size; show _ ≤ (w₁.heap.push obj).size; rw [Array.size_push]; omega, fun b o hb ho => hold _ _ (hI.ks.keep b o hb ho)⟩, hI.elo, hI.rlo⟩
      · rcases List.mem_cons.1 hx with rfl | hx
        · exact ⟨by show (w₁.heap.push obj)[w₁.heap.size]? = _; simp, hsp.1, hsp.2, hI.ks.size⟩
        · obtain ⟨g1, g2⟩ := hI.pend x hx
          exact ⟨hold _ _ g1, g2⟩
      · have := hI.low e he
        show e.gr < (w₁.heap.push obj).size ∧ e.bk < (w₁.heap.push obj).size
        rw [Array.size_push]; omega
    · rw [pz_heap]
      show ((w₁.heap.push obj)[w₁.heap.size]?).map pzo = _
      simp
/-- Behind a go statement. -/
def CS.hire (s : CS) (e : Ent) (bi : Nat) (v : World) : CS :=
  { s with ents := s.ents ++ [e], bis := upd s.bis s.ents.length bi, roles := upd s.roles (s.base + s.ents.length) (Role.born e.gr (vI 0) (Home0 s.c s.ents.length e (.func (.func 28) #[] #[vPtr s.ba, vPtr bi]) (fun b => JJ Try.prog s.Wg s.c s.ents.length e b) v) (L0 e) (vPtr e.A)),
           last := upd s.last s.ents.length (-1, v), ov := upd s.ov s.ents.length false, oc := upd s.oc s.ents.length false, ex := 0, pend := [] }
theorem off_lt (hW : s.Wf) {role : Nat → Role} (hsm : Same s.roles role) {i : Nat} {x : Addr × Value} (hx : x ∈ (role i).st) : x.1.off < 2 := by
  have h1 := hsm i
  have key : ∀ (e : Ent) (y : Addr × Value), y ∈ L0 e → y.1.off < 2 := fun e y hy => by
    simp only [L0, List.mem_cons, List.not_mem_nil, or_false] at hy
    rcases hy with rfl | rfl | rfl <;> simp [cA, cT]
  by_cases hi : i < s.base ∨ s.base + s.ents.length ≤ i
  · rw [hW.rest i hi] at h1
    generalize hr : role i = r at h1 hx
    cases h1; cases hx
  · simp only [not_or, Nat.not_lt, Nat.not_le] at hi
    have hlt : i - s.base < s.ents.length := by omega
    have := hW.role _ _ (List.getElem?_eq_getElem hlt)
    rw [show s.base + (i - s.base) = i by omega] at this
    generalize hr : role i = r at h1 hx
    rcases this with ⟨_, h2⟩ | ⟨_, ⟨bo, h2⟩ | ⟨_, h2⟩⟩
    · rw [h2] at h1; cases h1 <;> cases hx
    · rw [h2] at h1; cases h1
      simp only [Role.st, Lt, List.mem_cons, List.not_mem_nil, or_false] at hx
      rcases hx with rfl | rfl | rfl | rfl <;> simp [cA, cT, bx]
    · rw [h2] at h1; cases h1
      · exact key _ _ hx
      · simp only [Role.st, List.mem_cons] at hx
        rcases hx with rfl | hx
        · simp [bx]
        · exact key _ _ (by simpa [L0] using hx)
theorem go_runT {a : Act} {d : Option Tmp} {ty : TypeId} {ps : String} {af : Array Edge} {g : Option (Nat × Bool)} {x y : Operand} {ts : Array TypeId} (w : World) :
    (execOp a.eval ⟨d, .go { callee := .value (.func 30), args := #[x, y], argTypes := ts }, ty, ps, af, g⟩).runT Try.prog w #[] = (.ok (.spawn (dcall 30 #[a.eval x, a.eval y])) w, #[]) := by
  have ef : a.eval (.func 30) = .func (.func 30) #[] #[] := rfl
  refine Prod.ext ?_ ?_
  · unfold execOp; simp [resolve, Deferred.ofValue, ef, dcall]
  · unfold execOp; simp [resolve, Deferred.ofValue, ef]
/-- What is asked of a new actor's blocks. -/
structure NewE (s : CS) (e : Ent) (bi : Nat) : Prop where
  act : (e.A, .cells #[vPtr e.T, .func (.func 28) #[] #[vPtr s.ba, vPtr bi], .bool false] 85) ∈ s.pend
  turn : (e.T, .cells #[vCh e.gr, vCh e.bk, vI 0] 48) ∈ s.pend
  gr : (e.gr, .chan 0 #[] false 0 0 false) ∈ s.pend
  bk : (e.bk, .chan 0 #[] false 0 0 false) ∈ s.pend
  ne : e.gr ≠ e.bk
  dist : ∀ e' ∈ s.ents, e'.A ≠ e.A ∧ e'.T ≠ e.T ∧ e'.gr ≠ e.gr ∧ e'.bk ≠ e.bk ∧ e'.gr ≠ e.bk ∧ e.gr ≠ e'.bk
theorem hire_e (hx : s.ex = 1) (e : Ent) (bi : Nat) (v : World) : (s.hire e bi v).e = s.e := by
  have h1 : (s.hire e bi v).e = (sumTo (s.ents ++ [e]).length fun i => bn (upd s.ov s.ents.length false i)) + 0 := rfl
  have h2 : (sumTo s.ents.length fun i => bn (upd s.ov s.ents.length false i)) = sumTo s.ents.length fun i => bn (s.ov i) := sumTo_congr fun i hi => by rw [upd_ne _ _ (by omega)]
  rw [h1, List.length_append, List.length_singleton]
  show (sumTo s.ents.length fun i => bn (upd s.ov s.ents.length false i)) + bn (upd s.ov s.ents.length false s.ents.length) + 0 = _
  rw [h2, upd_same]
  unfold CS.e
  rw [hx]; rfl
theorem get_hire {e : Ent} {bi : Nat} {v : World} {i : Nat} {e' : Ent} (h : (s.hire e bi v).ents[i]? = some e') : (i < s.ents.length ∧ s.ents[i]? = some e') ∨ (i = s.ents.length ∧ e' = e) := by
  have h : (s.ents ++ [e])[i]? = some e' := h
  rcases Nat.lt_trichotomy i s.ents.length with h1 | h1 | h1
  · rw [List.getElem?_append_left h1] at h; exact .inl ⟨h1, h⟩
  · subst h1
    rw [List.getElem?_append_right (Nat.le_refl _)] at h
    simp at h; exact .inr ⟨rfl, h.symm⟩
  · rw [List.getElem?_eq_none (by simp; omega)] at h; cases h
theorem hire_wf (hW : s.Wf) (hset : s.setup = true) {e : Ent} {bi : Nat} {v : World} (hN : NewE s e bi) (hk : s.k = 0) : (s.hire e bi v).Wf := by
  refine ⟨hW.base, fun i j e1 e2 h1 h2 hij => ?_, fun i e1 h1 => ?_, fun i e1 h1 => ?_, fun x hx => ?_, fun i e1 h1 ho => ?_, fun h => by rw [show (s.hire e bi v).setup = s.setup from rfl, hset] at h; cases h⟩
  · rcases get_hire h1 with ⟨g1, g2⟩ | ⟨g1, rfl⟩
    · rcases get_hire h2 with ⟨g3, g4⟩ | ⟨g3, rfl⟩
      · exact hW.dist i j e1 e2 g2 g4 hij
      · obtain ⟨a1, a2, a3, a4, a5, _⟩ := hN.dist e1 (List.mem_of_getElem? g2)
        exact ⟨a1, a2, a3, a4, a5⟩
    · rcases get_hire h2 with ⟨g3, g4⟩ | ⟨g3, rfl⟩
      · obtain ⟨a1, a2, a3, a4, a5, a6⟩ := hN.dist e2 (List.mem_of_getElem? g4)
        exact ⟨a1.symm, a2.symm, a3.symm, a4.symm, a6⟩
      · omega
  · rcases get_hire h1 with ⟨_, g2⟩ | ⟨_, rfl⟩
    · exact hW.self i e1 g2
    · exact hN.ne
  · rcases get_hire h1 with ⟨g1, g2⟩ | ⟨g1, rfl⟩
    · have := hW.role i e1 g2
      unfold RoleIs at this ⊢
      show (upd s.ov s.ents.length false i = true ∧ upd s.roles (s.base + s.ents.length) _ (s.base + i) = _) ∨ (upd s.ov s.ents.length false i = false ∧ ((∃ bo, upd s.roles (s.base + s.ents.length) _ (s.base + i) = Role.seat e1.gr (vI 0) (Home Try.prog s.c i e1 bo (JJ Try.prog s.Wg s.c i e1 bo) (upd s.last s.ents.length (-1, v) i).1 (upd s.last s.ents.length (-1, v) i).2) (Lt e1 bo)) ∨
        ((upd s.last s.ents.length (-1, v) i).1 = -1 ∧ upd s.roles (s.base + s.ents.length) _ (s.base + i) = Role.born e1.gr (vI 0) (Home0 s.c i e1 (.func (.func 28) #[] #[vPtr s.ba, vPtr (upd s.bis s.ents.length bi i)]) (fun b => JJ Try.prog s.Wg s.c i e1 b) (upd s.last s.ents.length (-1, v) i).2) (L0 e1) (vPtr e1.A))))
      rw [upd_ne s.ov _ (by omega), upd_ne s.last _ (by omega), upd_ne s.bis _ (by omega), upd_ne s.roles _ (by omega)]
      exact this
    · subst g1
      refine .inr ⟨upd_same _ _ _, .inr ⟨?_, ?_⟩⟩
      · show (upd s.last s.ents.length (-1, v) s.ents.length).1 = -1
        rw [upd_same]
      · show upd s.roles (s.base + s.ents.length) _ (s.base + s.ents.length) = Role.born e1.gr (vI 0) (Home0 s.c s.ents.length e1 (.func (.func 28) #[] #[vPtr s.ba, vPtr (upd s.bis s.ents.length bi s.ents.length)]) (fun b => JJ Try.prog s.Wg s.c s.ents.length e1 b) (upd s.last s.ents.length (-1, v) s.ents.length).2) (L0 e1) (vPtr e1.A)
        rw [upd_same, upd_same, upd_same]
  · have hx' : x < s.base ∨ s.base + (s.ents ++ [e]).length ≤ x := hx
    rw [List.length_append, List.length_singleton] at hx'
    show upd s.roles (s.base + s.ents.length) _ x = .quit
    rw [upd_ne _ _ (by omega)]; exact hW.rest x (by omega)
  · show (upd s.last s.ents.length (-1, v) i).1 < (s.k : Int) ∧ ∀ m : Nat, (upd s.last s.ents.length (-1, v) i).1 < m → m < s.k → s.c.who m ≠ i
    rcases get_hire h1 with ⟨g1, g2⟩ | ⟨g1, rfl⟩
    · have ho' : upd s.ov s.ents.length false i = false := ho
      rw [upd_ne _ _ (by omega)] at ho' ⊢
      exact hW.last i e1 g2 ho'
    · subst g1; rw [upd_same]
      exact ⟨by show (-1 : Int) < s.k; omega, fun m h1 h2 => by omega⟩
end
end Go.Bt
end
section
namespace Go.Bt
variable [Gnd]
open Go.Conc Go.ConcN Go.RowKit Go.Proofs Go.Conc.Lib Go.ConcR.Gen
open Go.Sx (Rly RV pz pzo pz_heap spec isWg Gud Co Lf Stb Fits Pt ReI ev ev_eval CallsTo Tame vInt)
open Go.ConcN (sumTo upd sumTo_upd upd_ne upd_same sumTo_congr)
section
variable {s : CS} {Post : Value → World → Prop} {n : Nat} {b : Frame} {cs : List Frame} {F : Go.Sx.Fr} {M : World → Prop} {k : List Item} {ops : Array Oper} {j : Nat} {rest : List Nat}
set_option maxHeartbeats 1000000 in
/-- ████ GO. ████ -/
theorem pt_go [hS : Stb M] (hc : s.c.Ok) (hW : s.Wf) (hset : s.setup = true) (hex : s.ex = 1) (hk0 : s.k = 0) {e : Ent} {bi : Nat} (hN : NewE s e bi) (hlen : s.ents.length < s.c.n) {f : FuncId} {first cap : Array Value} (hA : ActOk s.Wg s.c f first cap)
    (hM : ∀ v, M v → v.heap[s.ba]? = some (.cells #[.func (.func f) first cap] 53) ∧ v.heap[bi]? = some (.cells #[vI s.ents.length] 3) ∧ ¬ s.c.foot v s.ba ∧ ¬ s.c.foot v bi)
    {ty : TypeId} {ps : String} {af : Array Edge} {x y : Operand} {ts : Array TypeId} (hb : b.kind ≠ .early) (ho : ops[j]? = some ⟨none, .go { callee := .value (.func 30), args := #[x, y], argTypes := ts }, ty, ps, af, none⟩) (hx : ev F x = some (vPtr e.A)) (hy : ev F y = some (wgP s.Wg))
    (h : ∀ v, M v → Pt (coPlay Post) n b cs (some (s.hire e bi v)) (.inRegion ops rest :: k) F (fun u => M u ∧ RV v u)) : Pt (coPlay Post) n b cs (some s) (.inRegion ops (j :: rest) :: k) F M := by
  intro a w hf hm w₁ h₁ hI gs sl T q role Shun hSh hsm C hsz ha
  have hMw := (hm.rely h₁).here
  obtain ⟨m1, m2, m3, m4⟩ := hM _ hMw
  obtain ⟨gA, _, _⟩ := hI.pend _ hN.act
  obtain ⟨gT, _, _⟩ := hI.pend _ hN.turn
  obtain ⟨gg, _, _⟩ := hI.pend _ hN.gr
  obtain ⟨gb, _, _⟩ := hI.pend _ hN.bk
  simp only at gA gT gg gb
  have hev1 := ev_eval hf hx
  have hev2 := ev_eval hf hy
  have hwant : Region.wanted ⟨none, .go { callee := .value (.func 30), args := #[x, y], argTypes := ts }, ty, ps, af, none⟩ (yielded ops a.tmps) = true := by simp [Region.wanted]
  have hspawn : ∀ w₂, stepG Try.prog (0 == 0) (G (b.at a (.inRegion ops (j :: rest) :: k)) cs) w₂ = .spawn (G (b.at a (.inRegion ops rest :: k)) cs) (Go.Conc.born Try.prog (dcall 30 #[vPtr e.A, wgP s.Wg])) w₂ #[] := fun w₂ => by
    have hrt := go_runT (a := a) (d := none) (ty := ty) (ps := ps) (af := af) (g := none) (x := x) (y := y) (ts := ts) w₂
    rw [hev1, hev2] at hrt
    have hr1 : (execOp a.eval ⟨none, .go { callee := .value (.func 30), args := #[x, y], argTypes := ts }, ty, ps, af, none⟩).run Try.prog w₂ = .ok (.spawn (dcall 30 #[vPtr e.A, wgP s.Wg])) w₂ := by have := congrArg Prod.fst hrt; simpa using this
    have hr2 : (execOp a.eval ⟨none, .go { callee := .value (.func 30), args := #[x, y], argTypes := ts }, ty, ps, af, none⟩).events Try.prog w₂ #[] = #[] := by have := congrArg Prod.snd hrt; simpa using this
    rw [Go.Conc.stepG_spawn ho hwant hb hr1 rfl, listed_none hr2]; rfl
  -- other parameters
  have hmem : e ∈ (s.hire e bi (pz w₁)).ents := List.mem_append_right _ (List.mem_singleton.2 rfl)
  have C1 : Fr ((s.hire e bi (pz w₁)).par Shun) role 0 s.e true T gs w₁ q := by
    have := C.param (Ch' := (s.hire e bi (pz w₁)).Ch) (X' := (s.hire e bi (pz w₁)).X) (fun c ⟨e', he', hc'⟩ => ⟨e', List.mem_append_left _ he', hc'⟩) (fun c ⟨e', he', hc'⟩ => ?_) (fun i x hx hX => ?_) (fun ad hX => ?_)
    · exact this
    · have he' : e' ∈ s.ents ++ [e] := he'
      rcases List.mem_append.1 he' with h1 | h1
      · exact .inl ⟨e', h1, hc'⟩
      · obtain rfl := List.mem_singleton.1 h1
        rcases hc' with rfl | rfl
        · exact .inr ⟨0, gg⟩
        · exact .inr ⟨0, gb⟩
    · have h2 := off_lt hW hsm hx
      rcases hX with ⟨e', _, h3 | h3⟩ | ⟨hh, kk, h3⟩
      · rw [h3] at h2; simp [cT] at h2
      · rw [h3] at h2; simp [cA] at h2
      · exact C.nox i x hx (.inr ⟨hh, kk, h3⟩)
    · rcases hX with ⟨e', he', h3⟩ | ⟨hh, kk, h3⟩
      · have he' : e' ∈ s.ents ++ [e] := he'
        rcases List.mem_append.1 he' with h1 | h1
        · exact C.xlow ad (.inl ⟨e', h1, h3⟩)
        · obtain rfl := List.mem_singleton.1 h1
          rcases h3 with rfl | rfl
          · exact (Array.getElem?_eq_some_iff.1 gT).1
          · exact (Array.getElem?_eq_some_iff.1 gA).1
      · exact C.xlow ad (.inr ⟨hh, kk, h3⟩)
  have hnx : ∀ x ∈ L0 e, ¬ (s.hire e bi (pz w₁)).X x.1 := fun x hx hX => by
    have hoff : x.1.off < 2 ∧ (x.1.block = e.A ∨ x.1.block = e.T) := by
      simp only [L0, List.mem_cons, List.not_mem_nil, or_false] at hx
      rcases hx with rfl | rfl | rfl <;> simp [cA, cT]
    rcases hX with ⟨e', _, h3 | h3⟩ | ⟨hh, kk, h3⟩
    · rw [h3] at hoff; simp [cT] at hoff
    · rw [h3] at hoff; simp [cA] at hoff
    · have hr := hI.row hh
      have h4 : x.1.block = s.Rw := by rw [h3]; rfl
      rcases hoff.2 with h5 | h5
      · rw [← h4, h5, gA, Option.some.injEq] at hr; simp at hr
      · rw [← h4, h5, gT, Option.some.injEq] at hr; simp at hr
  have hStC : StC (L0 e) w₁ := fun x hx => by
    simp only [L0, List.mem_cons, List.not_mem_nil, or_false] at hx
    rcases hx with rfl | rfl | rfl
    · simp [World.cell?, cA, gA]
    · simp [World.cell?, cT, gT]
    · simp [World.cell?, cT, gT]
  have hStP : StP (L0 e) w₁ := fun x hx => by
    simp only [L0, List.mem_cons, List.not_mem_nil, or_false] at hx
    rcases hx with rfl | rfl | rfl
    · exact ⟨_, gA, rfl, rfl⟩
    · exact ⟨_, gT, rfl, rfl⟩
    · exact ⟨_, gT, rfl, rfl⟩
  obtain ⟨N, gs', w', sl', T', q', role', hr, hsz', hg, hrel, C', hsm'⟩ := C1.hire (sl := sl) hSh ha rfl (fun w₂ _ => hspawn w₂) (fun w₂ _ => DX.of_gud (Gud.refl _)) (c := e.gr) (z := vI 0) (v := vPtr e.A)
    (home := Home0 s.c s.ents.length e (.func (.func 28) #[] #[vPtr s.ba, vPtr bi]) (fun b => JJ Try.prog s.Wg s.c s.ents.length e b) (pz w₁)) (L := L0 e) ⟨e, hmem, .inl rfl⟩ (fun x hx => by
      rw [(hsm x).ch] at hx
      obtain ⟨i', e', g1, _, g2, _⟩ := hW.ch hx
      exact (hN.dist e' (List.mem_of_getElem? g1)).2.2.1 g2.symm) hStC hStP hnx (run_born e s.Wg fun b' => run_home hc hA hlen m1 m2 m3 m4 b')
  refine EndsW.after hr ?_
  have h2 := h (pz w₁) hMw a w' hf ⟨pz w', ⟨hS.stb hMw hrel.pz, hrel.pz⟩, RV.refl _⟩
  have hI' : CInv (s.hire e bi (pz w₁)) w' := by
    have hI1 := hI.rly hrel
    refine ⟨fun i e' he' => ?_, fun i e' he' => ?_, fun hh => hI1.row hh, fun x hx => (by cases hx), fun e' he' => ?_, hI1.ks, fun e' he' => ?_, hI1.rlo⟩
    rotate_right
    · have he' : e' ∈ s.ents ++ [e] := he'
      rcases List.mem_append.1 he' with h1 | h1
      · exact hI1.elo e' h1
      · obtain rfl := List.mem_singleton.1 h1
        exact ⟨(hI.pend _ hN.act).2.2.2, (hI.pend _ hN.turn).2.2.2, (hI.pend _ hN.gr).2.2.2, (hI.pend _ hN.bk).2.2.2⟩
    · rcases get_hire he' with ⟨g1, g2⟩ | ⟨g1, rfl⟩
      · have := hI1.act i e' g2
        show w'.heap[e'.A]? = some (.cells #[vPtr e'.T, .func (.func 28) #[] #[vPtr s.ba, vPtr (upd s.bis s.ents.length bi i)], .bool (upd s.oc s.ents.length false i)] 85)
        rw [upd_ne _ _ (by omega), upd_ne _ _ (by omega)]; exact this
      · subst g1
        show w'.heap[e'.A]? = some (.cells #[vPtr e'.T, .func (.func 28) #[] #[vPtr s.ba, vPtr (upd s.bis s.ents.length bi s.ents.length)], .bool (upd s.oc s.ents.length false s.ents.length)] 85)
        rw [upd_same, upd_same]
        exact sealed_rly gA rfl hrel
    · rcases get_hire he' with ⟨g1, g2⟩ | ⟨g1, rfl⟩
      · exact hI1.turn i e' g2
      · exact ⟨_, sealed_rly gT rfl hrel⟩
    · have he' : e' ∈ s.ents ++ [e] := he'
      rcases List.mem_append.1 he' with h1 | h1
      · exact hI1.low e' h1
      · obtain rfl := List.mem_singleton.1 h1
        have g1 := (Array.getElem?_eq_some_iff.1 gg).1
        have g2 := (Array.getElem?_eq_some_iff.1 gb).1
        have := hrel.size
        omega
  refine h2 w' (Rly.refl _) hI' gs' sl' T' q' role' Shun hSh (fun x => ?_) ?_ (by show gs'.size = s.base + (s.ents ++ [e]).length; rw [List.length_append, List.length_singleton]; omega) hg
  · refine Evo.trans ?_ (hsm' x)
    show Evo (upd s.roles (s.base + s.ents.length) _ x) (upd role gs.size _ x)
    rw [hsz]
    by_cases hx : x = s.base + s.ents.length
    · subst hx; rw [upd_same, upd_same]; exact .refl _
    · rw [upd_ne _ _ hx, upd_ne _ _ hx]; exact hsm x
  · rw [hire_e hex]; exact C'
/-- The state in which a play begins. -/
def CS.zero (c : Cl) (olds : List Nat) (ba Wg base : Nat) (hw : Go.Sx.n0 ≤ Wg) : CS :=
  { wl := hw, c := c, Wg := Wg, Rw := 0, hasRow := false, base := base, N := 0, setup := true, olds := olds, ba := ba, row := #[], ents := [], bis := fun _ => 0, roles := fun _ => .quit, k := 0, last := fun _ => (-1, default), ov := fun _ => false, oc := fun _ => false, ex := 0, pend := [] }
set_option maxRecDepth 100000 in
theorem alloc80 {a : Act} {d : Option Tmp} {ty : TypeId} {ps : String} {af : Array Edge} {g : Option (Nat × Bool)} (w : World) :
    (execOp a.eval ⟨d, .alloc 80, ty, ps, af, g⟩).runT Try.prog w #[] = (.ok (.value (wgP w.heap.size)) { w with heap := w.heap.push (.cells #[.int .u64 0, .int .u32 0] 80) }, #[]) := by
  have e : execOp a.eval ⟨d, .alloc 80, ty, ps, af, g⟩ = (do let v ← Instr.alloc 80 true (.tuple #[]); pure (.value v)) := rfl
  rw [e]
  obtain ⟨ti, hi, hz⟩ : ∃ i, Try.prog.info? 80 = some i ∧ i.zero = some (.agg #[.int .u64 0, .int .u32 0]) := ⟨_, rfl, rfl⟩
  simp [Instr.alloc, zeroValue, typeInfo, hi, hz, newVar, newRow, newObj, go_sem, wgP, Value.cells]
  exact ⟨rfl, rfl⟩
set_option maxHeartbeats 1000000 in
/-- ████ A PLAY BEGINS. ████ -/
theorem pt_begin [hS : Stb M] (c : Cl) (olds : List Nat) (ba : Nat) {t : Nat} {ty : TypeId} {ps : String} {af : Array Edge} (hb : b.kind ≠ .early) (ho : ops[j]? = some ⟨some t, .alloc 80, ty, ps, af, none⟩) (ht : Nat.blt t n = true)
    (h : ∀ Wg base, 0 < base → (∃ v, M v ∧ v.heap.size = Wg) → ∀ hw, Pt (coPlay Post) n b cs (some (CS.zero c olds ba Wg base hw)) (.inRegion ops rest :: k) ((t, wgP Wg) :: F) M) : Pt (coPlay Post) n b cs none (.inRegion ops (j :: rest) :: k) F M := by
  intro a w hf hm w₁ h₁ hK gs sl T q Shun C ha
  obtain ⟨N, gs', w₂, w₃, sl', sl'', T', q', hr, hst, hsz, ha', hrel, C'⟩ := C.picked (sl := sl) ha rfl
  refine EndsW.after hr ?_
  have hMw := (hm.rely (h₁.trans hrel)).here
  have hgs : 0 < gs'.size := (Array.getElem?_eq_some_iff.1 ha').1
  have hgo : stepG Try.prog (0 == 0) (G (b.at a (.inRegion ops (j :: rest) :: k)) cs) w₃ = .go (G (b.at (a.put (some t) (wgP w₃.heap.size)) (.inRegion ops rest :: k)) cs) { w₃ with heap := w₃.heap.push (.cells #[.int .u64 0, .int .u32 0] 80) } #[] := by
    refine (Go.Sx.stepG_runT ho (by simp [Region.wanted]) hb (alloc80 w₃)).trans ?_
    show GStep.go _ _ (seen _ _ _) = _
    rw [seen_none]
  have hrt := runT_crowd_go (P := Try.prog) (sl := sl'') (i := 0) ha' hgo
  have hK₃ := hK.rly hrel
  have CB := C'.begin hK₃.size
  generalize hw₄ : ({ w₃ with heap := w₃.heap.push (.cells #[.int .u64 0, .int .u32 0] 80) } : World) = w₄ at *
  obtain ⟨C2, ha2⟩ := CB.own (a' := G (b.at (a.put (some t) (wgP w₃.heap.size)) (.inRegion ops rest :: k)) cs) (w' := w₄) (es := #[]) ha' (DX.of_gud (Gud.refl _))
  have hrv : RV (pz w₃) (pz w₄) := by
    rw [← hw₄]
    refine ⟨rfl, rfl, rfl, fun b' o hb' => ?_⟩
    rw [pz_heap] at hb' ⊢
    obtain ⟨o', g1, g2⟩ := Option.map_eq_some_iff.1 hb'
    have := (Array.getElem?_eq_some_iff.1 g1).1
    show ((w₃.heap.push _)[b']?).map pzo = _
    rw [Array.getElem?_push_lt this, ← g2, ← Option.map_some, ← g1]
    simp [this]
  have hK₄ : Go.Sx.KS w₄ := by
    rw [← hw₄]
    refine ⟨by have := hK₃.size; show _ ≤ (w₃.heap.push _).size; rw [Array.size_push]; omega, fun b' o hb' ho' => ?_⟩
    have g1 := hK₃.keep b' o hb' ho'
    have := (Array.getElem?_eq_some_iff.1 g1).1
    show (w₃.heap.push _)[b']? = _
    rw [Array.getElem?_push_lt this, ← g1]; exact (Array.getElem?_eq_getElem this).symm
  refine EndsW.step (hst.trans hrt) ?_
  have h2 := h w₃.heap.size gs'.size hgs ⟨_, hMw, Go.Sx.pz_size w₃⟩ hK₃.size (a.put (some t) (wgP w₃.heap.size)) w₄ (hf.put ht _) ⟨_, hS.stb hMw hrv, RV.refl _⟩
  refine h2 w₄ (Rly.refl _) ⟨fun i e he => (by cases he), fun i e he => (by cases he), fun hh => (by cases hh), fun x hx => (by cases hx), fun e he => (by cases he), hK₄, fun e he => (by cases he), fun hh => (by cases hh)⟩ _ _ _ q' (fun _ => .quit) (fun l => Shun l ∨ ∃ k, l = .cell ⟨w₃.heap.size, k, none⟩) (fun kk => .inr ⟨kk, rfl⟩) (Same.refl _) ?_ (by simp [CS.zero]) ha2
  have := C2.param (Ch' := (CS.zero c olds ba w₃.heap.size gs'.size hK₃.size).Ch) (X' := (CS.zero c olds ba w₃.heap.size gs'.size hK₃.size).X) (fun _ h => h.elim) (fun _ ⟨e, he, _⟩ => by cases he) (fun i x hx _ => by cases hx) (fun ad hX => by
    rcases hX with ⟨e, he, _⟩ | ⟨hh, _⟩
    · cases he
    · cases hh)
  exact this
end
end Go.Bt
end
section
namespace Go.Sx
variable [Gnd]
section
variable {P : Program} {X : Type} {R : X → Co P} {n : Nat} {b : Frame} {cs : List Frame} {x : X} {k : List Item} {F : Fr} {M : World → Prop}
/-- A loop: at each round's head the place is told by some s. -/
theorem pt_loop_inv {σ : Type} {c : Code} (I : σ → Prop) (H : σ → Fr) (Y : σ → X) (W : σ → World → Prop) (μ : σ → Nat) (s0 : σ) (h0 : I s0) (hF : Sub (H s0) F) (hY : Y s0 = x) (hM : ∀ w, M w → W s0 w)
    (round : ∀ s, I s → (∀ s', I s' → μ s' < μ s → Pt R n b cs (Y s') (.inLoop c :: k) (H s') (W s')) → Pt R n b cs (Y s) (.code c :: .inLoop c :: k) (H s) (W s)) : Pt R n b cs x (.code (.loop c) :: k) F M := by
  have key : ∀ d s, μ s = d → I s → Pt R n b cs (Y s) (.code c :: .inLoop c :: k) (H s) (W s) := by
    intro d
    induction d using Nat.strongRecOn with
    | _ d ih =>
      intro s hd hI
      exact round s hI fun s' hI' hlt => pt_inLoop (ih (μ s') (by omega) s' rfl hI')
  subst hY
  exact Pt.weaken hF hM (pt_loop (key _ s0 rfl h0))
end
end Go.Sx
namespace Go.Bt
variable [Gnd]
open Go.Conc Go.ConcN Go.RowKit Go.Proofs
open Go.Sx (Rly RV pz pzo pz_heap spec isWg Gud Co Lf Stb Fits Pt PtD ReI ev ev_eval CallI callI_of_pt pt_seq pt_block pt_inBlock pt_exit pt_region pt_regionEnd pt_val pt_if pt_false pt_true pt_skip pt_ret pt_do pt_call pt_draw pt_sw pt_loop_inv lz_val val_move val_assign val_load val_nilCheck val_fieldAddr tame_nilCheck Mem blk res_slot RowE callsTo vInt tame_int val_rem_int val_add_int val_lss_int val_indexAddr_slice val_len)
open Go.ConcN (sumTo upd sumTo_upd upd_ne upd_same sumTo_congr)
/-- Parts of code. -/
def cL : Code → Code
  | .seq a _ => a
  | _ => .skip
def cR : Code → Code
  | .seq _ a => a
  | _ => .skip
noncomputable def c22 : Code := Try.f22.body.getD .skip
/-- From the moves' place on; from its closure on; the picks; the calm; the end. -/
noncomputable def c22m : Code := cR (cR (cR (cR (cR c22))))
noncomputable def c22p : Code := cR (cR c22m)
noncomputable def c22c : Code := cR c22p
noncomputable def c22e : Code := cR c22c
section
variable {s s' : CS} {p : PV} {mv : Value} {xs : List Value} {cnt : Nat} {er : Go.Sx.Ent} {v u : World}
theorem PM.move (h : PM s p mv xs cnt er v) (hF : PF s p) (hs : ∃ roles k last ov oc, s' = s.turn roles k last ov oc) (hko : KO s' u) (kw : KW s.c (ownP s) v u) : PM s' p mv xs cnt er u := by
  obtain ⟨f1, f2, f3, f4, f5⟩ := h.nofoot hF
  obtain ⟨roles, k, last, ov, oc, rfl⟩ := hs
  have no : ∀ b, b = p.tn ∨ b = p.ta ∨ b = p.tm → ¬ ownP s b := fun b hb ho => by
    obtain ⟨_, _, h1, h2, h3⟩ := hF.own b ho
    rcases hb with hb | hb | hb
    · exact h1 hb
    · exact h2 hb
    · exact h3 hb
  refine ⟨hko, kw.tape.trans h.tape, kw.os.trans h.os, kw.output.trans h.output, Nat.le_trans h.size kw.size, fun b hb ho => ?_, kw.keep _ _ h.hn f1 (no _ (.inl rfl)), kw.keep _ _ h.ha f2 (no _ (.inr (.inl rfl))), kw.keep _ _ h.hm f3 (no _ (.inr (.inr rfl))), h.row, fun b o he => ?_⟩
  · have hb' : b < v.heap.size := Nat.lt_of_lt_of_le hb h.size
    have e1 := h.keep b hb ho
    have e2 : v.heap[b]? = some v.heap[b] := Array.getElem?_eq_getElem hb'
    rw [kw.keep _ _ e2 (f5 b hb ho) (fun hw => by have := (hF.own b hw).1; omega), ← e2]; exact e1
  · obtain ⟨g1, g2⟩ := h.her b o he
    exact ⟨kw.keep _ _ g1 (f4 b o he) (fun hw => by have := (hF.own b hw).2.1; omega), g2⟩
/-- While all are let go. -/
structure GI (s : CS) (p : PV) (mv : Value) (xs : List Value) (cnt : Nat) (er : Go.Sx.Ent) (x : Nat × CS × World) : Prop where
  turn : ∃ roles last ov oc, x.2.1 = s.turn roles s.k last ov oc
  wf : x.2.1.Wf
  pm : PM x.2.1 p mv xs cnt er x.2.2
  gone : ∀ j, j < x.1 → x.2.1.ov j = true
  same : ∀ j, x.2.1.oc j = x.2.1.ov j ∨ s.ents.length ≤ j
  le : x.1 ≤ p.n
variable {Post : Value → World → Prop}
theorem gone_let (hF : PF s p) (hset : s.setup = false) {i : Nat} {t : CS} {z : World} (hG : GI s p mv xs cnt er (i, t, z)) (hi : i < p.n) {e : Ent} (he : t.ents[i]? = some e) :
    CallI (coPlay Post) 32 #[vPtr e.A, vI (-1)] (some t) z (fun r x' u => (∃ b, r = .returned b) ∧ ∃ t', x' = some t' ∧ GI s p mv xs cnt er (i + 1, t', u)) := by
  obtain ⟨⟨roles, last, ov, oc, ht⟩, hW, hMz, hgone, hsame, hle⟩ := hG
  simp only at ht hW hMz hgone hsame hle
  have hFt : PF t p := by rw [ht]; exact hF.turn _ _ _ _ _
  have hsett : t.setup = false := by rw [ht]; exact hset
  have hoc : t.oc i = t.ov i := by
    rcases hsame i with h | h
    · exact h
    · have := hF.len; omega
  cases hov : t.ov i with
  | true =>
    refine (let_over (s := t) (pk := -1) (v := z) he (hoc.trans hov)).mono fun r x' u hu => ?_
    obtain ⟨rfl, rfl, hr⟩ := hu
    refine ⟨⟨_, rfl⟩, t, rfl, ⟨⟨roles, last, ov, oc, ht⟩, hW, hMz.rv hFt hr, fun j hj => ?_, hsame, hi⟩⟩
    by_cases hji : j = i
    · subst hji; exact hov
    · exact hgone j (by simp only at hj; omega)
  | false =>
    refine (let_callI (Post := Post) hFt.ok hW he hov (hoc.trans hov) (pk := -1) (.inl rfl) hsett hMz.ko).mono fun r x' u hu => ?_
    cases r with
    | returned r =>
      obtain ⟨m, o, roles', v3, rfl, rfl, hW', hKO', hKW, _, ho⟩ := hu
      obtain rfl := ho rfl
      refine ⟨⟨_, rfl⟩, _, rfl, ⟨⟨roles', upd t.last i (-1, v3), upd t.ov i true, upd t.oc i true, ?_⟩, hW', ?_, fun j hj => ?_, fun j => ?_, hi⟩⟩
      · simp only [CS.let', CS.after, CS.turn, if_true]
        rw [ht]; rfl
      · exact hMz.move hFt ⟨roles', t.k, upd t.last i (-1, v3), upd t.ov i true, upd t.oc i true, by simp only [CS.let', CS.after, CS.turn, if_true]⟩ hKO' (hKW.weaken fun b hb => ⟨e, List.mem_of_getElem? he, hb⟩)
      · show upd t.ov i true j = true
        by_cases hji : j = i
        · subst hji; rw [upd_same]
        · rw [upd_ne _ _ hji]; exact hgone j (by simp only at hj; omega)
      · show upd t.oc i true j = upd t.ov i true j ∨ _
        by_cases hji : j = i
        · subst hji; rw [upd_same, upd_same]; exact .inl rfl
        · rw [upd_ne _ _ hji, upd_ne _ _ hji]; exact hsame j
    | _ => exact hu.elim
/-- What a play leaves. -/
def PlayE (s : CS) (p : PV) (mv : Value) (xs : List Value) (cnt : Nat) (er : Go.Sx.Ent) (u : World) : Prop := ∃ s', (∃ roles last ov oc, s' = s.turn roles s.k last ov oc) ∧ PM s' p mv xs cnt er u
set_option maxRecDepth 100000 in
set_option maxHeartbeats 4000000 in
/-- ████ PLAY'S END. ████ -/
theorem play_end (hF : PF s p) (hP : PI s) (hex : s.ex = 0) (hM : PM s p mv xs cnt er v) {cf : Frame} {cs : List Frame} (h1 : ∀ w, Lf (PlayE s p mv xs cnt er) w → ReI (coPlay Post) none (G (cf.finish mv) cs) w) :
    Pt (coPlay Post) 92 (Go.Sx.fr0 22) (cf :: cs) (some s) [.code c22e] [(9, wgP s.Wg), (10, vPtr p.ta), (13, vPtr p.tm)] (fun u => RV v u) := by
  have hn0 := hF.n0
  have hn1 := hF.n1
  have hca : ∀ {w : World}, RV v w → w.cell? ⟨p.ta, 0, none⟩ = some (.slice (some ⟨s.Rw, 0, none⟩) p.n p.n) := fun h => by rw [Go.Sx.cell_of_blk (h.heap _ _ hM.ha)]; rfl
  refine pt_seq (pt_seq (pt_region ?_))
  refine pt_val (by decide) rfl (val_load rfl Try.isAgg81 (v := .slice (some ⟨s.Rw, 0, none⟩) p.n p.n) (fun w h => hca h)) rfl ?_
  refine pt_val (by decide) rfl (val_len (len := p.n) rfl Try.underlying81) rfl ?_
  refine pt_val (by decide) rfl (val_move (v := vInt (0 : Nat)) rfl) rfl ?_
  refine pt_regionEnd (pt_block ?_)
  refine pt_loop_inv (GI s p mv xs cnt er) (fun x => [(81, .slice (some ⟨s.Rw, 0, none⟩) p.n p.n), (82, vInt p.n), (83, vInt (x.1 : Nat)), (9, wgP s.Wg), (13, vPtr p.tm)]) (fun x => some x.2.1) (fun x z => RV x.2.2 z) (fun x => p.n - x.1) (0, s, v) ⟨⟨s.roles, s.last, s.ov, s.oc, rfl⟩, hP.wf, hM, fun _ h => by omega, fun j => ?_, Nat.zero_le _⟩ ⟨rfl, rfl, rfl, rfl, rfl, trivial⟩ rfl (fun _ h => h) ?_
  · by_cases hj : j < s.ents.length
    · exact .inl (hP.over j hj).2
    · exact .inr (by omega)
  rintro ⟨i, t, z⟩ hG hloop
  obtain ⟨⟨roles, last, ov, oc, ht⟩, hW, hMz, hgone, hsame, hle⟩ := hG
  simp only at ht hW hMz hgone hsame hle
  have hFt : PF t p := by rw [ht]; exact hF.turn _ _ _ _ _
  have htc : t.c = s.c := by rw [ht]; rfl
  have hte : t.ents = s.ents := by rw [ht]; rfl
  have hset : t.setup = false := by rw [ht]; exact hP.setup
  refine pt_seq (pt_region ?_)
  refine pt_val (by decide) rfl (val_lss_int (a := (i : Int)) (b := (p.n : Int)) rfl rfl) rfl ?_ (tame_int rfl rfl)
  refine pt_regionEnd (pt_seq (pt_if rfl (fun hlt => ?_) (fun hge => ?_)))
  · have hilt : i < t.ents.length := by rw [hFt.len]; omega
    have he : t.ents[i]? = some t.ents[i] := List.getElem?_eq_getElem hilt
    generalize t.ents[i] = e at he
    refine pt_skip (pt_seq (pt_block (pt_seq (pt_know (pt_region ?_)))))
    have hcr : ∀ {w : World}, (RV z w ∧ CV t w) → w.cell? ⟨s.Rw, i, none⟩ = some (vPtr e.A) := fun {w} h => by
      unfold World.cell?
      have h3 := h.2.row hFt.hasRow
      rw [show t.Rw = s.Rw by rw [ht]; rfl] at h3
      rw [h3]
      show t.row[i]? = _
      rw [hFt.rows]
      simp [he]
    refine pt_val (by decide) rfl (val_indexAddr_slice (m := 1) i i rfl rfl Try.underlying81 Try.sizeOf82 rfl (by omega) (by omega)) rfl ?_
    refine pt_val (by decide) rfl (val_load rfl Try.isAgg82 (v := vPtr e.A) (fun w h => hcr h)) rfl ?_
    refine pt_val (by decide) rfl (val_assign (v := vPtr e.A) rfl) rfl ?_
    refine pt_regionEnd (pt_region ?_)
    refine pt_val (by decide) rfl (val_move (v := vPtr e.A) rfl) rfl ?_
    have hG : ∀ {w : World}, RV z w → GI s p mv xs cnt er (i, t, w) := fun hr => ⟨⟨roles, last, ov, oc, ht⟩, hW, hMz.rv hFt hr, hgone, hsame, hle⟩
    refine pt_call (T := fun w r x' u => (∃ b, r = .returned b) ∧ ∃ t', x' = some t' ∧ GI s p mv xs cnt er (i + 1, t', u)) (by decide) rfl (callsTo (xs := [.tmp 87, .const (.int .i64 (-1))]) (vs := [vPtr e.A, vI (-1)]) Try.func32 rfl (by decide) rfl) (by infer_instance) (fun w hw' => gone_let hF hP.setup (hG hw'.1) (by omega) he) (fun t' ht => by cases ht; rfl) (fun w r x' hw' => ?_) (fun w ch x' hw' a w' hf hl => ?_)
    · refine Pt.world fun u hu => ?_
      obtain ⟨_, t', rfl, hG'⟩ := hu
      refine Pt.imp (M' := fun z => RV u z) (fun z hz => hz ▸ RV.refl _) ?_
      refine pt_regionEnd (pt_inBlock (pt_region ?_))
      refine pt_val (by decide) rfl (val_add_int (a := (i : Int)) (b := 1) _ rfl rfl rfl (by omega)) rfl ?_ (tame_int rfl rfl)
      refine pt_val (by decide) rfl (val_move (v := vInt (i + 1 : Nat)) rfl) rfl ?_
      refine pt_regionEnd (Pt.weaken ?_ (fun _ h => h) (hloop (i + 1, t', u) hG' (by simp only; omega)))
      exact ⟨rfl, rfl, rfl, rfl, rfl, trivial⟩
    · obtain ⟨z, ⟨⟨_, hr⟩, _⟩, _⟩ := hl
      cases hr
  · have hall : ∀ j, j < t.ents.length → t.ov j = true := fun j hj => hgone j (by have := hFt.len; omega)
    have hWg : t.Wg = s.Wg := by rw [ht]; rfl
    refine pt_exit rfl (pt_seq (pt_region ?_))
    refine pt_wait (s := t) (x := .tmp 9) hW hall (by rw [ht]; exact hex) (by decide) rfl (by rw [hWg]; rfl) rfl ?_
    refine pt_regionEnd (pt_seq (pt_region ?_))
    have hcm : ∀ {w : World}, RV z w → w.cell? ⟨p.tm, 0, none⟩ = some mv := fun h => by rw [Go.Sx.cell_of_blk (h.heap _ _ hMz.hm)]; rfl
    refine pt_val (by decide) rfl (val_load rfl Try.isAgg28 (v := mv) (fun w h => hcm h)) rfl ?_
    refine pt_val (by decide) rfl (val_assign (v := mv) rfl) rfl ?_
    refine pt_regionEnd (pt_ret (fn := Try.f22) (v := mv) Try.func22 rfl (fun a hf => res_slot rfl rfl hf) fun w2 hw2 => h1 w2 (hw2.mono fun q hq => ⟨t, ⟨roles, last, ov, oc, ht⟩, hMz.rv hFt hq⟩))
end
end Go.Bt
end
section
namespace Go.Bt
variable [Gnd]
open Go.Conc Go.ConcN Go.RowKit Go.Proofs
open Go.Sx (Rly RV pz pzo pz_heap spec isWg Gud Co Lf Stb Fits Pt PtD ReI ev ev_eval CallI callI_of_pt pt_seq pt_block pt_inBlock pt_exit pt_region pt_regionEnd pt_val pt_if pt_false pt_true pt_skip pt_ret pt_do pt_call pt_draw pt_sw pt_loop_inv lz_val val_move val_assign val_load val_nilCheck val_fieldAddr tame_nilCheck Mem blk res_slot RowE callsTo vInt tame_int val_rem_int val_add_int val_lss_int val_indexAddr_slice val_len ow_val ow_nil ow_guard_yes ow_guard_no SW sw_region val_pick)
open Go.ConcN (sumTo upd sumTo_upd upd_ne upd_same sumTo_congr)
instance : Go.Sx.FnOk Try.prog 31 := ⟨_, Try.func31, rfl, by decide⟩
/-- The moves of the first k picks. -/
def movs (c : Cl) (k : Nat) : List Value := (List.range k).flatMap fun m => [vI (c.who m), .bool (c.moved m)]
theorem movs_succ (c : Cl) (k : Nat) : movs c (k + 1) = movs c k ++ [vI (c.who k), .bool (c.moved k)] := by
  simp [movs, List.range_succ, List.flatMap_append]
/-- How many picks in a row moved nothing. -/
def calmQ (c : Cl) (len : Nat) : Nat → Nat
  | 0 => 0
  | j + 1 => if c.moved (len + j) then 0 else calmQ c len j + 1
theorem calmQ_le (c : Cl) (len : Nat) : ∀ j, calmQ c len j ≤ j
  | 0 => Nat.le_refl _
  | j + 1 => by
    have := calmQ_le c len j
    simp only [calmQ]; split <;> omega
/-- The picks that a play is asked for. -/
structure PA (c : Cl) (n : Nat) (qs : List Int) (calm : Bool) (J : Nat) : Prop where
  who1 : ∀ k q, qs[k]? = some q → c.who k = (q % (n : Int)).toNat
  who2 : ∀ j, j < J → c.who (qs.length + j) = j % n
  K : c.K = qs.length + J
  J0 : calm = false → J = 0
  run : ∀ j, j < J → j < 100000 ∧ calmQ c qs.length j < n
  stop : calm = true → ¬ (J < 100000 ∧ calmQ c qs.length J < n)
  small : c.K ≤ 8796093022207
/-- The list of picks lies in the world before. -/
structure QL (u0 : World) (olds : List Nat) (qs : List Int) (a : Option Addr) : Prop where
  cells : ∀ k q, qs[k]? = some q → ∃ b o, a = some ⟨b, o, none⟩ ∧ b < u0.heap.size ∧ b ∉ olds ∧ u0.cell? ⟨b, o + k, none⟩ = some (vI q)
/-- k picks are done. -/
structure PS (s : CS) (p : PV) (k : Nat) (t : CS) (v : World) : Prop where
  turn : ∃ roles last ov oc, t = s.turn roles k last ov oc
  pi : PI t
  pm : ∃ mv er, PM t p mv (movs s.c k) k er v
section
variable {s t : CS} {p : PV} {k : Nat} {v u : World} {Post : Value → World → Prop}
theorem PS.pf (h : PS s p k t v) (hF : PF s p) : PF t p := by
  obtain ⟨_, _, _, _, rfl⟩ := h.turn
  exact hF.turn _ _ _ _ _
theorem PS.rv (h : PS s p k t v) (hF : PF s p) (hr : RV v u) : PS s p k t u := ⟨h.turn, h.pi, let ⟨mv, er, hm⟩ := h.pm; ⟨mv, er, hm.rv (h.pf hF) hr⟩⟩
def clo (p : PV) : Value := .func (.func 31) #[] #[vPtr p.tn, vPtr p.ta, vPtr p.tm]
theorem play_pick (hF : PF s p) (h : PS s p k t v) {q : Int} (hk : k < s.c.K) (hb : k + 1 ≤ 8796093022208) (hw : s.c.who k = (q % (p.n : Int)).toNat) :
    CallI (coPlay Post) 31 #[vI q, vPtr p.tn, vPtr p.ta, vPtr p.tm] (some t) v (fun r x' u => r = .returned (.bool (s.c.moved k)) ∧ ∃ t', x' = some t' ∧ PS s p (k + 1) t' u) := by
  have hFt := h.pf hF
  obtain ⟨⟨roles, last, ov, oc, rfl⟩, hP, mv, er, hM⟩ := h
  refine (pick_callI (Post := Post) (q := q) hFt hP hk hb hw hM).mono fun r x' u hu => ?_
  obtain ⟨hr, s', mv', er', rfl, ⟨roles', last', ov', oc', rfl⟩, hP', hM'⟩ := hu
  exact ⟨hr, _, rfl, ⟨⟨roles', last', ov', oc', rfl⟩, hP', mv', er', by rw [movs_succ]; exact hM'⟩⟩
/-- What the frame holds while picks are played. -/
abbrev HP (s : CS) (p : PV) : Go.Sx.Fr := [(14, clo p), (4, vPtr p.tn), (9, wgP s.Wg), (10, vPtr p.ta), (13, vPtr p.tm)]
/-- What a play leaves: the world, and its result. -/
def PlayZ (s : CS) (p : PV) (mv : Value) (er : Go.Sx.Ent) (u : World) : Prop := ∃ t, (∃ roles last ov oc, t = s.turn roles s.c.K last ov oc) ∧ PM t p mv (movs s.c s.c.K) s.c.K er u ∧ p.u0.heap.size ≤ s.N
theorem play_fin (hF : PF s p) (hex : s.ex = 0) (h : PS s p s.c.K t v) {cf : Frame} {cs : List Frame} (h1 : ∀ mv er w, Lf (PlayZ s p mv er) w → ReI (coPlay Post) none (G (cf.finish mv) cs) w) :
    Pt (coPlay Post) 92 (Go.Sx.fr0 22) (cf :: cs) (some t) [.code c22e] [(9, wgP s.Wg), (10, vPtr p.ta), (13, vPtr p.tm)] (fun u => RV v u) := by
  have hFt := h.pf hF
  obtain ⟨⟨roles, last, ov, oc, rfl⟩, hP, mv, er, hM⟩ := h
  refine play_end hFt hP hex hM fun w hw => h1 mv er w (hw.mono fun u hu => ?_)
  obtain ⟨s', ⟨r1, l1, o1, o2, rfl⟩, hM'⟩ := hu
  exact ⟨_, ⟨r1, l1, o1, o2, rfl⟩, hM', by have := hF.tn; omega⟩
/-- While calm: j more picks are done. -/
structure CI (s : CS) (p : PV) (len J : Nat) (x : Nat × CS × World) : Prop where
  ps : PS s p (len + x.1) x.2.1 x.2.2
  le : x.1 ≤ J
abbrev HC (s : CS) (p : PV) (j q : Nat) : Go.Sx.Fr := (17, vInt j) :: (18, vInt q) :: HP s p
set_option maxRecDepth 100000 in
set_option maxHeartbeats 4000000 in
theorem sw_calm {C : Co Try.prog} {j q n : Nat} {z : World} (hn : ∀ w, RV z w → w.cell? ⟨p.tn, 0, none⟩ = some (vInt n)) :
    @SW _ Try.prog C 92 (match c22c with | .seq (.seq _ (.cond _ (.seq _ (.block _ (.loop (.seq (.seq c _) _)))) _)) _ => c | _ => .skip) (HC s p j q) (fun w => RV z w) (fun ex F' w => ex = .normal ∧ Go.Sx.look F' 73 = some (.bool (decide (j < 100000 ∧ q < n))) ∧ Go.Sx.Sub (HC s p j q) F' ∧ RV z w) := by
  show @SW _ Try.prog C 92 (Code.region 22 _ false) _ _ _
  refine sw_region ?_
  refine ow_val (val_move (v := vInt j) rfl) rfl ?_
  refine ow_val (val_lss_int (a := (j : Int)) (b := 100000) rfl rfl) rfl ?_ (tame_int rfl rfl)
  refine ow_val (val_move (v := .bool (decide ((j : Int) < 100000))) rfl) rfl ?_
  by_cases hj : j < 100000
  · have e : decide ((j : Int) < 100000) = true := by simp; omega
    rw [e]
    refine ow_guard_yes (t := 69) rfl rfl rfl (ow_val (val_move (v := vInt q) rfl) rfl ?_)
    refine ow_guard_yes (t := 69) rfl rfl rfl (ow_val (val_load rfl Try.isAgg3 (v := vInt n) (fun w h => hn w h)) rfl ?_)
    refine ow_guard_yes (t := 69) rfl rfl rfl (ow_val (val_lss_int (a := (q : Int)) (b := (n : Int)) rfl rfl) rfl ?_ (tame_int rfl rfl))
    refine ow_val (val_pick rfl rfl rfl) rfl ?_
    refine ow_nil fun w hw => ⟨rfl, ?_, ⟨rfl, rfl, rfl, rfl, rfl, rfl, rfl, trivial⟩, hw⟩
    show some (Value.bool _) = _
    simp only [cond_true, Option.some.injEq, Value.bool.injEq]
    simp [hj]
  · have e : decide ((j : Int) < 100000) = false := by simp; omega
    rw [e]
    refine ow_guard_no (t := 69) rfl rfl rfl rfl rfl ?_
    refine ow_guard_no (t := 69) rfl rfl rfl rfl rfl ?_
    refine ow_guard_no (t := 69) rfl rfl rfl rfl rfl ?_
    refine ow_val (Go.Sx.val_pick_false (v := .bool false) rfl rfl) rfl ?_
    refine ow_nil fun w hw => ⟨rfl, ?_, ⟨rfl, rfl, rfl, rfl, rfl, rfl, rfl, trivial⟩, hw⟩
    show some (Value.bool _) = _
    simp [hj]
set_option maxRecDepth 100000 in
set_option maxHeartbeats 4000000 in
/-- ████ WHILE CALM. ████ -/
theorem play_calm {qs : List Int} {calm : Bool} {J : Nat} (hF : PF s p) (hex : s.ex = 0) (hA : PA s.c p.n qs calm J) (hS : PS s p qs.length t v) {cf : Frame} {cs : List Frame}
    (h1 : ∀ mv er w, Lf (PlayZ s p mv er) w → ReI (coPlay Post) none (G (cf.finish mv) cs) w) :
    Pt (coPlay Post) 92 (Go.Sx.fr0 22) (cf :: cs) (some t) [.code c22c] ((3, .bool calm) :: HP s p) (fun u => RV v u) := by
  have hn0 := hF.n0
  have hn1 := hF.n1
  refine pt_seq (pt_seq (pt_region ?_))
  refine pt_val (by decide) rfl (val_move (v := .bool calm) rfl) rfl ?_
  refine pt_regionEnd ?_
  cases calm with
  | false =>
    obtain rfl := hA.J0 rfl
    have hK := hA.K
    rw [Nat.add_zero] at hK
    rw [← hK] at hS
    refine pt_false rfl (pt_skip (Pt.weaken ?_ (fun _ h => h) (play_fin hF hex hS h1)))
    exact ⟨rfl, rfl, rfl, trivial⟩
  | true =>
    refine pt_true rfl (pt_seq (pt_region ?_))
    refine pt_val (by decide) rfl (val_assign (v := vInt (0 : Nat)) rfl) rfl ?_
    refine pt_val (by decide) rfl (val_assign (v := vInt (0 : Nat)) rfl) rfl ?_
    refine pt_regionEnd (pt_block ?_)
    refine pt_loop_inv (CI s p qs.length J) (fun x => HC s p x.1 (calmQ s.c qs.length x.1)) (fun x => some x.2.1) (fun x z => RV x.2.2 z) (fun x => J - x.1) (0, t, v) ⟨hS, Nat.zero_le _⟩ ⟨rfl, rfl, rfl, rfl, rfl, rfl, rfl, trivial⟩ rfl (fun _ h => h) ?_
    rintro ⟨j, t, z⟩ ⟨hP, hle⟩ hloop
    simp only at hP hle
    have hq := calmQ_le s.c qs.length j
    have hFt := hP.pf hF
    have hcn : ∀ {w : World}, RV z w → w.cell? ⟨p.tn, 0, none⟩ = some (vInt p.n) := fun hr => by
      obtain ⟨mv, er, hM⟩ := hP.pm
      rw [Go.Sx.cell_of_blk (hr.heap _ _ hM.hn)]; rfl
    refine pt_seq (pt_seq (pt_sw (by decide) (sw_calm (C := coPlay Post (some t)) (n := p.n) (fun _ h => hcn h)) (fun F' y hq' => ?_) (fun ex F' y hne hq => hne hq.1)))
    obtain ⟨-, h73, hsub, hry⟩ := hq'
    refine pt_if (p := j < 100000 ∧ calmQ s.c qs.length j < p.n) h73 (fun hgo => ?_) (fun hno => ?_)
    · have hlt : j < J := by
        rcases Nat.lt_or_ge j J with h | h
        · exact h
        · have : j = J := by omega
          subst this
          exact absurd hgo (hA.stop rfl)
      have hk : qs.length + j < s.c.K := by rw [hA.K]; omega
      refine pt_skip (Pt.weaken hsub (M' := fun w => RV z w) (fun w h => h ▸ hry) ?_)
      refine pt_seq (pt_block (pt_seq (pt_region ?_)))
      refine pt_val (by decide) rfl (val_move (v := vInt (calmQ s.c qs.length j)) rfl) rfl ?_
      refine pt_val (by decide) rfl (val_add_int (a := (calmQ s.c qs.length j : Int)) (b := 1) _ rfl rfl rfl (by omega)) rfl ?_ (tame_int rfl rfl)
      refine pt_val (by decide) rfl (val_assign (v := vInt (calmQ s.c qs.length j + 1 : Nat)) rfl) rfl ?_
      refine pt_regionEnd (pt_seq (pt_region ?_))
      refine pt_val (by decide) rfl (val_move (v := clo p) rfl) rfl ?_
      refine pt_val (by decide) rfl (val_move (v := vInt j) rfl) rfl ?_
      have hwho : s.c.who (qs.length + j) = ((j : Int) % (p.n : Int)).toNat := by
        rw [hA.who2 j hlt, ← Int.natCast_emod, Int.toNat_natCast]
      refine pt_call (T := fun w r x' u => r = .returned (.bool (s.c.moved (qs.length + j))) ∧ ∃ t', x' = some t' ∧ PS s p (qs.length + j + 1) t' u) (by decide) rfl (callsToV (xs := [.tmp 79]) (vs := [vI j]) rfl Try.func31 rfl (by decide) rfl) (Go.Sx.tame_callv rfl) (fun w hw => play_pick hF (hP.rv hF hw) hk (by have := hA.small; omega) hwho) (fun t' ht => by cases ht; rfl) (fun w r x' hw => ?_) (fun w ch x' hw a w' hf hl => ?_)
      · refine Pt.world fun u hu => ?_
        obtain ⟨hr, t', rfl, hP'⟩ := hu
        cases hr
        refine Pt.imp (M' := fun z => RV u z) (fun z hz => hz ▸ RV.refl _) ?_
        refine pt_regionEnd ?_
        have hI : CI s p qs.length J (j + 1, t', u) := ⟨hP', hlt⟩
        have hl := hloop (j + 1, t', u) hI (by simp only; omega)
        cases hmv : s.c.moved (qs.length + j) with
        | true =>
          have e0 : calmQ s.c qs.length (j + 1) = 0 := by simp [calmQ, hmv]
          refine pt_true rfl (pt_region ?_)
          refine pt_val (by decide) rfl (val_assign (v := vInt (0 : Nat)) rfl) rfl ?_
          refine pt_regionEnd (pt_inBlock (pt_region ?_))
          refine pt_val (by decide) rfl (val_move (v := vInt j) rfl) rfl ?_
          refine pt_val (by decide) rfl (val_add_int (a := (j : Int)) (b := 1) _ rfl rfl rfl (by omega)) rfl ?_ (tame_int rfl rfl)
          refine pt_val (by decide) rfl (val_assign (v := vInt (j + 1 : Nat)) rfl) rfl ?_
          refine pt_regionEnd (Pt.weaken ?_ (fun _ h => h) hl)
          simp only [e0]
          exact ⟨rfl, rfl, rfl, rfl, rfl, rfl, rfl, trivial⟩
        | false =>
          have e0 : calmQ s.c qs.length (j + 1) = calmQ s.c qs.length j + 1 := by simp [calmQ, hmv]
          refine pt_false rfl (pt_skip (pt_inBlock (pt_region ?_)))
          refine pt_val (by decide) rfl (val_move (v := vInt j) rfl) rfl ?_
          refine pt_val (by decide) rfl (val_add_int (a := (j : Int)) (b := 1) _ rfl rfl rfl (by omega)) rfl ?_ (tame_int rfl rfl)
          refine pt_val (by decide) rfl (val_assign (v := vInt (j + 1 : Nat)) rfl) rfl ?_
          refine pt_regionEnd (Pt.weaken ?_ (fun _ h => h) hl)
          simp only [e0]
          exact ⟨rfl, rfl, rfl, rfl, rfl, rfl, rfl, trivial⟩
      · obtain ⟨z, ⟨hr, _⟩, _⟩ := hl
        cases hr
    · have hJ : j = J := by
        rcases Nat.lt_or_ge j J with h | h
        · exact absurd (hA.run j h) hno
        · omega
      subst hJ
      rw [← hA.K] at hP
      refine pt_exit rfl (Pt.weaken ?_ (M' := fun w => RV z w) (fun w h => h ▸ hry) (play_fin hF hex hP h1))
      exact ⟨hsub.has 9 _ rfl, hsub.has 10 _ rfl, hsub.has 13 _ rfl, trivial⟩
end
end Go.Bt
end
section
namespace Go.Bt
variable [Gnd]
open Go.Conc Go.ConcN Go.RowKit Go.Proofs
open Go.Sx (Rly RV pz pzo pz_heap spec isWg Gud Co Lf Stb Fits Pt PtD ReI ev ev_eval CallI callI_of_pt pt_seq pt_block pt_inBlock pt_exit pt_region pt_regionEnd pt_val pt_if pt_false pt_true pt_skip pt_ret pt_do pt_call pt_draw pt_sw pt_loop_inv lz_val val_move val_assign val_load val_nilCheck val_fieldAddr tame_nilCheck Mem blk res_slot RowE callsTo vInt tame_int val_rem_int val_add_int val_lss_int val_indexAddr_slice val_len val_makeFunc acts_alloc)
open Go.ConcN (sumTo upd sumTo_upd upd_ne upd_same sumTo_congr)
section
variable {s t : CS} {p : PV} {k : Nat} {v u : World} {Post : Value → World → Prop}
/-- In the list. -/
structure LI (s : CS) (p : PV) (len : Nat) (x : Nat × CS × World) : Prop where
  ps : PS s p x.1 x.2.1 x.2.2
  le : x.1 ≤ len
set_option maxRecDepth 100000 in
set_option maxHeartbeats 4000000 in
/-- ████ THE LIST OF PICKS. ████ -/
theorem play_list {qs : List Int} {calm : Bool} {J cap : Nat} {pa : Option Addr} (hF : PF s p) (hex : s.ex = 0) (hA : PA s.c p.n qs calm J) (hQ : QL p.u0 s.olds qs pa) (hS : PS s p 0 t v) {cf : Frame} {cs : List Frame}
    (h1 : ∀ mv er w, Lf (PlayZ s p mv er) w → ReI (coPlay Post) none (G (cf.finish mv) cs) w) :
    Pt (coPlay Post) 92 (Go.Sx.fr0 22) (cf :: cs) (some t) [.code c22p] ((2, .slice pa qs.length cap) :: (3, .bool calm) :: HP s p) (fun u => RV v u) := by
  have hsm : qs.length ≤ 8796093022207 := by have := hA.K; have := hA.small; omega
  refine pt_seq (pt_seq (pt_region ?_))
  refine pt_val (by decide) rfl (val_move (v := .slice pa qs.length cap) rfl) rfl ?_
  refine pt_val (by decide) rfl (val_len (len := qs.length) rfl Try.underlying23) rfl ?_
  refine pt_val (by decide) rfl (val_move (v := vInt (0 : Nat)) rfl) rfl ?_
  refine pt_regionEnd (pt_block ?_)
  refine pt_loop_inv (LI s p qs.length) (fun x => (56, .slice pa qs.length cap) :: (57, vInt qs.length) :: (58, vInt (x.1 : Nat)) :: (3, .bool calm) :: HP s p) (fun x => some x.2.1) (fun x z => RV x.2.2 z) (fun x => qs.length - x.1) (0, t, v) ⟨hS, Nat.zero_le _⟩ ⟨rfl, rfl, rfl, rfl, rfl, rfl, rfl, rfl, rfl, trivial⟩ rfl (fun _ h => h) ?_
  rintro ⟨j, t, z⟩ ⟨hP, hle⟩ hloop
  simp only at hP hle
  have hFt := hP.pf hF
  refine pt_seq (pt_region ?_)
  refine pt_val (by decide) rfl (val_lss_int (a := (j : Int)) (b := (qs.length : Int)) rfl rfl) rfl ?_ (tame_int rfl rfl)
  refine pt_regionEnd (pt_seq (pt_if rfl (fun hlt => ?_) (fun hge => ?_)))
  · have hj : j < qs.length := by omega
    have hq : qs[j]? = some qs[j] := List.getElem?_eq_getElem hj
    generalize qs[j] = q at hq
    obtain ⟨pb, o, rfl, hpb, hno, hcell⟩ := hQ.cells j q hq
    have hk : j < s.c.K := by rw [hA.K]; omega
    refine pt_skip (pt_seq (pt_block (pt_seq (pt_region ?_))))
    have hcq : ∀ {w : World}, RV z w → w.cell? ⟨pb, o + j, none⟩ = some (vI q) := fun {w} hr => by
      obtain ⟨mv, er, hM⟩ := hP.pm
      have holds : t.olds = s.olds := by obtain ⟨_, _, _, _, rfl⟩ := hP.turn; rfl
      have e := (hM.rv hFt hr).keep pb hpb (by rw [holds]; exact hno)
      rw [← hcell]; unfold World.cell?; rw [e]
    refine pt_val (by decide) rfl (val_indexAddr_slice (m := 1) j (o + j) rfl rfl Try.underlying23 Try.sizeOf3 rfl hj (by omega)) rfl ?_
    refine pt_val (by decide) rfl (val_load rfl Try.isAgg3 (v := vI q) (fun w h => hcq h)) rfl ?_
    refine pt_val (by decide) rfl (val_assign (v := vI q) rfl) rfl ?_
    refine pt_regionEnd (pt_region ?_)
    refine pt_val (by decide) rfl (val_move (v := clo p) rfl) rfl ?_
    refine pt_val (by decide) rfl (val_move (v := vI q) rfl) rfl ?_
    refine pt_call (T := fun w r x' u => r = .returned (.bool (s.c.moved j)) ∧ ∃ t', x' = some t' ∧ PS s p (j + 1) t' u) (by decide) rfl (callsToV (xs := [.tmp 63]) (vs := [vI q]) rfl Try.func31 rfl (by decide) rfl) (Go.Sx.tame_callv rfl) (fun w hw => play_pick hF (hP.rv hF hw) hk (by omega) (hA.who1 j q hq)) (fun t' ht => by cases ht; rfl) (fun w r x' hw => ?_) (fun w ch x' hw a w' hf hl => ?_)
    · refine Pt.world fun u hu => ?_
      obtain ⟨hr, t', rfl, hP'⟩ := hu
      cases hr
      refine Pt.imp (M' := fun z => RV u z) (fun z hz => hz ▸ RV.refl _) ?_
      refine pt_regionEnd (pt_inBlock (pt_region ?_))
      refine pt_val (by decide) rfl (val_add_int (a := (j : Int)) (b := 1) _ rfl rfl rfl (by omega)) rfl ?_ (tame_int rfl rfl)
      refine pt_val (by decide) rfl (val_move (v := vInt (j + 1 : Nat)) rfl) rfl ?_
      refine pt_regionEnd (Pt.weaken ?_ (fun _ h => h) (hloop (j + 1, t', u) ⟨hP', hj⟩ (by simp only; omega)))
      exact ⟨rfl, rfl, rfl, rfl, rfl, rfl, rfl, rfl, rfl, trivial⟩
    · obtain ⟨z, ⟨hr, _⟩, _⟩ := hl
      cases hr
  · have hJ : j = qs.length := by omega
    subst hJ
    refine pt_exit rfl (Pt.weaken ?_ (fun _ h => h) (play_calm hF hex hA hP h1))
    exact ⟨rfl, rfl, rfl, rfl, rfl, rfl, trivial⟩
/-- What goroutine 0 knows of its own blocks: they stand below the heap's size. -/
def Low (s : CS) (N : Nat) : Prop := ∀ e ∈ s.ents, e.A < N ∧ e.T < N ∧ e.gr < N ∧ e.bk < N
theorem pt_low {n : Nat} {b : Frame} {cs : List Frame} {F : Go.Sx.Fr} {M : World → Prop} {it : List Item} [hS : Stb M]
    (h : ∀ z, M z → CV s z → Low s z.heap.size → Pt (coPlay Post) n b cs (some s) it F (fun u => RV z u)) :
    Pt (coPlay Post) n b cs (some s) it F M := fun a w hf hm w₁ h₁ hI => by
  have hMw := (hm.rely h₁).here
  exact h (pz w₁) hMw hI.cv (by rw [Go.Sx.pz_size]; exact (hI.fresh hMw).ents) a w₁ hf ⟨_, RV.refl _, RV.refl _⟩ w₁ (Rly.refl _) hI
/-- Goroutine 0 settles: no more is hired. -/
theorem pt_settle {n : Nat} {b : Frame} {cs : List Frame} {F : Go.Sx.Fr} {M : World → Prop} {it : List Item} [hS : Stb M]
    (h : ∀ z, M z → Pt (coPlay Post) n b cs (some { s with setup := false, N := z.heap.size }) it F (fun u => RV z u)) :
    Pt (coPlay Post) n b cs (some s) it F M := fun a w hf hm w₁ h₁ hI => by
  have hMw := (hm.rely h₁).here
  have h2 := h (pz w₁) hMw a w₁ hf ⟨_, RV.refl _, RV.refl _⟩
  exact (ReC.alike (s := s) (s' := { s with setup := false, N := (pz w₁).heap.size }) ⟨rfl, rfl, rfl, rfl, rfl, rfl, rfl⟩ (fun w h => h.same rfl rfl rfl rfl rfl rfl rfl) h2) w₁ (Rly.refl _) hI
/-- While actors are hired. -/
structure HS (s : CS) (u0 : World) (tn ta L n : Nat) : Prop where
  ok : s.c.Ok
  wf : s.Wf
  setup : s.setup = true
  ex : s.ex = 0
  k : s.k = 0
  pend : s.pend = []
  ov : ∀ i, i < s.ents.length → s.ov i = false ∧ s.oc i = false
  olds : ∀ b ∈ s.olds, b < u0.heap.size
  lo : ∀ e ∈ s.ents, L ≤ e.A ∧ L ≤ e.T ∧ L ≤ e.gr ∧ L ≤ e.bk
  tn : u0.heap.size ≤ tn ∧ tn < L
  ta : u0.heap.size ≤ ta ∧ ta < L
  n0 : 0 < n
  n1 : n ≤ 1000
  hasRow : s.hasRow = true
  c0 : s.c.n0 ≤ u0.heap.size
/-- .. and the world. -/
structure HW (s : CS) (u0 : World) (tn ta n : Nat) (z : World) : Prop where
  ko : KO s z
  rv : RV u0 z
  hn : z.heap[tn]? = some (blk [vInt n] 3)
  ha : z.heap[ta]? = some (blk [.slice (some ⟨s.Rw, 0, none⟩) n n] 81)
set_option maxRecDepth 100000 in
set_option maxHeartbeats 4000000 in
/-- ████ THE MOVES' PLACE; THE PICKS. ████ -/
theorem play_moves {M : World → Prop} [hS : Stb M] {u0 : World} {tn ta L n : Nat} {qs : List Int} {calm : Bool} {J cap : Nat} {pa : Option Addr} (hH : HS s u0 tn ta L n) (hlen : s.ents.length = n) (hrows : s.row = (s.ents.map fun e => vPtr e.A).toArray) (hM : ∀ z, M z → HW s u0 tn ta n z) (hA : PA s.c n qs calm J) (hQ : QL u0 s.olds qs pa) {cf : Frame} {cs : List Frame}
    (h1 : ∀ s' tm mv er w, s'.c = s.c → s'.olds = s.olds → Lf (PlayZ s' ⟨u0, tn, ta, tm, n⟩ mv er) w → ReI (coPlay Post) none (G (cf.finish mv) cs) w) :
    Pt (coPlay Post) 92 (Go.Sx.fr0 22) (cf :: cs) (some s) [.code c22m] [(2, .slice pa qs.length cap), (3, .bool calm), (4, vPtr tn), (9, wgP s.Wg), (10, vPtr ta)] M := by
  refine pt_low fun z hz hcv hlow => ?_
  have hW := hM z hz
  refine Pt.imp (M' := Mem z [] []) (fun w hw => (Mem.refl z).grow hw) ?_
  refine pt_seq (pt_region ?_)
  refine pt_new (by decide) rfl (acts_alloc Try.zeroValue28) rfl fun tm htm => ?_
  refine pt_regionEnd (pt_seq (pt_region ?_))
  refine pt_val (by decide) rfl (val_makeFunc (vs := #[vPtr tn, vPtr ta, vPtr tm]) (fun a hf => ?_)) rfl ?_
  · simp only [List.map_toArray, List.map_cons, List.map_nil]
    rw [ev_eval hf (x := .tmp 4) (v := vPtr tn) rfl, ev_eval hf (x := .tmp 10) (v := vPtr ta) rfl, ev_eval hf (x := .tmp 13) (v := vPtr tm) rfl]
  refine pt_val (by decide) rfl (val_assign (v := .func (.func 31) #[] #[vPtr tn, vPtr ta, vPtr tm]) rfl) rfl ?_
  refine pt_regionEnd (pt_settle fun z2 hz2 => ?_)
  have hr2 := Mem.rv hz2
  have hsz : z.heap.size ≤ z2.heap.size := hz2.size
  have htm2 : tm < z2.heap.size := hz2.lt (by simp [Go.Sx.keys])
  have hwf : ({ s with setup := false, N := z2.heap.size } : CS).Wf := ⟨hH.wf.base, hH.wf.dist, hH.wf.self, hH.wf.role, hH.wf.rest, hH.wf.last, fun _ => hH.pend⟩
  have hn2 : tn < z2.heap.size := (Array.getElem?_eq_some_iff.1 (hr2.heap _ _ hW.hn)).1
  have ha2 : ta < z2.heap.size := (Array.getElem?_eq_some_iff.1 (hr2.heap _ _ hW.ha)).1
  have hnz : tn < z.heap.size := (Array.getElem?_eq_some_iff.1 hW.hn).1
  have hu0 := hW.rv.size
  have hKO : KO { s with setup := false, N := z2.heap.size } z2 := by
    have h := hW.ko.rv hH.ok hr2
    refine ⟨h.kept, h.sh, fun b hb => ?_, fun _ => Nat.le_refl _⟩
    rcases h.foot b hb with h2 | ⟨h2, _⟩
    · exact .inl h2
    · rw [hH.setup] at h2; cases h2
  have hF : PF { s with setup := false, N := z2.heap.size } ⟨u0, tn, ta, tm, n⟩ := by
    refine ⟨hH.ok, hH.c0, hH.olds, ⟨hH.tn.1, hn2⟩, ⟨hH.ta.1, ha2⟩, ⟨Nat.le_trans hu0 htm, htm2⟩, fun b hb => ?_, hH.n0, hH.n1, hlen, hH.hasRow, hrows⟩
    obtain ⟨e, he, hb⟩ := hb
    have h1 := hlow e he
    have h2 := hH.lo e he
    have h3 := hH.tn
    have h4 := hH.ta
    show u0.heap.size ≤ b ∧ b < z2.heap.size ∧ b ≠ tn ∧ b ≠ ta ∧ b ≠ tm
    rcases hb with (rfl | rfl | rfl) | rfl <;> omega
  have hP : PI { s with setup := false, N := z2.heap.size } := ⟨hwf, rfl, fun i hi => by
    obtain ⟨g1, g2⟩ := hH.ov i hi
    show s.ov i = s.c.over i s.k ∧ s.oc i = s.ov i
    rw [g1, g2, hH.k, hH.ok.over0]; exact ⟨rfl, rfl⟩⟩
  have hrv := hW.rv.trans hr2
  have hPM : PM { s with setup := false, N := z2.heap.size } ⟨u0, tn, ta, tm, n⟩ (.slice none 0 0) [] 0 none z2 :=
    ⟨hKO, hrv.tape, hrv.os, hrv.output, hrv.size, fun b hb _ => by
      have e2 : u0.heap[b]? = some u0.heap[b] := Array.getElem?_eq_getElem hb
      rw [hrv.heap _ _ e2, ← e2], hr2.heap _ _ hW.hn, hr2.heap _ _ hW.ha, hz2.own _ _ (List.mem_cons_self ..), RowE.nil 43 2, fun b o he => by cases he⟩
  have hPS : PS { s with setup := false, N := z2.heap.size } ⟨u0, tn, ta, tm, n⟩ 0 { s with setup := false, N := z2.heap.size } z2 := ⟨⟨s.roles, s.last, s.ov, s.oc, by rw [← hH.k]; rfl⟩, hP, _, _, hPM⟩
  refine Pt.weaken ?_ (fun _ h => h) (play_list (cap := cap) (s := { s with setup := false, N := z2.heap.size }) (p := ⟨u0, tn, ta, tm, n⟩) hF hH.ex hA hQ hPS fun mv er w hw => h1 { s with setup := false, N := z2.heap.size } tm mv er w rfl rfl hw)
  exact ⟨rfl, rfl, rfl, rfl, rfl, rfl, rfl, trivial⟩
end
end Go.Bt
end
section
namespace Go.Bt
variable [Gnd]
open Go.Conc Go.ConcN Go.RowKit Go.Proofs
open Go.Sx (Fits ev ev_eval)
section
variable {a : Act} {d : Option Tmp} {ty : TypeId} {ps : String} {af : Array Edge} {g : Option (Nat × Bool)}
theorem box_runT {P : Program} {T : TypeId} {x : Operand} {v : Value} (h : a.eval x = v) (w : World) :
    (execOp a.eval ⟨d, .box T x, ty, ps, af, g⟩).runT P w #[] = (.ok (.value (vPtr w.heap.size)) { w with heap := w.heap.push (.cells v.cells T) }, #[]) := by
  have e : execOp a.eval ⟨d, .box T x, ty, ps, af, g⟩ = (do let v ← Instr.box T v; pure (.value v)) := by rw [← h]; rfl
  rw [e]
  rfl
set_option maxRecDepth 100000 in
theorem chan45 (w : World) : (execOp a.eval ⟨d, .makeChan 45 (.const (.int .i64 0)), ty, ps, af, g⟩).runT Try.prog w #[] = (.ok (.value (vCh w.heap.size)) { w with heap := w.heap.push (.chan 0 #[] false 0 0 false) }, #[]) := by
  have e : execOp a.eval ⟨d, .makeChan 45 (.const (.int .i64 0)), ty, ps, af, g⟩ = (do let v ← Instr.makeChan 45 (.int .i64 0); pure (.value v)) := rfl
  rw [e]
  obtain ⟨e2, ti, hu, hi⟩ : ∃ e2 ti, Try.prog.underlying 45 = some (.chan .both e2) ∧ Try.prog.info? e2 = some ti := ⟨_, _, rfl, rfl⟩
  simp [Instr.makeChan, asInt, underlying, typeInfo, hu, hi, newObj, go_sem, vCh]
  exact ⟨rfl, rfl⟩
set_option maxRecDepth 100000 in
theorem chan46 (w : World) : (execOp a.eval ⟨d, .makeChan 46 (.const (.int .i64 0)), ty, ps, af, g⟩).runT Try.prog w #[] = (.ok (.value (vCh w.heap.size)) { w with heap := w.heap.push (.chan 0 #[] false 0 0 false) }, #[]) := by
  have e : execOp a.eval ⟨d, .makeChan 46 (.const (.int .i64 0)), ty, ps, af, g⟩ = (do let v ← Instr.makeChan 46 (.int .i64 0); pure (.value v)) := rfl
  rw [e]
  obtain ⟨e2, ti, hu, hi⟩ : ∃ e2 ti, Try.prog.underlying 46 = some (.chan .both e2) ∧ Try.prog.info? e2 = some ti := ⟨_, _, rfl, rfl⟩
  simp [Instr.makeChan, asInt, underlying, typeInfo, hu, hi, newObj, go_sem, vCh]
  exact ⟨rfl, rfl⟩
set_option maxRecDepth 100000 in
theorem slice81 {n : Nat} (hn : n ≤ 1000) {x : Operand} (h : a.eval x = vI n) (w : World) : (execOp a.eval ⟨d, .makeSlice 81 x x, ty, ps, af, g⟩).runT Try.prog w #[] = (.ok (.value (.slice (some ⟨w.heap.size, 0, none⟩) n n)) { w with heap := w.heap.push (.cells (Array.replicate n (.pointer none)) 82) }, #[]) := by
  have e : execOp a.eval ⟨d, .makeSlice 81 x x, ty, ps, af, g⟩ = (do let v ← Instr.makeSlice 81 (vI n) (vI n); pure (.value v)) := by rw [← h]; rfl
  rw [e]
  obtain ⟨ti, hu, hi, hz, hs, hby⟩ : ∃ ti, Try.prog.underlying 81 = some (.slice 82) ∧ Try.prog.info? 82 = some ti ∧ ti.zero = some (.pointer none) ∧ ti.size = 1 ∧ ti.bytes = 8 := ⟨_, rfl, rfl, rfl, rfl, rfl⟩
  have wl : IntKind.i64.wrap (n : Int) = n := by rw [IntKind.wrap_i64]; omega
  have n1 : ¬ (n : Int) < 0 := by omega
  have n2 : ¬ (281474976710656 < (8 : Int) * n) := by omega
  have h1 := run_make (P := Try.prog) w 81 82 ti (.pointer none) hu hi hz .i64 .i64 (n : Int) (n : Int) (by omega) (by omega) (by rw [hby]; omega) (by omega)
  have hm : madeCells (Value.pointer none).cells (n * 1) = Array.replicate n (.pointer none) := by
    rw [← Array.toList_inj]
    simp only [Nat.mul_one, Array.toList_replicate]
    exact Go.Sx.made_one _ n
  simp only [Int.toNat_natCast, hs, hm] at h1
  refine Prod.ext ?_ ?_
  · simp [go_sem, vI, h1]
  · simp [go_sem, vI, h1]
    simp [Instr.makeSlice, asInt, underlying, typeInfo, hu, hi, hz, hs, hby, wl, n1, n2, newRow, newObj, zeroValue, sizeOf, askRoom, go_sem]
    have hr : ¬ roomBytes < n * 8 := by simp only [roomBytes]; omega
    rw [if_neg hr]
    split <;> rfl
end
end Go.Bt
end
