/- A PLAY OF THE BATON: what the row rests on. -/
import Derived.Conc.TokenTrace
import Derived.Calls
import Derived.Tactics
import Derived.Orders
import Derived.OrdersHeld
import Derived.Still
import Derived.Laws.World
import Derived.Laws.Sem
import Derived.WalkKit
import Derived.Conc.Own
import Derived.Conc.Token
set_option linter.unusedVariables false
set_option linter.unusedSimpArgs false
set_option linter.unusedSectionVars false
section
namespace Go.Bt
open Go.Conc
structure PastB (Still : Nat → Loc → Prop) (Shun : Loc → Prop) (Mem Loose : Nat → Prop) (h : Nat) (t : Trace) : Prop where
  clean : ∀ said, ¬ Race said t
  known : ∀ i a, touchAt t i = some a → a.loc.isMemory = true → Knows t h i ∨ (Shun a.loc ∧ a.kind = .atomic) ∨ (a.write = false ∧ ∃ g, t.g? i = some g ∧ Loose g ∧ Still g a.loc)
  quiet : ∀ i a, touchAt t i = some a → Shun a.loc → a.kind ≠ .plain
  deafs : ∀ i a, touchAt t i = some a → a.loc.isMemory = true → Knows t h i ∨ ¬ t.counts i ∨ (a.write = false ∧ ∃ g, t.g? i = some g ∧ Loose g)
  wrote : ∀ g, Mem g → ∀ i a, touchAt t i = some a → a.write = true → Still g a.loc → Knows t g i
  hears : ∀ g, Mem g → Deaf t g = 0
  still : ∀ g l, Still g l → ¬ Shun l
section
variable {Still : Nat → Loc → Prop} {Shun : Loc → Prop} {Mem Loose : Nat → Prop} {h : Nat} {t u : Trace}
theorem touch_old {i : Nat} {x : MemOp} {a : Touch} (hx : t[i]? = some x) (hxa : x.act.touch? = some a) : touchAt t i = some a := by rw [touchAt_of hx]; exact hxa
theorem PastB.fewer {Mem' : Nat → Prop} (H : PastB Still Shun Mem Loose h t) (hM : ∀ g, Mem' g → Mem g) : PastB Still Shun Mem' Loose h t :=
  ⟨H.clean, H.known, H.quiet, H.deafs, fun g hg => H.wrote g (hM g hg), fun g hg => H.hears g (hM g hg), H.still⟩
theorem PastB.loosen {Loose' : Nat → Prop} (H : PastB Still Shun Mem Loose h t) (hL : ∀ g, Loose g → Loose' g) : PastB Still Shun Mem Loose' h t :=
  ⟨H.clean, fun i a ha hm => (H.known i a ha hm).imp id (Or.imp id fun ⟨x, g, hg, hl, hs⟩ => ⟨x, g, hg, hL g hl, hs⟩), H.quiet, fun i a ha hm => (H.deafs i a ha hm).imp id (Or.imp id fun ⟨x, g, hg, hl⟩ => ⟨x, g, hg, hL g hl⟩), H.wrote, H.hears, H.still⟩
theorem PastB.old_known (H : PastB Still Shun Mem Loose h t) {i : Nat} {a : Touch} {x : MemOp} (hx : t[i]? = some x) (hxa : x.act.touch? = some a) (hm : a.loc.isMemory = true) :
    Knows (t ++ u) h i ∨ (Shun a.loc ∧ a.kind = .atomic) ∨ (a.write = false ∧ ∃ g, (t ++ u).g? i = some g ∧ Loose g ∧ Still g a.loc) :=
  (H.known i a (touch_old hx hxa) hm).imp (Knows.app u) (Or.imp id fun ⟨p, g, hg, hl⟩ => ⟨p, g, by rw [g?_old (lt_size_of_getElem? hx)]; exact hg, hl⟩)
theorem PastB.old_deafs (H : PastB Still Shun Mem Loose h t) {i : Nat} {a : Touch} {x : MemOp} (hx : t[i]? = some x) (hxa : x.act.touch? = some a) (hm : a.loc.isMemory = true) :
    Knows (t ++ u) h i ∨ ¬ (t ++ u).counts i ∨ (a.write = false ∧ ∃ g, (t ++ u).g? i = some g ∧ Loose g) :=
  (H.deafs i a (touch_old hx hxa) hm).imp (Knows.app u) (Or.imp (fun hc => by rwa [counts_old (lt_size_of_getElem? hx)]) fun ⟨p, g, hg, hl⟩ => ⟨p, g, by rw [g?_old (lt_size_of_getElem? hx)]; exact hg, hl⟩)
theorem PastB.old_hears {g : Nat} (H : PastB Still Shun Mem Loose h t) (hu : ∀ op ∈ u, op.g = g) (hd : Mem g → Deaf (t ++ u) g = Deaf t g) : ∀ g', Mem g' → Deaf (t ++ u) g' = 0 := fun g' hg' => by
  by_cases e : g' = g
  · subst e; exact (hd hg').trans (H.hears g' hg')
  · exact (Deaf_other t (fun x => e x.symm) u hu).trans (H.hears g' hg')
/-- Operations that touch nothing, of one goroutine. -/
theorem PastB.appMute {g : Nat} (H : PastB Still Shun Mem Loose h t) (hu : ∀ op ∈ u, op.g = g) (hn : ∀ op ∈ u, op.act.touch? = none) (hd : Mem g → Deaf (t ++ u) g = Deaf t g) : PastB Still Shun Mem Loose h (t ++ u) := by
  have old : ∀ i a, touchAt (t ++ u) i = some a → ∃ x, t[i]? = some x ∧ x.act.touch? = some a := fun i a ha => by
    obtain ⟨x, hx, hxa⟩ := touch_of ha
    rcases getElem?_append_cases hx with ⟨_, hx'⟩ | ⟨_, hxu⟩
    · exact ⟨x, hx', hxa⟩
    · rw [hn x hxu] at hxa; cases hxa
  refine ⟨fun said => noRace_appendMute (H.clean said) hn, fun i a ha hm => ?_, fun i a ha => ?_, fun i a ha hm => ?_, fun g' hg' i a ha hw hS => ?_, H.old_hears hu hd, H.still⟩
  · obtain ⟨x, hx, hxa⟩ := old i a ha; exact H.old_known hx hxa hm
  · obtain ⟨x, hx, hxa⟩ := old i a ha; exact H.quiet i a (touch_old hx hxa)
  · obtain ⟨x, hx, hxa⟩ := old i a ha; exact H.old_deafs hx hxa hm
  · obtain ⟨x, hx, hxa⟩ := old i a ha; exact (H.wrote g' hg' i a (touch_old hx hxa) hw hS).app u
/-- A loose member reads places that are still for it. -/
theorem PastB.appRead {g : Nat} (H : PastB Still Shun Mem Loose h t) (hg : Mem g) (hL : Loose g) (hu : ∀ op ∈ u, op.g = g) (hr : ∀ op ∈ u, ∀ b, op.act.touch? = some b → b.write = false ∧ Still g b.loc) (hd : Deaf (t ++ u) g = Deaf t g) :
    PastB Still Shun Mem Loose h (t ++ u) := by
  refine ⟨fun said => noRace_append (H.clean said) hu fun i a ha op hop b hb hc => ?_, fun i a ha hm => ?_, fun i a ha hs => ?_, fun i a ha hm => ?_, fun g' hg' i a ha hw hS => ?_, H.old_hears hu (fun _ => hd), H.still⟩
  · obtain ⟨hb0, hbS⟩ := hr op hop b hb
    rcases hc.2.2.1 with x | x
    · exact H.wrote g hg i a ha x (hc.1 ▸ hbS)
    · rw [hb0] at x; cases x
  · obtain ⟨x, hx, hxa⟩ := touch_of ha
    rcases getElem?_append_cases hx with ⟨_, hx'⟩ | ⟨_, hxu⟩
    · exact H.old_known hx' hxa hm
    · exact .inr (.inr ⟨(hr x hxu a hxa).1, g, by rw [g?_of hx, hu x hxu], hL, (hr x hxu a hxa).2⟩)
  · obtain ⟨x, hx, hxa⟩ := touch_of ha
    rcases getElem?_append_cases hx with ⟨_, hx'⟩ | ⟨_, hxu⟩
    · exact H.quiet i a (touch_old hx' hxa) hs
    · exact absurd hs (H.still g _ (hr x hxu a hxa).2)
  · obtain ⟨x, hx, hxa⟩ := touch_of ha
    rcases getElem?_append_cases hx with ⟨_, hx'⟩ | ⟨_, hxu⟩
    · exact H.old_deafs hx' hxa hm
    · exact .inr (.inr ⟨(hr x hxu a hxa).1, g, by rw [g?_of hx, hu x hxu], hL⟩)
  · obtain ⟨x, hx, hxa⟩ := touch_of ha
    rcases getElem?_append_cases hx with ⟨_, hx'⟩ | ⟨_, hxu⟩
    · exact (H.wrote g' hg' i a (touch_old hx' hxa) hw hS).app u
    · rw [(hr x hxu a hxa).1] at hw; cases hw
/-- The holder's own operations: no write of a place that is still for a member; of the shunned places no plain touch. -/
theorem PastB.appH (H : PastB Still Shun Mem Loose h t) (hLM : ∀ g, Loose g → Mem g) (hu : ∀ op ∈ u, op.g = h) (hs : ∀ op ∈ u, ∀ b, op.act.touch? = some b → b.write = true → ∀ g, Mem g → ¬ Still g b.loc)
    (hS : ∀ op ∈ u, ∀ b, op.act.touch? = some b → Shun b.loc → b.kind ≠ .plain) (hd : Mem h → Deaf (t ++ u) h = Deaf t h) : PastB Still Shun Mem Loose h (t ++ u) := by
  refine ⟨fun said => noRace_append (H.clean said) hu fun i a ha op hop b hb hc => ?_, fun i a ha hm => ?_, fun i a ha hsh => ?_, fun i a ha hm => ?_, fun g hg i a ha hw hSt => ?_, H.old_hears hu hd, H.still⟩
  · rcases H.known i a ha hc.2.1 with hk | ⟨hsa, hka⟩ | ⟨hw, g, _, hl, hSt⟩
    · exact hk
    · have hkb := hS op hop b hb (hc.1 ▸ hsa)
      obtain ⟨_, _, _, hcase⟩ := hc
      rw [hka] at hcase
      rcases hcase with x | x | ⟨_, x, _⟩
      · cases x
      · exact absurd x hkb
      · cases x
    · rcases hc.2.2.1 with x | x
      · rw [hw] at x; cases x
      · exact absurd (hc.1 ▸ hSt) (hs op hop b hb x g (hLM g hl))
  · obtain ⟨x, hx, hxa⟩ := touch_of ha
    rcases getElem?_append_cases hx with ⟨_, hx'⟩ | ⟨_, hxu⟩
    · exact H.old_known hx' hxa hm
    · have := knows_own hx
      rw [hu x hxu] at this; exact .inl this
  · obtain ⟨x, hx, hxa⟩ := touch_of ha
    rcases getElem?_append_cases hx with ⟨_, hx'⟩ | ⟨_, hxu⟩
    · exact H.quiet i a (touch_old hx' hxa) hsh
    · exact hS x hxu a hxa hsh
  · obtain ⟨x, hx, hxa⟩ := touch_of ha
    rcases getElem?_append_cases hx with ⟨_, hx'⟩ | ⟨_, hxu⟩
    · exact H.old_deafs hx' hxa hm
    · have := knows_own hx
      rw [hu x hxu] at this; exact .inl this
  · obtain ⟨x, hx, hxa⟩ := touch_of ha
    rcases getElem?_append_cases hx with ⟨_, hx'⟩ | ⟨_, hxu⟩
    · exact (H.wrote g hg i a (touch_old hx' hxa) hw hSt).app u
    · exact absurd hSt (hs x hxu a hxa hw g hg)
/-- Somebody without a token touches shunned places, atomically, deaf. -/
theorem PastB.appShun {g : Nat} (H : PastB Still Shun Mem Loose h t) (hu : ∀ op ∈ u, op.g = g) (hg : ¬ Mem g) (hr : ∀ op ∈ u, ∀ b, op.act.touch? = some b → Shun b.loc ∧ b.kind = .atomic)
    (hd : ∀ i x, (t ++ u)[i]? = some x → t.size ≤ i → x.act.touch? ≠ none → ¬ (t ++ u).heard i) : PastB Still Shun Mem Loose h (t ++ u) := by
  refine ⟨fun said => noRace_append (H.clean said) hu fun i a ha op hop b hb hc => ?_, fun i a ha hm => ?_, fun i a ha hsh => ?_, fun i a ha hm => ?_, fun g' hg' i a ha hw hS => ?_, H.old_hears hu (fun h => absurd h hg), H.still⟩
  · obtain ⟨hsb, hkb⟩ := hr op hop b hb
    have hka := H.quiet i a ha (hc.1 ▸ hsb)
    obtain ⟨_, _, _, hcase⟩ := hc
    rw [hkb] at hcase
    rcases hcase with x | x | ⟨_, _, x⟩
    · exact absurd x hka
    · cases x
    · cases x
  · obtain ⟨x, hx, hxa⟩ := touch_of ha
    rcases getElem?_append_cases hx with ⟨_, hx'⟩ | ⟨_, hxu⟩
    · exact H.old_known hx' hxa hm
    · exact .inr (.inl (hr x hxu a hxa))
  · obtain ⟨x, hx, hxa⟩ := touch_of ha
    rcases getElem?_append_cases hx with ⟨_, hx'⟩ | ⟨_, hxu⟩
    · exact H.quiet i a (touch_old hx' hxa) hsh
    · rw [(hr x hxu a hxa).2]; simp
  · obtain ⟨x, hx, hxa⟩ := touch_of ha
    rcases getElem?_append_cases hx with ⟨_, hx'⟩ | ⟨hi, hxu⟩
    · exact H.old_deafs hx' hxa hm
    · refine .inr (.inl fun ⟨y, hy, _, hc⟩ => ?_)
      have e : y = a := by have : touchAt (t ++ u) i = some y := hy; rw [ha] at this; exact (Option.some.inj this).symm
      subst e
      rcases hc with hc | hc
      · exact hc (hr x hxu y hxa).2
      · exact hd i x hx hi (by rw [hxa]; simp) hc
  · obtain ⟨x, hx, hxa⟩ := touch_of ha
    rcases getElem?_append_cases hx with ⟨_, hx'⟩ | ⟨_, hxu⟩
    · exact (H.wrote g' hg' i a (touch_old hx' hxa) hw hS).app u
    · exact absurd (hr x hxu a hxa).1 (H.still g' _ hS)
/-- The holder hears again, or is a member from now on. -/
theorem PastB.member (H : PastB Still Shun Mem Loose h t) (hd : Deaf t h = 0) (hl : ∀ l, Still h l → l.isMemory = true) : PastB Still Shun (fun g => Mem g ∨ g = h) Loose h t := by
  refine ⟨H.clean, H.known, H.quiet, H.deafs, fun g hg i a ha hw hS => ?_, fun g hg => hg.elim (H.hears g) fun e => e ▸ hd, H.still⟩
  rcases hg with hg | rfl
  · exact H.wrote g hg i a ha hw hS
  · rcases H.known i a ha (hl _ hS) with hk | ⟨hs, _⟩ | ⟨hf, _⟩
    · exact hk
    · exact absurd hs (H.still g _ hS)
    · rw [hf] at hw; cases hw
/-- THE TOKEN PASSES. -/
theorem PastB.give {j : Nat} (H : PastB Still Shun Mem Loose h t) (hh : Mem h) (hj : Mem j) (fh : FuncId) (ph : String) (fj : FuncId) (pj : String) {c : Nat} (k cap : Nat) :
    PastB Still Shun Mem (fun g => Loose g ∧ g ≠ j) j (t ++ met h j fh ph fj pj c k cap) := by
  have hn := met_mute h j fh ph fj pj c k cap
  have hq := met_quiet h j fh ph fj pj c k cap
  have e0 : (t ++ met h j fh ph fj pj c k cap)[t.size]? = some { g := h, fn := fh, pos := ph, act := .send c k } := by simp [met]
  have e3 : (t ++ met h j fh ph fj pj c k cap)[t.size + 3]? = some { g := j, fn := fj, pos := pj, act := .recvDone c k } := by simp [met]
  have edge : HappensBefore (t ++ met h j fh ph fj pj c k cap) t.size (t.size + 3) :=
    Relation.TransGen.single (.inr ⟨.handOver (act?_of e0) (act?_of e3), ⟨h, g?_of e0, by rw [deaf_old (Nat.le_refl _)]; exact H.hears h hh⟩, ⟨j, g?_of e3, by rw [deaf_quiet (hq j) 3 (by simp [met])]; exact H.hears j hj⟩⟩)
  have up : ∀ i, Knows t h i → Knows (t ++ met h j fh ph fj pj c k cap) j i := fun i hk => ⟨t.size + 3, _, e3, rfl, .inr ((hk.hb_new (Nat.le_refl _) e0 rfl).trans edge)⟩
  have own : ∀ i x, (t ++ met h j fh ph fj pj c k cap)[i]? = some x → x.g = j → Knows (t ++ met h j fh ph fj pj c k cap) j i := fun i x hx e => by have := knows_own hx; rwa [e] at this
  have old : ∀ i a, touchAt (t ++ met h j fh ph fj pj c k cap) i = some a → ∃ x, (t ++ met h j fh ph fj pj c k cap)[i]? = some x ∧ t[i]? = some x ∧ x.act.touch? = some a := fun i a ha => by
    obtain ⟨x, hx, hxa⟩ := touch_of ha
    rcases getElem?_append_cases hx with ⟨_, hx'⟩ | ⟨_, hxu⟩
    · exact ⟨x, hx, hx', hxa⟩
    · rw [hn x hxu] at hxa; cases hxa
  refine ⟨fun said => noRace_appendMute (H.clean said) hn, fun i a ha hm => ?_, fun i a ha => ?_, fun i a ha hm => ?_, fun g hg i a ha hw hS => ?_, fun g hg => (Deaf_quiet (hq g)).trans (H.hears g hg), H.still⟩
  · obtain ⟨x, hx, hx', hxa⟩ := old i a ha
    have hi := lt_size_of_getElem? hx'
    rcases H.known i a (touch_old hx' hxa) hm with hk | hk | ⟨p, g, hg, hl, hs⟩
    · exact .inl (up i hk)
    · exact .inr (.inl hk)
    · by_cases e : g = j
      · subst e
        exact .inl (own i x hx (by have := g?_of hx'; rw [hg] at this; exact (Option.some.inj this).symm))
      · exact .inr (.inr ⟨p, g, by rw [g?_old hi]; exact hg, ⟨hl, e⟩, hs⟩)
  · obtain ⟨x, _, hx', hxa⟩ := old i a ha; exact H.quiet i a (touch_old hx' hxa)
  · obtain ⟨x, hx, hx', hxa⟩ := old i a ha
    have hi := lt_size_of_getElem? hx'
    rcases H.deafs i a (touch_old hx' hxa) hm with hk | hk | ⟨p, g, hg, hl⟩
    · exact .inl (up i hk)
    · exact .inr (.inl (by rwa [counts_old hi]))
    · by_cases e : g = j
      · subst e
        exact .inl (own i x hx (by have := g?_of hx'; rw [hg] at this; exact (Option.some.inj this).symm))
      · exact .inr (.inr ⟨p, g, by rw [g?_old hi]; exact hg, hl, e⟩)
  · obtain ⟨x, _, hx', hxa⟩ := old i a ha; exact (H.wrote g hg i a (touch_old hx' hxa) hw hS).app _
/-- A go statement of the holder's: the child (number c) knows all that the holder knew. -/
theorem PastB.hire {c : Nat} (H : PastB Still Shun Mem Loose h t) (hh : Mem h) (hc0 : Deaf t c = 0) (hl : ∀ l, Still c l → l.isMemory = true) (fh : FuncId) (ph : String) (fc : FuncId) :
    PastB Still Shun (fun g => Mem g ∨ g = c) (fun g => Loose g ∨ g = c) h (t ++ #[{ g := h, fn := fh, pos := ph, act := .go c }, { g := c, fn := fc, pos := ph, act := .start }]) := by
  generalize hu : (#[{ g := h, fn := fh, pos := ph, act := .go c }, { g := c, fn := fc, pos := ph, act := .start }] : Trace) = u
  have hn : ∀ op ∈ u, op.act.touch? = none := by
    intro op hop
    subst hu
    simp only [List.mem_toArray, List.mem_cons, List.not_mem_nil, or_false] at hop
    rcases hop with rfl | rfl <;> rfl
  have hq : ∀ g, ∀ op ∈ u, ∀ d, deafStep g d op = d := by
    intro g op hop d
    subst hu
    simp only [List.mem_toArray, List.mem_cons, List.not_mem_nil, or_false] at hop
    rcases hop with rfl | rfl <;> rfl
  have e0 : (t ++ u)[t.size]? = some { g := h, fn := fh, pos := ph, act := .go c } := by subst hu; simp
  have e1 : (t ++ u)[t.size + 1]? = some { g := c, fn := fc, pos := ph, act := .start } := by subst hu; simp
  have edge : HappensBefore (t ++ u) t.size (t.size + 1) :=
    Relation.TransGen.single (.inr ⟨.spawn (act?_of e0) (act?_of e1) (g?_of e1), ⟨h, g?_of e0, by rw [deaf_old (Nat.le_refl _)]; exact H.hears h hh⟩, ⟨c, g?_of e1, by rw [deaf_quiet (hq c) 1 (by subst hu; simp)]; exact hc0⟩⟩)
  have old : ∀ i a, touchAt (t ++ u) i = some a → ∃ x, t[i]? = some x ∧ x.act.touch? = some a := fun i a ha => by
    obtain ⟨x, hx, hxa⟩ := touch_of ha
    rcases getElem?_append_cases hx with ⟨_, hx'⟩ | ⟨_, hxu⟩
    · exact ⟨x, hx', hxa⟩
    · rw [hn x hxu] at hxa; cases hxa
  have L := H.loosen (Loose' := fun g => Loose g ∨ g = c) fun _ => .inl
  refine ⟨fun said => noRace_appendMute (H.clean said) hn, fun i a ha hm => ?_, fun i a ha => ?_, fun i a ha hm => ?_, fun g hg i a ha hw hS => ?_, fun g hg => (Deaf_quiet (hq g)).trans (hg.elim (H.hears g) fun e => e ▸ hc0), H.still⟩
  · obtain ⟨x, hx, hxa⟩ := old i a ha; exact L.old_known hx hxa hm
  · obtain ⟨x, hx, hxa⟩ := old i a ha; exact H.quiet i a (touch_old hx hxa)
  · obtain ⟨x, hx, hxa⟩ := old i a ha; exact L.old_deafs hx hxa hm
  · obtain ⟨x, hx, hxa⟩ := old i a ha
    rcases hg with hg | rfl
    · exact (H.wrote g hg i a (touch_old hx hxa) hw hS).app u
    · have hk : Knows t h i := by
        rcases H.known i a (touch_old hx hxa) (hl _ hS) with hk | ⟨hs, _⟩ | ⟨hf, _⟩
        · exact hk
        · exact absurd hs (H.still g _ hS)
        · rw [hf] at hw; cases hw
      exact ⟨t.size + 1, _, e1, rfl, .inr ((hk.hb_new (Nat.le_refl _) e0 rfl).trans edge)⟩
/-- Goroutine 0 holds, nobody is loose: all that counts is handed over. -/
theorem PastB.over (H : PastB Still Shun Mem Loose 0 t) (hL : ∀ g, ¬ Loose g) : t.HandedOver := by
  intro i g hg hne hc
  obtain ⟨x, hx, hm, _⟩ := id hc
  rcases H.deafs i x hx hm with ⟨q, z, hq, hz, hb⟩ | hk | ⟨_, g', _, hl⟩
  · rcases hb with rfl | hb
    · rw [g?_of hq, hz] at hg
      exact absurd (Option.some.inj hg).symm hne
    · exact ⟨q, by rw [g?_of hq, hz], hb⟩
  · exact absurd hc hk
  · exact absurd hl (hL g')
/-- The holder says anew which places are still for it. -/
theorem PastB.restill (H : PastB Still Shun Mem Loose h t) (hnl : ¬ Loose h) {Still' : Nat → Loc → Prop} (hS : ∀ g, g ≠ h → Still' g = Still g) (hl : ∀ l, Still' h l → l.isMemory = true ∧ ¬ Shun l) : PastB Still' Shun Mem Loose h t := by
  refine ⟨H.clean, fun i a ha hm => ?_, H.quiet, H.deafs, fun g hg i a ha hw hs => ?_, H.hears, fun g l hs => ?_⟩
  · rcases H.known i a ha hm with h1 | h1 | ⟨h1, g, h2, h3, h4⟩
    · exact .inl h1
    · exact .inr (.inl h1)
    · have hne : g ≠ h := fun e => hnl (e ▸ h3)
      exact .inr (.inr ⟨h1, g, h2, h3, by rw [hS g hne]; exact h4⟩)
  · by_cases e : g = h
    · subst e
      obtain ⟨h1, h2⟩ := hl _ hs
      rcases H.known i a ha h1 with h3 | ⟨h3, _⟩ | ⟨h3, _⟩
      · exact h3
      · exact absurd h3 h2
      · rw [hw] at h3; cases h3
    · rw [hS g e] at hs; exact H.wrote g hg i a ha hw hs
  · by_cases e : g = h
    · subst e; exact (hl _ hs).2
    · rw [hS g e] at hs; exact H.still g l hs
/-- A place that nobody has touched is still for whoever will. -/
theorem PastB.grow (H : PastB Still Shun Mem Loose h t) {i : Nat} {l₀ : Loc} (hf : ∀ j a, touchAt t j = some a → a.loc ≠ l₀) (hsh : ¬ Shun l₀) {Still' : Nat → Loc → Prop} (hS : ∀ g, g ≠ i → Still' g = Still g) (hi : ∀ l, Still' i l ↔ Still i l ∨ l = l₀) : PastB Still' Shun Mem Loose h t := by
  have up : ∀ g l, Still g l → Still' g l := fun g l hs => by
    by_cases e : g = i
    · subst e; exact (hi l).2 (.inl hs)
    · rw [hS g e]; exact hs
  refine ⟨H.clean, fun j a ha hm => (H.known j a ha hm).imp id (Or.imp id fun ⟨x, g, hg, hl, hs⟩ => ⟨x, g, hg, hl, up _ _ hs⟩), H.quiet, H.deafs, fun g hg j a ha hw hs => ?_, H.hears, fun g l hs => ?_⟩
  · by_cases e : g = i
    · subst e
      rcases (hi _).1 hs with h1 | h1
      · exact H.wrote g hg j a ha hw h1
      · exact absurd h1 (hf j a ha)
    · rw [hS g e] at hs; exact H.wrote g hg j a ha hw hs
  · by_cases e : g = i
    · subst e
      rcases (hi _).1 hs with h1 | h1
      · exact H.still g l h1
      · rw [h1]; exact hsh
    · rw [hS g e] at hs; exact H.still g l hs
/-- What is still for nobody in the ring counts nothing. -/
theorem PastB.still_of (H : PastB Still Shun Mem Loose h t) {Still' : Nat → Loc → Prop} (hLM : ∀ g, Loose g → Mem g) (hS : ∀ g, Mem g → Still' g = Still g) (hl : ∀ g l, Still' g l → ¬ Shun l) : PastB Still' Shun Mem Loose h t :=
  ⟨H.clean, fun j a ha hm => (H.known j a ha hm).imp id (Or.imp id fun ⟨x, g, hg, hL, hs⟩ => ⟨x, g, hg, hL, by rw [hS g (hLM g hL)]; exact hs⟩), H.quiet, H.deafs, fun g hg j a ha hw hs => H.wrote g hg j a ha hw (by rw [hS g hg] at hs; exact hs), H.hears, hl⟩
end
end Go.Bt
end
section
namespace Go
/-- The world in which it all began. -/
class Gnd where
  w0 : World
end Go
namespace Go.Sx
open Go.Conc
variable [Gnd]
/-- An element type whose blocks are the walk's own business. -/
def ord (e : TypeId) : Bool := !(e == 80 || e == 48 || e == 85 || e == 82)
/-- Sealed: a view, or a row of such a type. -/
def spec : Obj → Bool
  | .view _ _ => true
  | .cells _ e _ => !ord e
  | _ => false
/-- The shape of a group's row. -/
def wgc (c : Array Value) : Bool := match c.toList with
  | [.int .u64 _, .int .u32 _] => true
  | _ => false
def isWg : Obj → Bool
  | .cells c e _ => e == 80 && wgc c
  | _ => false
def ordO : Obj → Bool
  | .cells _ e _ => ord e
  | _ => false
def pzo : Obj → Obj
  | .view _ _ => .pending #[] 0
  | .cells c e fz => if e == 80 && wgc c then .cells #[] 80 (0, 0) else if ord e then .cells c e fz else .cells c e (0, c.size)
  | o => o
def pz (w : World) : World := { w with heap := w.heap.map pzo }
theorem spec_of_ordO {o : Obj} (h : ordO o = true) : spec o = false := by
  cases o <;> simp_all [ordO, spec]
theorem pzo_of_spec {o : Obj} (h : spec o = false) : pzo o = o := by
  cases o with
  | view a t => simp [spec] at h
  | cells c e fz =>
    simp only [spec, Bool.not_eq_false'] at h
    have : (e == 80) = false := by
      cases h' : e == 80 with
      | false => rfl
      | true => simp [ord, h'] at h
    simp [pzo, this, h]
  | _ => rfl
theorem spec_of_wg {o : Obj} (h : isWg o = true) : spec o = true := by
  cases o <;> simp_all [isWg, spec, ord]
theorem pz_heap (w : World) (b : Nat) : (pz w).heap[b]? = (w.heap[b]?).map pzo := by simp [pz]
theorem pz_size (w : World) : (pz w).heap.size = w.heap.size := by simp [pz]
@[simp] theorem pz_tape (w : World) : (pz w).tape = w.tape := rfl
@[simp] theorem pz_os (w : World) : (pz w).os = w.os := rfl
@[simp] theorem pz_output (w : World) : (pz w).output = w.output := rfl
@[simp] theorem pz_drawn (w : World) : (pz w).drawn = w.drawn := rfl
theorem pzo_noView (o : Obj) (a : Addr) (t : TypeId) : pzo o ≠ .view a t := by
  cases o <;> simp [pzo]
  split
  · simp
  · split <;> simp
/-- How much there was in the beginning. -/
abbrev n0 : Nat := Gnd.w0.heap.size
/-- THE OTHERS' DOING, as whoever walks sees it. -/
structure Rly (w w₁ : World) : Prop where
  tape : w₁.tape = w.tape
  os : w₁.os = w.os
  output : w₁.output = w.output
  heap : ∀ (b : Nat) (o : Obj), w.heap[b]? = some o → w₁.heap[b]? = some o ∨ (isWg o = true ∧ ∃ o', w₁.heap[b]? = some o' ∧ isWg o' = true ∧ n0 ≤ b)
theorem Rly.refl (w : World) : Rly w w := ⟨rfl, rfl, rfl, fun _ _ h => .inl h⟩
theorem Rly.trans {a b c : World} (h : Rly a b) (k : Rly b c) : Rly a c := ⟨k.tape.trans h.tape, k.os.trans h.os, k.output.trans h.output, fun x o hx => by
  rcases h.heap x o hx with h1 | ⟨hw, o', h1, hw'⟩
  · exact k.heap x o h1
  · rcases k.heap x o' h1 with h2 | ⟨_, o'', h2, hw2⟩
    · exact .inr ⟨hw, o', h2, hw'⟩
    · exact .inr ⟨hw, o'', h2, hw2⟩⟩
theorem Rly.size {w w₁ : World} (h : Rly w w₁) : w.heap.size ≤ w₁.heap.size := by
  rcases Nat.eq_zero_or_pos w.heap.size with h0 | h0
  · omega
  · obtain ⟨o, ho⟩ : ∃ o, w.heap[w.heap.size - 1]? = some o := ⟨w.heap[w.heap.size - 1]'(by omega), Array.getElem?_eq_getElem (by omega)⟩
    have : ∃ o', w₁.heap[w.heap.size - 1]? = some o' := by
      rcases h.heap _ _ ho with h1 | ⟨_, o', h1, _⟩
      · exact ⟨o, h1⟩
      · exact ⟨o', h1⟩
    obtain ⟨o', h'⟩ := this
    have := (Array.getElem?_eq_some_iff.1 h').1
    omega
theorem Rly.at (w : World) (d : Nat) : Rly w { w with drawn := d } := ⟨rfl, rfl, rfl, fun _ _ h => .inl h⟩
/-- .. in the sealed world: draws, and new blocks. -/
structure RV (v v₁ : World) : Prop where
  tape : v₁.tape = v.tape
  os : v₁.os = v.os
  output : v₁.output = v.output
  heap : ∀ (b : Nat) (o : Obj), v.heap[b]? = some o → v₁.heap[b]? = some o
theorem RV.refl (v : World) : RV v v := ⟨rfl, rfl, rfl, fun _ _ h => h⟩
theorem RV.trans {a b c : World} (h : RV a b) (k : RV b c) : RV a c := ⟨k.tape.trans h.tape, k.os.trans h.os, k.output.trans h.output, fun x o hx => k.heap x o (h.heap x o hx)⟩
theorem RV.at (w : World) (d : Nat) : RV w { w with drawn := d } := ⟨rfl, rfl, rfl, fun _ _ h => h⟩
theorem pzo_wg {o : Obj} (h : isWg o = true) : pzo o = .cells #[] 80 (0, 0) := by
  cases o <;> simp_all [isWg, pzo]
theorem Rly.pz {w w₁ : World} (h : Rly w w₁) : RV (pz w) (pz w₁) := ⟨h.tape, h.os, h.output, fun b o hb => by
  rw [pz_heap] at hb ⊢
  obtain ⟨o₀, h0, rfl⟩ := Option.map_eq_some_iff.1 hb
  rcases h.heap b o₀ h0 with h1 | ⟨hw, o', h1, hw'⟩
  · rw [h1]; rfl
  · rw [h1, Option.map_some, pzo_wg hw, pzo_wg hw'.1]⟩
theorem RV.size {v v₁ : World} (h : RV v v₁) : v.heap.size ≤ v₁.heap.size := by
  rcases Nat.eq_zero_or_pos v.heap.size with h0 | h0
  · omega
  · obtain ⟨o, ho⟩ : ∃ o, v.heap[v.heap.size - 1]? = some o := ⟨v.heap[v.heap.size - 1]'(by omega), Array.getElem?_eq_getElem (by omega)⟩
    have := (Array.getElem?_eq_some_iff.1 (h.heap _ _ ho)).1
    omega
/-- No row of cells. -/
def nc : Obj → Bool
  | .cells _ _ _ => false
  | _ => true
theorem nc_of_chan {o : Obj} (h : o.isChan = true) : nc o = true := by
  cases o <;> first | rfl | simp [Obj.isChan] at h
theorem spec_or_nc {o : Obj} (h : ordO o = false) : spec o = true ∨ nc o = true := by
  cases o <;> simp_all [ordO, spec, nc]
/-- Marks that tell nothing of memory, and leave nobody deaf. -/
def okMark : Mark → Bool
  | .disable | .enable | .read _ | .write _ => false
  | _ => true
def GudE (w w' : World) (e : Event) : Prop :=
  (∀ a, e.loc = .cell a → a.block < w'.heap.size ∧ ∀ o, w.heap[a.block]? = some o → isWg o = false ∧ (e.write = true → spec o = false)) ∧ ∀ m, e.loc = .mark m → okMark m = true
structure Gud (w w' : World) (es : Array Event) : Prop where
  tape : w'.tape = w.tape
  os : w'.os = w.os
  output : w'.output = w.output
  size : w.heap.size ≤ w'.heap.size
  keep : ∀ (b : Nat) (o : Obj), w.heap[b]? = some o → spec o = true ∨ nc o = true → w'.heap[b]? = some o
  evs : ∀ e ∈ es, GudE w w' e
theorem GudE.size {w w' w'' : World} {e : Event} (h : GudE w w' e) (hs : w'.heap.size ≤ w''.heap.size) : GudE w w'' e :=
  ⟨fun a ha => ⟨Nat.lt_of_lt_of_le (h.1 a ha).1 hs, (h.1 a ha).2⟩, h.2⟩
theorem Gud.refl (w : World) : Gud w w #[] := ⟨rfl, rfl, rfl, Nat.le_refl _, fun _ _ h _ => h, fun _ h => by simp at h⟩
theorem Gud.at (w : World) (d : Nat) : Gud w { w with drawn := d } #[] := ⟨rfl, rfl, rfl, Nat.le_refl _, fun _ _ h _ => h, fun _ h => by simp at h⟩
/-- What there was in the beginning, and is no ordinary row, stands. -/
structure KS (w : World) : Prop where
  size : n0 ≤ w.heap.size
  keep : ∀ (b : Nat) (o : Obj), Gnd.w0.heap[b]? = some o → ordO o = false → w.heap[b]? = some o
theorem KS.rly {w w₁ : World} (h : KS w) (hr : Rly w w₁) : KS w₁ := ⟨Nat.le_trans h.size hr.size, fun b o hb ho => by
  rcases hr.heap b o (h.keep b o hb ho) with h1 | ⟨_, _, _, _, h2⟩
  · exact h1
  · have := (Array.getElem?_eq_some_iff.1 hb).1
    unfold n0 at h2
    omega⟩
theorem KS.gud {w w₁ : World} {es : Array Event} (h : KS w) (hr : Gud w w₁ es) : KS w₁ := ⟨Nat.le_trans h.size hr.size, fun b o hb ho => hr.keep b o (h.keep b o hb ho) (spec_or_nc ho)⟩
theorem mem_seen {P : Program} {fn : FuncId} {es : Array Event} {e : Event} (h : e ∈ seen P fn es) : e ∈ es := by
  unfold seen at h
  dsimp only at h
  have key : ∀ (l : List Event) (q : Bool) (k : Array Event), e ∈ (l.foldl (init := (q, k)) fun (q, kept) e =>
      match e.loc with
      | .mark (.extern f) => ((P.funcs[f]?).any (·.norace), kept)
      | _ => (q, if q && !e.sync then kept else kept.push e)).2 → e ∈ k ∨ e ∈ l := by
    intro l
    induction l with
    | nil => intro q k h; exact .inl h
    | cons x l ih =>
      intro q k h
      rw [List.foldl_cons] at h
      have h1 := ih _ _ h
      rcases h1 with h1 | h1
      · split at h1
        · exact .inl h1
        · simp only at h1
          split at h1
          · exact .inl h1
          · rcases Array.mem_push.1 h1 with h2 | h2
            · exact .inl h2
            · exact .inr (by rw [h2]; exact .head _)
      · exact .inr (.tail _ h1)
  rw [← Array.foldl_toList] at h
  rcases key es.toList _ _ h with h1 | h1
  · simp at h1
  · exact Array.mem_toList_iff.1 h1
theorem Gud.seen {P : Program} {fn : FuncId} {w w' : World} {es : Array Event} (h : Gud w w' es) : Gud w w' (Go.seen P fn es) :=
  ⟨h.tape, h.os, h.output, h.size, h.keep, fun e he => h.evs e (mem_seen he)⟩
/-- It comes to no value, and to no panic. -/
def _root_.Go.Sem.Dead {α : Type} (P : Program) : Sem α → Prop
  | .pure _ => False
  | .load _ _ k => ∀ v, (k v).Dead P
  | .store _ _ _ k => k.Dead P
  | .new _ k => ∀ r, (k r).Dead P
  | .shape _ k => ∀ x, (k x).Dead P
  | .freeze _ _ k => k.Dead P
  | .frozen _ k => ∀ b, (k b).Dead P
  | .getObj _ k => ∀ o, (k o).Dead P
  | .setObj _ _ k => k.Dead P
  | .choose _ k => ∀ t, (k t).Dead P
  | .sys _ k => ∀ r, (k r).Dead P
  | .program k => (k P).Dead P
  | .mark _ k => k.Dead P
  | .halt h => ∀ v, h ≠ .panic v
/-- Where it comes to a value, or to a panic, it has looked at cells, written cells, made ordinary blocks. -/
def _root_.Go.Sem.Pl {α : Type} (P : Program) : Sem α → Prop
  | .pure _ => True
  | .load _ _ k => ∀ v, (k v).Pl P
  | .store _ _ _ k => k.Pl P
  | .new o k => ordO o = true ∧ ∀ r, (k r).Pl P
  | .shape _ k => ∀ x, (k x).Dead P
  | .freeze _ _ k => k.Dead P
  | .frozen _ k => ∀ b, (k b).Dead P
  | .getObj _ k => ∀ o, (k o).Dead P
  | .setObj _ _ k => k.Dead P
  | .choose _ k => ∀ t, (k t).Pl P
  | .sys _ k => ∀ r, (k r).Dead P
  | .program k => (k P).Pl P
  | .mark m k => okMark m = true ∧ k.Pl P
  | .halt _ => True
def _root_.Go.Result.live {α : Type} : Result α → Prop
  | .ok _ _ => True
  | .halt (.panic _) _ => True
  | _ => False
theorem farLoad_dead {P : Program} {v : World} {a : Addr} {at' : Bool} (hv : ∀ x t, v.heap[a.block]? ≠ some (.view x t)) : ∃ h, v.farLoad P a at' = .error h ∧ ∀ u, h ≠ .panic u := by
  unfold World.farLoad
  split
  · rename_i x t h; exact absurd h (hv x t)
  · refine ⟨_, rfl, fun u => ?_⟩
    unfold World.noCell; split <;> simp
theorem farStore_dead {P : Program} {v : World} {a : Addr} {x : Value} {at' : Bool} (hv : ∀ x t, v.heap[a.block]? ≠ some (.view x t)) : ∃ h, v.farStore P a x at' = .error h ∧ ∀ u, h ≠ .panic u := by
  unfold World.farStore
  split
  · rename_i x t h; exact absurd h (hv x t)
  · refine ⟨_, rfl, fun u => ?_⟩
    unfold World.noCell; split <;> simp
/-- v is w with what was sealed at the beginning (w0) sealed. -/
structure Sim (w0 v w : World) : Prop where
  tape : v.tape = w.tape
  drawn : v.drawn = w.drawn
  os : v.os = w.os
  output : v.output = w.output
  tape0 : w.tape = w0.tape
  os0 : w.os = w0.os
  output0 : w.output = w0.output
  size : v.heap.size = w.heap.size
  grow : w0.heap.size ≤ w.heap.size
  old : ∀ (b : Nat) (o : Obj), w0.heap[b]? = some o → spec o = true → w.heap[b]? = some o ∧ v.heap[b]? = some (pzo o)
  chan : ∀ (b : Nat) (o : Obj), w0.heap[b]? = some o → nc o = true → w.heap[b]? = some o
  oth : ∀ (b : Nat), (∀ (o : Obj), w0.heap[b]? = some o → spec o = false) → v.heap[b]? = w.heap[b]? ∧ ∀ o, w.heap[b]? = some o → spec o = false
theorem Sim.refl (w : World) : Sim w (pz w) w := ⟨rfl, rfl, rfl, rfl, rfl, rfl, rfl, pz_size w, Nat.le_refl _, fun b o h _ => ⟨h, by rw [pz_heap, h]; rfl⟩, fun _ _ h _ => h, fun b h => ⟨by
  rw [pz_heap]
  cases e : w.heap[b]? with
  | none => rfl
  | some o => rw [Option.map_some, pzo_of_spec (h o e)], h⟩⟩
theorem Sim.end {w0 v w : World} (h : Sim w0 v w) : v = pz w := by
  have hh : v.heap = w.heap.map pzo := by
    apply Array.ext_getElem?
    intro b
    rw [Array.getElem?_map]
    by_cases hs : ∀ o, w0.heap[b]? = some o → spec o = false
    · rw [(h.oth b hs).1]
      cases e : w.heap[b]? with
      | none => rfl
      | some o => rw [Option.map_some, pzo_of_spec ((h.oth b hs).2 o e)]
    · simp only [Classical.not_forall] at hs
      obtain ⟨o, ho, hne⟩ := hs
      obtain ⟨h1, h2⟩ := h.old b o ho (by simpa using hne)
      rw [h1, h2]; rfl
  obtain ⟨h1, h2, h3, h4⟩ : v.tape = w.tape ∧ v.drawn = w.drawn ∧ v.os = w.os ∧ v.output = w.output := ⟨h.tape, h.drawn, h.os, h.output⟩
  cases v; cases w
  simp only at h1 h2 h3 h4 hh
  subst h1; subst h2; subst h3; subst h4; subst hh
  rfl
theorem Sim.noView {w0 v w : World} (h : Sim w0 v w) (b : Nat) (x : Addr) (t : TypeId) : v.heap[b]? ≠ some (.view x t) := fun e => by
  by_cases hs : ∀ o, w0.heap[b]? = some o → spec o = false
  · rw [(h.oth b hs).1] at e
    have := (h.oth b hs).2 _ e
    simp [spec] at this
  · simp only [Classical.not_forall] at hs
    obtain ⟨o, ho, hne⟩ := hs
    rw [(h.old b o ho (by simpa using hne)).2, Option.some.injEq] at e
    exact pzo_noView _ _ _ e
/-- A cell that is seen stands so in truth, and is no group's. -/
theorem Sim.cell {w0 v w : World} (h : Sim w0 v w) {a : Addr} {x : Value} (hx : v.cell? a = some x) : w.cell? a = some x ∧ a.block < w.heap.size ∧ ∀ o, w0.heap[a.block]? = some o → isWg o = false := by
  by_cases hs : ∀ o, w0.heap[a.block]? = some o → spec o = false
  · have e := (h.oth a.block hs).1
    have hc : w.cell? a = some x := by
      unfold World.cell? at hx ⊢; rw [← e]; exact hx
    refine ⟨hc, World.block_lt_of_cell? _ _ hc, fun o ho => ?_⟩
    cases hw : isWg o with
    | false => rfl
    | true => have := hs o ho; rw [spec_of_wg hw] at this; cases this
  · simp only [Classical.not_forall] at hs
    obtain ⟨o, ho, hne⟩ := hs
    have hne : spec o = true := by simpa using hne
    obtain ⟨h1, h2⟩ := h.old _ o ho hne
    have hw : isWg o = false := by
      cases hw : isWg o with
      | false => rfl
      | true =>
        unfold World.cell? at hx
        rw [h2, pzo_wg hw] at hx
        simp at hx
    have hc : w.cell? a = some x := by
      unfold World.cell? at hx ⊢
      rw [h2] at hx; rw [h1]
      cases o with
      | view p t => simp [pzo] at hx
      | cells c e fz =>
        simp only [isWg] at hw
        simp only [pzo, hw] at hx
        by_cases ho' : ord e = true
        · simpa [ho'] using hx
        · simpa [ho'] using hx
      | _ => simp [spec] at hne
    exact ⟨hc, World.block_lt_of_cell? _ _ hc, fun o' ho' => by rw [ho] at ho'; obtain rfl := Option.some.inj ho'; exact hw⟩
/-- A cell that may be written is in no sealed block. -/
theorem Sim.free {w0 v w : World} (h : Sim w0 v w) {a : Addr} {x : Value} (hx : v.cell? a = some x) (hf : v.frozen? a = false) : (∀ o, w0.heap[a.block]? = some o → spec o = false) ∧ w.frozen? a = false := by
  by_cases hs : ∀ o, w0.heap[a.block]? = some o → spec o = false
  · refine ⟨hs, ?_⟩
    unfold World.frozen? at hf ⊢; rw [← (h.oth a.block hs).1]; exact hf
  · simp only [Classical.not_forall] at hs
    obtain ⟨o, ho, hne⟩ := hs
    have hne : spec o = true := by simpa using hne
    obtain ⟨h1, h2⟩ := h.old _ o ho hne
    exfalso
    cases o with
    | view p t => unfold World.cell? at hx; rw [h2] at hx; simp [pzo] at hx
    | cells c e fz =>
      simp only [spec, Bool.not_eq_true'] at hne
      unfold World.cell? at hx
      unfold World.frozen? at hf
      rw [h2] at hx hf
      simp only [pzo, hne] at hx hf
      by_cases h80 : (e == 80 && wgc c) = true
      · simp [h80] at hx
      · simp only [h80] at hx hf
        simp only [Bool.false_eq_true, if_false] at hx hf
        cases hsp : a.spot.isSome with
        | true => simp [hsp] at hx
        | false =>
          simp only [hsp, Bool.false_eq_true, if_false] at hx
          have := (Array.getElem?_eq_some_iff.1 hx).1
          simp at hf
          omega
    | _ => simp [spec] at hne
theorem Sim.setCell {w0 v w : World} (h : Sim w0 v w) {a : Addr} (x : Value) (hs : ∀ o, w0.heap[a.block]? = some o → spec o = false) : Sim w0 (v.setCell a x) (w.setCell a x) := by
  have key : ∀ (u : World) (b : Nat), (u.setCell a x).heap[b]? = if a.block = b then (u.heap[b]?).map (fun | .cells c e f => .cells (if a.spot.isSome then c else c.setIfInBounds a.off x) e f | o => o) else u.heap[b]? := fun u b => by
    simp only [World.setCell, Array.getElem?_modify]; rfl
  refine ⟨h.tape, h.drawn, h.os, h.output, h.tape0, h.os0, h.output0, by simpa [World.setCell] using h.size, by simpa [World.setCell] using h.grow, fun b o ho hsp => ?_, fun b o ho hc => ?_, fun b hb => ?_⟩
  · have hne : a.block ≠ b := fun e => by subst e; rw [hs o ho] at hsp; cases hsp
    rw [key, key, if_neg hne, if_neg hne]; exact h.old b o ho hsp
  · rw [key]
    split
    · rename_i e
      rw [h.chan b o ho hc, Option.map_some]
      cases o <;> first | rfl | simp [nc] at hc
    · exact h.chan b o ho hc
  · obtain ⟨h1, h2⟩ := h.oth b hb
    rw [key, key, h1]
    refine ⟨rfl, fun o ho => ?_⟩
    split at ho
    · obtain ⟨o', ho', rfl⟩ := Option.map_eq_some_iff.1 ho
      have := h2 o' ho'
      cases o' <;> exact this
    · exact h2 o ho
theorem Sim.push {w0 v w : World} (h : Sim w0 v w) {o : Obj} (ho : ordO o = true) : Sim w0 { v with heap := v.heap.push o } { w with heap := w.heap.push o } := by
  refine ⟨h.tape, h.drawn, h.os, h.output, h.tape0, h.os0, h.output0, by simpa using h.size, by simp; have := h.grow; omega, fun b x hx hsp => ?_, fun b x hx hc => ?_, fun b hb => ?_⟩
  · obtain ⟨h1, h2⟩ := h.old b x hx hsp
    have l1 := (Array.getElem?_eq_some_iff.1 h1).1
    have l2 := (Array.getElem?_eq_some_iff.1 h2).1
    simp only
    rw [Array.getElem?_push_lt l1, Array.getElem?_push_lt l2]
    exact ⟨by rw [← h1]; exact (Array.getElem?_eq_getElem l1).symm, by rw [← h2]; exact (Array.getElem?_eq_getElem l2).symm⟩
  · have h1 := h.chan b x hx hc
    have l1 := (Array.getElem?_eq_some_iff.1 h1).1
    simp only
    rw [Array.getElem?_push_lt l1, ← h1]; exact (Array.getElem?_eq_getElem l1).symm
  · obtain ⟨h1, h2⟩ := h.oth b hb
    simp only [Array.getElem?_push, h.size]
    split
    · exact ⟨rfl, fun o' e => by rw [Option.some.injEq] at e; subst e; exact spec_of_ordO ho⟩
    · exact ⟨h1, h2⟩
theorem Sim.draw {w0 v w : World} (h : Sim w0 v w) (d : Nat) (hd : d = v.drawn + 1) : Sim w0 { v with drawn := d } { w with drawn := w.drawn + 1 } :=
  ⟨h.tape, by rw [hd, h.drawn], h.os, h.output, h.tape0, h.os0, h.output0, h.size, h.grow, h.old, h.chan, h.oth⟩
theorem store_agg {α : Type} {P : Program} {m : Mode} {a : Addr} {x : Value} {k : Sem α} {w : World} : (Sem.run P (.store m a x k) w).live → x.oneCell' = true := by
  cases x <;> first | (intro _; rfl) | (intro h; simp [Sem.run, Result.live] at h)
theorem run_store' {α : Type} (P : Program) (m : Mode) (a : Addr) (x : Value) (k : Sem α) (w : World) (h : x.oneCell' = true) : Sem.run P (.store m a x k) w = match w.cell? a with
    | some _ => if w.frozen? a then .halt (.unsupported (.unsafePointer "a write to bytes that a string shares")) w else k.run P (w.setCell a x)
    | none => match w.farStore P a x (m == .atomic) with
      | .ok (w, _) => k.run P w
      | .error h => .halt h w := by
  cases x <;> first | rfl | simp [Value.oneCell'] at h
theorem runT_store' {α : Type} (P : Program) (m : Mode) (a : Addr) (x : Value) (k : Sem α) (w : World) (es : Array Event) (h : x.oneCell' = true) : Sem.runT P (.store m a x k) w es = match w.cell? a with
    | some _ => if w.frozen? a then (.halt (.unsupported (.unsafePointer "a write to bytes that a string shares")) w, es) else k.runT P (w.setCell a x) (es.push ⟨.cell a, true, m == .atomic⟩)
    | none => match w.farStore P a x (m == .atomic) with
      | .ok (w, touched) => k.runT P w (es ++ touched.toArray.map (⟨.cell ·, true, m == .atomic⟩))
      | .error h => (.halt h w, es) := by
  cases x <;> first | rfl | simp [Value.oneCell'] at h
theorem dead_run {α : Type} {P : Program} : ∀ (s : Sem α) (w : World), s.Dead P → ¬ (s.run P w).live
  | .pure a, w, h => h.elim
  | .load m a k, w, h => by
    simp only [Sem.run]
    split
    · exact dead_run _ w (h _)
    · split
      · exact dead_run _ w (h _)
      · rename_i e he
        unfold World.farLoad at he
        split at he
        · split at he <;> cases he
          simp [Result.live]
        · cases he
          unfold World.noCell; split <;> simp [Result.live]
  | .store m a x k, w, h => by
    have hk : k.Dead P := h
    intro hl
    have h1 := store_agg hl
    rw [run_store' P m a x k w h1] at hl
    revert hl
    split
    · split
      · simp [Result.live]
      · exact dead_run k _ hk
    · split
      · exact dead_run k _ hk
      · rename_i e he
        unfold World.farStore at he
        split at he
        · split at he <;> cases he
          simp [Result.live]
        · cases he
          unfold World.noCell; split <;> simp [Result.live]
  | .new o k, w, h => by simp only [Sem.run]; exact dead_run _ _ (h _)
  | .shape r k, w, h => by simp only [Sem.run]; exact dead_run _ _ (h _)
  | .freeze a n k, w, h => by simp only [Sem.run]; exact dead_run k _ h
  | .frozen a k, w, h => by simp only [Sem.run]; exact dead_run _ _ (h _)
  | .getObj r k, w, h => by
    simp only [Sem.run]
    split
    · simp [Result.live]
    · exact dead_run _ _ (h _)
    · simp [Result.live]
  | .setObj r o k, w, h => by
    have hk : k.Dead P := h
    simp only [Sem.run]
    split
    · simp [Result.live]
    · exact dead_run k _ hk
    · simp [Result.live]
  | .choose q k, w, h => by
    simp only [Sem.run]
    split
    · exact dead_run _ _ (h _)
    · exact dead_run _ _ (h _)
  | .sys c k, w, h => by simp only [Sem.run]; exact dead_run _ _ (h _)
  | .program k, w, h => by have hk : (k P).Dead P := h; simp only [Sem.run]; exact dead_run _ _ hk
  | .mark m k, w, h => by have hk : k.Dead P := h; simp only [Sem.run]; exact dead_run _ _ hk
  | .halt x, w, h => by
    have hx : ∀ v, x ≠ .panic v := h
    simp only [Sem.run]
    cases x <;> first | exact absurd rfl (hx _) | simp [Result.live]
/-- .. 'runT' by the same. -/
def Rel1 {α : Type} (w0 : World) (r : Result α) (t : Result α × Array Event) : Prop :=
  match r with
  | .ok x v' => ∃ w' es', t = (.ok x w', es') ∧ Sim w0 v' w' ∧ ∀ e ∈ es', GudE w0 w' e
  | .halt h v' => ∃ w' es', t = (.halt h w', es') ∧ Sim w0 v' w' ∧ ∀ e ∈ es', GudE w0 w' e
theorem goodE_push {w0 w w' : World} {es : Array Event} {a : Addr} {wr at' : Bool} (h : ∀ e ∈ es, GudE w0 w e) (hs : w.heap.size ≤ w'.heap.size) (hb : a.block < w'.heap.size) (hw : ∀ o, w0.heap[a.block]? = some o → isWg o = false ∧ (wr = true → spec o = false)) :
    ∀ e ∈ es.push ⟨.cell a, wr, at'⟩, GudE w0 w' e := fun e he => by
  rcases Array.mem_push.1 he with h1 | rfl
  · exact (h e h1).size hs
  · exact ⟨fun a' e' => by simp only [Loc.cell.injEq] at e'; subst e'; exact ⟨hb, hw⟩, fun m hm => by simp at hm⟩
theorem pl_run {α : Type} {P : Program} {w0 : World} : ∀ (s : Sem α) (v w : World) (es : Array Event), s.Pl P → Sim w0 v w → (∀ e ∈ es, GudE w0 w e) → (s.run P v).live → Rel1 w0 (s.run P v) (s.runT P w es)
  | .pure a, v, w, es, _, hS, he, _ => ⟨w, es, rfl, hS, he⟩
  | .load m a k, v, w, es, h, hS, he, hl => by
    simp only [Sem.run, Sem.runT] at hl ⊢
    cases hc : v.cell? a with
    | none =>
      obtain ⟨x, hx, hnp⟩ := farLoad_dead (P := P) (at' := m == .atomic) (hS.noView a.block)
      rw [hc, hx] at hl
      cases x <;> first | exact absurd rfl (hnp _) | exact hl.elim
    | some x =>
      rw [hc] at hl
      obtain ⟨h1, h2, h3⟩ := hS.cell hc
      rw [h1]
      exact pl_run _ v w _ (h x) hS (goodE_push he (Nat.le_refl _) h2 fun o ho => ⟨h3 o ho, fun e => by cases e⟩) hl
  | .store m a x k, v, w, es, h, hS, he, hl => by
    have hk : k.Pl P := h
    have h1 := store_agg hl
    rw [run_store' P m a x k v h1] at hl ⊢
    rw [runT_store' P m a x k w es h1]
    cases hc : v.cell? a with
    | none =>
      obtain ⟨y, hy, hnp⟩ := farStore_dead (P := P) (x := x) (at' := m == .atomic) (hS.noView a.block)
      rw [hc, hy] at hl
      cases y <;> first | exact absurd rfl (hnp _) | exact hl.elim
    | some y =>
      rw [hc] at hl
      obtain ⟨h2, h3, _⟩ := hS.cell hc
      cases hf : v.frozen? a with
      | true => simp [hf, Result.live] at hl
      | false =>
        obtain ⟨h4, h5⟩ := hS.free hc hf
        simp only [hf, Bool.false_eq_true, if_false] at hl
        simp only [h2, h5, hf, Bool.false_eq_true, if_false]
        refine pl_run k _ _ _ hk (hS.setCell x h4) (goodE_push he (by simp [World.setCell]) (by simpa [World.setCell] using h3) fun o ho => ⟨?_, fun _ => h4 o ho⟩) hl
        cases hw : isWg o with
        | false => rfl
        | true => have := h4 o ho; rw [spec_of_wg hw] at this; cases this
  | .new o k, v, w, es, h, hS, he, hl => by
    simp only [Sem.run, Sem.runT] at hl ⊢
    rw [hS.size] at hl ⊢
    exact pl_run _ _ _ _ (h.2 _) (hS.push h.1) (fun e he' => (he e he').size (by simp)) hl
  | .shape r k, v, w, es, h, hS, he, hl => by simp only [Sem.run] at hl; exact absurd hl (dead_run _ _ (h _))
  | .freeze a n k, v, w, es, h, hS, he, hl => by simp only [Sem.run] at hl; exact absurd hl (dead_run k _ h)
  | .frozen a k, v, w, es, h, hS, he, hl => by simp only [Sem.run] at hl; exact absurd hl (dead_run _ _ (h _))
  | .getObj r k, v, w, es, h, hS, he, hl => by
    simp only [Sem.run] at hl
    split at hl
    · exact hl.elim
    · exact absurd hl (dead_run _ _ (h _))
    · exact hl.elim
  | .setObj r o k, v, w, es, h, hS, he, hl => by
    have hk : k.Dead P := h
    simp only [Sem.run] at hl
    split at hl
    · exact hl.elim
    · exact absurd hl (dead_run k _ hk)
    · exact hl.elim
  | .choose q k, v, w, es, h, hS, he, hl => by
    simp only [Sem.run, Sem.runT] at hl ⊢
    by_cases hq : q.forced
    · simp only [hq, if_true] at hl ⊢
      exact pl_run _ _ _ _ (h _) hS he hl
    · simp only [hq, if_false, Bool.false_eq_true] at hl ⊢
      rw [show q.cut (w.tape w.drawn q) = q.cut (v.tape v.drawn q) by rw [hS.tape, hS.drawn]]
      exact pl_run _ _ _ _ (h _) (hS.draw (v.drawn + 1) rfl) he hl
  | .sys c k, v, w, es, h, hS, he, hl => by simp only [Sem.run] at hl; exact absurd hl (dead_run _ _ (h _))
  | .program k, v, w, es, h, hS, he, hl => by
    have hk : (k P).Pl P := h
    simp only [Sem.run, Sem.runT] at hl ⊢
    exact pl_run _ _ _ _ hk hS he hl
  | .mark m k, v, w, es, h, hS, he, hl => by
    obtain ⟨h1, hk⟩ : okMark m = true ∧ k.Pl P := h
    simp only [Sem.run, Sem.runT] at hl ⊢
    refine pl_run k _ _ _ hk hS (fun e he' => ?_) hl
    rcases Array.mem_push.1 he' with h3 | rfl
    · exact he e h3
    · exact ⟨fun a e => by simp at e, fun m' e => by simp at e; rw [← e]; exact h1⟩
  | .halt x, v, w, es, h, hS, he, _ => ⟨w, es, rfl, hS, he⟩
theorem Sim.good {w0 v w : World} {es : Array Event} (h : Sim w0 v w) (he : ∀ e ∈ es, GudE w0 w e) : Gud w0 w es :=
  ⟨h.tape0, h.os0, h.output0, h.grow, fun b o ho hs => by
    rcases hs with hs | hs
    · exact (h.old b o ho hs).1
    · exact h.chan b o ho hs, he⟩
/-- THE BRIDGE: what an operation does in the sealed world it does in the world itself, and touches nothing that is sealed. -/
theorem pl_ok {α : Type} {P : Program} {s : Sem α} (h : s.Pl P) {w v' : World} {x : α} (hr : s.run P (pz w) = .ok x v') : ∃ w' es, s.runT P w #[] = (.ok x w', es) ∧ pz w' = v' ∧ Gud w w' es := by
  have := pl_run (w0 := w) s (pz w) w #[] h (Sim.refl w) (fun e he => by simp at he) (by rw [hr]; trivial)
  rw [hr] at this
  obtain ⟨w', es, h1, h2, h3⟩ := this
  exact ⟨w', es, h1, h2.end.symm, h2.good h3⟩
theorem pl_panic {α : Type} {P : Program} {s : Sem α} (h : s.Pl P) {w v' : World} {x : Value} (hr : s.run P (pz w) = .halt (.panic x) v') : ∃ w' es, s.runT P w #[] = (.halt (.panic x) w', es) ∧ pz w' = v' ∧ Gud w w' es := by
  have := pl_run (w0 := w) s (pz w) w #[] h (Sim.refl w) (fun e he => by simp at he) (by rw [hr]; trivial)
  rw [hr] at this
  obtain ⟨w', es, h1, h2, h3⟩ := this
  exact ⟨w', es, h1, h2.end.symm, h2.good h3⟩
theorem pl_ok_same {α : Type} {P : Program} {s : Sem α} (h : s.Pl P) {w : World} {x : α} (hr : s.run P (pz w) = .ok x (pz w)) : ∃ es, s.runT P w #[] = (.ok x w, es) ∧ Gud w w es := by
  have := pl_run (w0 := w) s (pz w) w #[] h (Sim.refl w) (fun e he => by simp at he) (by rw [hr]; trivial)
  rw [hr] at this
  obtain ⟨w', es, h1, h2, h3⟩ := this
  have hw : w' = w := by
    have hh : w'.heap = w.heap := by
      apply Array.ext_getElem?
      intro b
      by_cases hs : ∀ o, w.heap[b]? = some o → spec o = false
      · rw [← (h2.oth b hs).1, pz_heap]
        cases e : w.heap[b]? with
        | none => rfl
        | some o => rw [Option.map_some, pzo_of_spec (hs o e)]
      · simp only [Classical.not_forall] at hs
        obtain ⟨o, ho, hne⟩ := hs
        rw [(h2.old b o ho (by simpa using hne)).1, ho]
    have h5 : w'.drawn = w.drawn := h2.drawn.symm
    have h6 := h2.tape0; have h7 := h2.os0; have h8 := h2.output0
    cases w; cases w'
    simp only at hh h5 h6 h7 h8
    subst hh; subst h5; subst h6; subst h7; subst h8; rfl
  subst hw
  exact ⟨es, h1, h2.good h3⟩
end Go.Sx
end
section
namespace Go.Bt
variable [Gnd]
open Go.Conc
open Go.Sx (Rly spec isWg Gud)
open Go.ConcN (sumTo upd sumTo_upd upd_ne upd_same sumTo_congr)
def KK : Int := 4294967296
def stA (Wg : Nat) : Addr := ⟨Wg, 0, none⟩
def rdA (a : Addr) : Event := ⟨.cell a, false, true⟩
def wrA (a : Addr) : Event := ⟨.cell a, true, true⟩
def WgS (Wg : Nat) (w : World) (st : Int) : Prop := w.heap[Wg]? = some (.cells #[.int .u64 st, .int .u32 0] 80)
theorem WgS.set {Wg : Nat} {w : World} {st st' : Int} (h : WgS Wg w st) : WgS Wg (w.setCell (stA Wg) (.int .u64 st')) st' := by
  unfold WgS at *
  simp only [World.setCell, stA]
  rw [Array.getElem?_modify, if_pos rfl, h]; rfl
/-- A value that fits in a group's cell. -/
def WgV (k : Nat) (v : Value) : Prop := (k = 0 ∧ ∃ x, v = .int .u64 x) ∨ (k = 1 ∧ ∃ x, v = .int .u32 x)
theorem rly_cell {Wg : Nat} {w : World} {st : Int} (hl : Go.Sx.n0 ≤ Wg) (h : WgS Wg w st) (k : Nat) (v : Value) (hv : WgV k v := by first | exact .inl ⟨rfl, _, rfl⟩ | exact .inr ⟨rfl, _, rfl⟩) : Rly w (w.setCell ⟨Wg, k, none⟩ v) :=
  ⟨rfl, rfl, rfl, fun b o hb => by
    simp only [World.setCell]; rw [Array.getElem?_modify]
    by_cases e : Wg = b
    · subst e
      rw [if_pos rfl]
      rw [h] at hb; obtain rfl := Option.some.inj hb
      refine .inr ⟨rfl, _, by rw [h]; rfl, ?_⟩
      rcases hv with ⟨rfl, x, rfl⟩ | ⟨rfl, x, rfl⟩ <;> exact ⟨rfl, hl⟩
    · rw [if_neg e]; exact .inl hb⟩
/-- What certain cells hold that stay as they are. -/
abbrev Stl := List (Addr × Value)
def StC (L : Stl) (w : World) : Prop := ∀ x ∈ L, w.cell? x.1 = some x.2
def StL (L : Stl) : Loc → Prop := fun l => ∃ x ∈ L, l = .cell x.1
/-- They lie in sealed blocks, and in no group's. -/
def StP (L : Stl) (w : World) : Prop := ∀ x ∈ L, ∃ o, w.heap[x.1.block]? = some o ∧ spec o = true ∧ isWg o = false
theorem StP.rly {L : Stl} {w w' : World} (h : StP L w) (hr : Rly w w') : StP L w' := fun x hx => by
  obtain ⟨o, h1, h2, h3⟩ := h x hx
  rcases hr.heap _ _ h1 with h4 | ⟨h4, _⟩
  · exact ⟨o, h4, h2, h3⟩
  · rw [h3] at h4; cases h4
theorem StC.rly {L : Stl} {w w' : World} (h : StC L w) (hp : StP L w) (hr : Rly w w') : StC L w' := fun x hx => by
  obtain ⟨o, h1, h2, h3⟩ := hp x hx
  rcases hr.heap _ _ h1 with h4 | ⟨h4, _⟩
  · have := h x hx
    unfold World.cell? at this ⊢
    rw [h1] at this; rw [h4]; exact this
  · rw [h3] at h4; cases h4
theorem StC.at {L : Stl} {w : World} (h : StC L w) (d : Nat) : StC L (w.at d) := h
theorem StP.at {L : Stl} {w : World} (h : StP L w) (d : Nat) : StP L (w.at d) := h
/-- What somebody without the token is. -/
inductive Role where
  | seat (c : Nat) (z : Value) (home : Goroutine → Prop) (L : Stl)
  | born (c : Nat) (z : Value) (home : Nat → Goroutine → Prop) (L : Stl) (v : Value)
  | quit
  | don
def Role.isSeat : Role → Prop
  | .seat .. => True
  | .born .. => True
  | _ => False
def Role.dn : Role → Nat
  | .don => 1
  | _ => 0
def Role.st : Role → Stl
  | .seat _ _ _ L => L
  | .born _ _ _ L _ => L
  | _ => []
def Role.ch : Role → Option Nat
  | .seat c .. => some c
  | .born c .. => some c
  | _ => none
def bx (b : Nat) : Addr := ⟨b, 0, none⟩
/-- What is known of the record that stands at the seat's receive, and which cells stay as they are. -/
def Role.serves : Role → Stl → Goroutine → Prop
  | .seat _ _ home L, L', g => L' = L ∧ home g
  | .born _ _ home L v, L', g => ∃ b, L' = (bx b, v) :: L ∧ home b g
  | _, _, _ => False
/-- How a role may turn while its goroutine has no token. -/
inductive Evo : Role → Role → Prop
  | refl (r : Role) : Evo r r
  | box (c : Nat) (z : Value) (home : Nat → Goroutine → Prop) (L : Stl) (v : Value) (b : Nat) : Evo (.born c z home L v) (.seat c z (home b) ((bx b, v) :: L))
  | done : Evo .don .quit
theorem Evo.trans {a b c : Role} (h : Evo a b) (k : Evo b c) : Evo a c := by
  cases h with
  | refl => exact k
  | box => cases k; exact .box _ _ _ _ _ _
  | done => cases k; exact .done
theorem Evo.isSeat {a b : Role} (h : Evo a b) : b.isSeat ↔ a.isSeat := by cases h <;> exact Iff.rfl
theorem Evo.ch {a b : Role} (h : Evo a b) : b.ch = a.ch := by cases h <;> rfl
theorem Evo.serves {a b : Role} (h : Evo a b) {L : Stl} {g : Goroutine} (hs : b.serves L g) : a.serves L g := by
  cases h with
  | refl => exact hs
  | box c z home L₀ v b => exact ⟨b, hs.1, hs.2⟩
  | done => exact hs.elim
theorem Role.isSeat_ch {r : Role} : r.isSeat ↔ ∃ c, r.ch = some c := by cases r <;> simp [Role.isSeat, Role.ch]
/-- Whoever sat sits as before, or has come on its way. -/
def Same (role role' : Nat → Role) : Prop := ∀ x, Evo (role x) (role' x)
theorem Same.refl (role : Nat → Role) : Same role role := fun _ => .refl _
theorem Same.trans {a b c : Nat → Role} (h : Same a b) (k : Same b c) : Same a c := fun x => (h x).trans (k x)
theorem Same.upd {role : Nat → Role} {i : Nat} {r' : Role} (h : Evo (role i) r') : Same role (upd role i r') := fun x => by
  by_cases e : x = i
  · subst e; rw [upd_same]; exact h
  · rw [upd_ne role r' e]; exact .refl _
/-- On its way through a Done: marks; then the atomic Add; then it leaves (or wakes the waiter: 'Wk'). -/
def Don (P : Program) (Wg : Nat) (Wk : Nat → Nat → Goroutine → Prop) : Nat → Nat → Goroutine → Prop
  | 0, _, _ => False
  | n + 1, d, g => g.status = .running ∧
    ((∀ w st, WgS Wg w st → ∃ g' es, (∀ e ∈ es, (MemAct.ofEvent e).touch? = none) ∧ stepG P false g w = .go g' w es ∧ Don P Wg Wk n (deafBehind d es) g') ∨
     (0 < d ∧ ∀ (w : World) (v wt : Nat), wt ≤ 1 → v < 2147483647 → WgS Wg w (((v + 1 : Nat) : Int) * KK + wt) →
        ∃ g', stepG P false g w = .go g' (w.setCell (stA Wg) (.int .u64 ((v : Int) * KK + wt))) #[rdA (stA Wg), wrA (stA Wg)] ∧ (¬ (v = 0 ∧ wt = 1) → QuitsD P n d g') ∧ (v = 0 ∧ wt = 1 → Wk n d g')))
theorem Don.running {P : Program} {Wg : Nat} {Wk : Nat → Nat → Goroutine → Prop} {n d : Nat} {g : Goroutine} (h : Don P Wg Wk n d g) : g.status = .running := by
  cases n with
  | zero => exact h.elim
  | succ n => exact h.1
/-- Newly hired: some steps that touch nothing; one block of its own; then on its way to its seat. -/
def Born (P : Program) (c : Nat) (z : Value) (home : Nat → Goroutine → Prop) (L : Stl) (v : Value) : Nat → Goroutine → Prop
  | 0, _ => False
  | n + 1, g => g.status = .running ∧
    ((∃ g', (∀ w, stepG P false g w = .go g' w #[]) ∧ Born P c z home L v n g') ∨
     (∃ g' : Nat → Goroutine, (∀ w, stepG P false g w = .go (g' w.heap.size) { w with heap := w.heap.push (.cells #[v] 82) } #[]) ∧
        ∀ b, ∃ B k, 0 < k ∧ k ≤ n ∧ Sits P false (StC ((bx b, v) :: L)) (StL ((bx b, v) :: L)) B (Seat.one c z false (home b)) k (g' b)))
theorem Born.running {P : Program} {c : Nat} {z : Value} {home : Nat → Goroutine → Prop} {L : Stl} {v : Value} {n : Nat} {g : Goroutine} (h : Born P c z home L v n g) : g.status = .running := by
  cases n with
  | zero => exact h.elim
  | succ n => exact h.1
structure Par where
  P : Program
  Shun : Loc → Prop
  Ch : Nat → Prop
  Wg : Nat
  Wk : Nat → Nat → Goroutine → Prop
  X : Addr → Prop
  wl : Go.Sx.n0 ≤ Wg
def Idle (p : Par) (T : Trace) (i n : Nat) (g : Goroutine) : Role → Prop
  | .seat c z home L => ∃ B, Sits p.P (i == 0) (StC L) (StL L) B (Seat.one c z false home) n g
  | .born c z home L v => 0 < i ∧ Born p.P c z home L v n g
  | .quit => 0 < i ∧ QuitsD p.P n (Deaf T i) g
  | .don => 0 < i ∧ Don p.P p.Wg p.Wk n (Deaf T i) g
theorem Idle.other {p : Par} {T u : Trace} {i i' n : Nat} {g : Goroutine} {r : Role} (h : Idle p T i n g r) (hne : i' ≠ i) (hu : ∀ op ∈ u, op.g = i') : Idle p (T ++ u) i n g r := by
  cases r with
  | seat c z home L => exact h
  | born c z home L v => exact h
  | quit => exact ⟨h.1, by rw [Deaf_other T hne u hu]; exact h.2⟩
  | don => exact ⟨h.1, by rw [Deaf_other T hne u hu]; exact h.2⟩
/-- The places that are still for a goroutine. -/
def Stil (role : Nat → Role) : Nat → Loc → Prop := fun g => StL (role g).st
def Mems (role : Nat → Role) (h : Nat) (hm : Bool) : Nat → Prop := fun i => (role i).isSeat ∨ (i = h ∧ hm = true)
/-- THE FRAME: h holds (or is about to hand over); e: those of the group that are neither through nor on their way through a Done. -/
structure Fr (p : Par) (role : Nat → Role) (h e : Nat) (hm : Bool) (T : Trace) (gs : Array Goroutine) (w : World) (q : Nat → Nat) : Prop where
  idle : ∀ i g, i ≠ h → gs[i]? = some g → Idle p T i (q i) g (role i)
  rh : role h = .quit
  out : ∀ i, gs.size ≤ i → role i = .quit
  seats : ∀ i c, (role i).ch = some c → p.Ch c
  inj : ∀ i j c, (role i).ch = some c → (role j).ch = some c → i = j
  chans : ∀ c, p.Ch c → ∃ k, w.heap[c]? = some (.chan 0 #[] false k k false)
  above : ∀ j, gs.size ≤ j → Deaf T j = 0
  past : PastB (Stil role) p.Shun (Mems role h hm) (fun i => (role i).isSeat) h T
  keep : ∀ i, StC (role i).st w
  pro : ∀ i, StP (role i).st w
  wg : WgS p.Wg w (((sumTo gs.size (fun i => (role i).dn) + e : Nat) : Int) * KK)
  few : sumTo gs.size (fun i => (role i).dn) + e < 2147483647
  low : ∀ i a ad, touchAt T i = some a → a.loc = .cell ad → ad.block < w.heap.size
  shw : ∀ ad, p.Shun (.cell ad) → ∃ o, w.heap[ad.block]? = some o ∧ isWg o = true
  shc : ∀ l, (∀ ad, l ≠ .cell ad) → ¬ p.Shun l
  nox : ∀ i, ∀ x ∈ (role i).st, ¬ p.X x.1
  xlow : ∀ ad, p.X ad → ad.block < w.heap.size
theorem low_app {t u : Trace} {n n' : Nat} (h : ∀ i a ad, touchAt t i = some a → a.loc = .cell ad → ad.block < n) (hn : n ≤ n') (hu : ∀ op ∈ u, ∀ b, op.act.touch? = some b → ∀ ad, b.loc = .cell ad → ad.block < n') :
    ∀ i a ad, touchAt (t ++ u) i = some a → a.loc = .cell ad → ad.block < n' := fun i a ad ha hl => by
  obtain ⟨x, hx, hxa⟩ := touch_of ha
  rcases getElem?_append_cases hx with ⟨_, hx'⟩ | ⟨_, hxu⟩
  · exact Nat.lt_of_lt_of_le (h i a ad (touch_old hx' hxa) hl) hn
  · exact hu x hxu a hxa ad hl
section
variable {p : Par} {role : Nat → Role} {h e : Nat} {hm : Bool} {T : Trace} {gs : Array Goroutine} {w : World} {q : Nat → Nat}
theorem Fr.stilNot (C : Fr p role h e hm T gs w q) {g : Nat} {l : Loc} (hl : Stil role g l) : l.isMemory = true ∧ ¬ p.Shun l := by
  obtain ⟨x, hx, rfl⟩ := hl
  refine ⟨rfl, fun hs => ?_⟩
  obtain ⟨o, h1, h2⟩ := C.shw _ hs
  obtain ⟨o', h3, _, h5⟩ := C.pro g x hx
  rw [h1] at h3; obtain rfl := Option.some.inj h3
  rw [h2] at h5; cases h5
theorem Fr.wgne (C : Fr p role h e hm T gs w q) {c : Nat} (hc : p.Ch c) : c ≠ p.Wg := fun ec => by
  obtain ⟨k, hk⟩ := C.chans c hc
  have := C.wg
  rw [WgS, ← ec, hk] at this; cases this
theorem Fr.status (C : Fr p role h e hm T gs w q) {x : Nat} {y : Goroutine} (hx : x ≠ h) (hy : gs[x]? = some y) : y.status = .running ∨ y.status = .finished ∨ (y.status = .blocked ∧ ∃ c z a L g₂, role x = .seat c z a L ∧ y = parked g₂ #[rcase c z] (.recv false)) := by
  have hi := C.idle x y hx hy
  have hk := C.keep x
  cases er : role x with
  | seat c z a L =>
    rw [er] at hi hk
    obtain ⟨B, hs⟩ := hi
    rcases Sits.status hk hs with ⟨hr, _⟩ | ⟨hb, hn⟩
    · exact .inl hr
    · rcases hs with ⟨k, _, hk, _⟩ | ⟨_, _, g₂, rfl, _⟩
      · omega
      · exact .inr (.inr ⟨hb, c, z, a, L, g₂, rfl, rfl⟩)
  | born c z a L v => rw [er] at hi; exact .inl hi.2.running
  | quit => rw [er] at hi; exact hi.2.status.elim .inl fun x => .inr (.inl x)
  | don => rw [er] at hi; exact .inl hi.2.running
/-- Nobody without the token is unseated by what another does. -/
theorem Fr.fixed (C : Fr p role h e hm T gs w q) {x : Nat} {y : Goroutine} (hx : x ≠ h) (hy : gs[x]? = some y) {w' : World} (hw : ∀ c, p.Ch c → ∃ cap buf s r tm, w'.heap[c]? = some (.chan cap buf false s r tm)) : y.again w' = y := by
  rcases C.status hx hy with hr | hf | ⟨_, c, z, a, L, g₂, er, rfl⟩
  · exact again_of_running (.inl hr) w'
  · exact again_of_running (.inr hf) w'
  · obtain ⟨cap, buf, s, r, tm, hc⟩ := hw c (C.seats x c (by rw [er]; rfl))
    exact again_recv_open hc
theorem Fr.noSend (C : Fr p role h e hm T gs w q) {x : Nat} {y : Goroutine} (hx : x ≠ h) (hy : gs[x]? = some y) (c : Nat) : offersAt y c true = [] := by
  rcases C.status hx hy with hr | hf | ⟨_, c', z, a, L, g₂, _, rfl⟩
  · exact offersAt_of_not_blocked (by rw [hr]; simp) c true
  · exact offersAt_of_not_blocked (by rw [hf]; simp) c true
  · exact offersAt_parked_recv' _ _ _ _ _
theorem Fr.noRecv (C : Fr p role h e hm T gs w q) {x : Nat} {y : Goroutine} (hx : x ≠ h) (hy : gs[x]? = some y) {c : Nat} (hc : (role x).ch ≠ some c) : offersAt y c false = [] := by
  rcases C.status hx hy with hr | hf | ⟨_, c', z, a, L, g₂, er, rfl⟩
  · exact offersAt_of_not_blocked (by rw [hr]; simp) c false
  · exact offersAt_of_not_blocked (by rw [hf]; simp) c false
  · rw [offersAt_parked_recv, if_neg (fun ec => hc (by rw [er, ec]; rfl))]
theorem Fr.awake (C : Fr p role h e hm T gs w q) {a : Goroutine} (ha : gs[h]? = some a) (hs : a.status = .running ∨ a.status = .blocked) : ∀ g ∈ gs, awake g := by
  intro g hg
  obtain ⟨i, hi, rfl⟩ := Array.mem_iff_getElem.1 hg
  by_cases ei : i = h
  · subst ei
    have : gs[i] = a := by simpa [Array.getElem?_eq_getElem hi] using ha
    rw [this]; exact awake_of (hs.elim .inl fun x => .inr (.inl x))
  · rcases C.status ei (Array.getElem?_eq_getElem hi) with hr | hf | ⟨hb, _⟩
    · exact awake_of (.inl hr)
    · exact awake_of (.inr (.inr hf))
    · exact awake_of (.inr (.inl hb))
theorem Fr.at (C : Fr p role h e hm T gs w q) (d : Nat) : Fr p role h e hm T gs (w.at d) q :=
  ⟨C.idle, C.rh, C.out, C.seats, C.inj, C.chans, C.above, C.past, C.keep, C.pro, C.wg, C.few, C.low, C.shw, C.shc, C.nox, C.xlow⟩
theorem upd_self {α : Type} (f : Nat → α) (i : Nat) : upd f i (f i) = f := by
  funext x; by_cases e : x = i
  · subst e; exact upd_same f x _
  · exact upd_ne f _ e
theorem sum_dn (role : Nat → Role) (i n : Nat) (hi : i < n) (hd : role i = .don) : sumTo n (fun x => (upd role i .quit x).dn) + 1 = sumTo n (fun x => (role x).dn) := by
  have := sumTo_upd role Role.quit Role.dn hi
  rw [hd] at this
  simpa [Role.dn] using this
theorem sum_dn_same (role : Nat → Role) (i n : Nat) (r' : Role) (hd : r'.dn = (role i).dn) : sumTo n (fun x => (upd role i r' x).dn) = sumTo n (fun x => (role x).dn) := by
  refine sumTo_congr fun x _ => ?_
  by_cases e : x = i
  · subst e; rw [upd_same, hd]
  · rw [upd_ne role r' e]
theorem sum_dn_le (role : Nat → Role) (n : Nat) : sumTo n (fun x => (role x).dn) ≤ n := by
  have := Go.ConcN.sumTo_le (f := fun x => (role x).dn) (c := 1) (j := n) (fun x _ => by cases role x <;> simp [Role.dn])
  omega
/-- Who is not moved, of one whose own role turned. -/
theorem idle_put {T' : Trace} {i n' : Nat} {g' : Goroutine} {gs' : Array Goroutine} {r' : Role} {ops : Array MemOp} (C : Fr p role h e hm T gs w q) (hT : T' = T ++ ops) (hother : ∀ x, x ≠ i → gs'[x]? = gs[x]?) (hself : gs'[i]? = some g') (hops : ∀ op ∈ ops, op.g = i) (hidle : Idle p T' i n' g' r') :
    ∀ x y, x ≠ h → gs'[x]? = some y → Idle p T' x (upd q i n' x) y (upd role i r' x) := fun x y hx hy => by
  by_cases ex : x = i
  · subst ex
    rw [hself] at hy
    obtain rfl := Option.some.inj hy
    rw [upd_same, upd_same]; exact hidle
  · rw [hother x ex] at hy
    rw [upd_ne q n' ex, upd_ne role r' ex]
    subst hT
    exact (C.idle x y hx hy).other (fun z => ex z.symm) hops
/-- One record of somebody without the token is laid anew, its role as it was or through. -/
theorem Fr.put (C : Fr p role h e hm T gs w q) {i n' : Nat} {g' : Goroutine} {ops : Array MemOp} {gs' : Array Goroutine} {r' : Role} {w' : World} (hne : i ≠ h) (hlt : i < gs.size) (hsz : gs'.size = gs.size) (hother : ∀ x, x ≠ i → gs'[x]? = gs[x]?) (hself : gs'[i]? = some g')
    (hops : ∀ op ∈ ops, op.g = i) (hidle : Idle p (T ++ ops) i n' g' r') (hr : r' = role i ∨ (role i = .don ∧ r' = .quit)) (hrl : Rly w w') (hch : ∀ c, p.Ch c → w'.heap[c]? = w.heap[c]?)
    (hw : WgS p.Wg w' (((sumTo gs.size (fun x => (upd role i r' x).dn) + e : Nat) : Int) * KK))
    (hlow : ∀ op ∈ ops, ∀ b, op.act.touch? = some b → ∀ ad, b.loc = .cell ad → ad.block < w.heap.size)
    (hpast : PastB (Stil role) p.Shun (Mems role h hm) (fun x => (role x).isSeat) h (T ++ ops)) : Fr p (upd role i r') h e hm (T ++ ops) gs' w' (upd q i n') := by
  have hE : Same role (upd role i r') := Same.upd (by
    rcases hr with rfl | ⟨h1, rfl⟩
    · exact .refl _
    · rw [h1]; exact .done)
  have hst : ∀ x, (upd role i r' x).st = (role x).st := fun x => by
    by_cases ex : x = i
    · subst ex
      rw [upd_same]
      rcases hr with rfl | ⟨h1, rfl⟩
      · rfl
      · rw [h1]; rfl
    · rw [upd_ne role r' ex]
  have hStil : Stil (upd role i r') = Stil role := by funext x; simp only [Stil, hst]
  have hMem : Mems (upd role i r') h hm = Mems role h hm := by funext x; simp only [Mems, propext (hE x).isSeat]
  have hLo : (fun x => (upd role i r' x).isSeat) = fun x => (role x).isSeat := by funext x; exact propext (hE x).isSeat
  refine ⟨idle_put C rfl hother hself hops hidle, by rw [upd_ne role r' (Ne.symm hne)]; exact C.rh, fun x hx => ?_, fun x c hx => C.seats x c (by rw [← (hE x).ch]; exact hx), fun x y c hx hy => C.inj x y c (by rw [← (hE x).ch]; exact hx) (by rw [← (hE y).ch]; exact hy),
    fun c hc => by obtain ⟨k, hk⟩ := C.chans c hc; exact ⟨k, by rw [hch c hc]; exact hk⟩, fun j hj => ?_, ?_, fun x => by rw [hst]; exact (C.keep x).rly (C.pro x) hrl, fun x => by rw [hst]; exact (C.pro x).rly hrl, by rw [hsz]; exact hw, ?_, low_app C.low hrl.size (fun op hop b hb ad hl => Nat.lt_of_lt_of_le (hlow op hop b hb ad hl) hrl.size), fun ad hs => ?_, C.shc, fun x => by rw [hst]; exact C.nox x, fun ad hx => Nat.lt_of_lt_of_le (C.xlow ad hx) hrl.size⟩
  · rw [upd_ne role r' (by omega)]; exact C.out x (by omega)
  · rw [Deaf_other T (g' := i) (by omega) ops hops]
    exact C.above j (by omega)
  · rw [hStil, hMem, hLo]; exact hpast
  · rw [hsz]
    have h1 := sumTo_upd role r' Role.dn hlt
    have h2 : r'.dn ≤ (role i).dn := by
      rcases hr with h2 | ⟨h2, h3⟩
      · rw [h2]; exact Nat.le_refl _
      · rw [h3]; exact Nat.zero_le _
    have h3 := C.few
    omega
  · obtain ⟨o, h1, h2⟩ := C.shw ad hs
    rcases hrl.heap _ _ h1 with h3 | ⟨_, o', h3, h4⟩
    · exact ⟨o, h3, h2⟩
    · exact ⟨o', h3, h4.1⟩
/-- A hired one makes its block. -/
theorem Fr.box (C : Fr p role h e hm T gs w q) {i n' c : Nat} {z v : Value} {home : Nat → Goroutine → Prop} {L : Stl} {g' : Goroutine} {gs' : Array Goroutine} (hne : i ≠ h) (hlt : i < gs.size) (hsz : gs'.size = gs.size) (hother : ∀ x, x ≠ i → gs'[x]? = gs[x]?) (hself : gs'[i]? = some g')
    (er : role i = .born c z home L v) (hidle : Idle p T i n' g' (.seat c z (home w.heap.size) ((bx w.heap.size, v) :: L))) :
    Fr p (upd role i (.seat c z (home w.heap.size) ((bx w.heap.size, v) :: L))) h e hm (T ++ #[]) gs' { w with heap := w.heap.push (.cells #[v] 82) } (upd q i n') := by
  have hrl : Rly w { w with heap := w.heap.push (.cells #[v] 82) } := ⟨rfl, rfl, rfl, fun b o hb => .inl (by
    have := (Array.getElem?_eq_some_iff.1 hb).1
    show (w.heap.push _)[b]? = _
    rw [Array.getElem?_push_lt this, ← hb]; exact (Array.getElem?_eq_getElem this).symm)⟩
  generalize hr' : Role.seat c z (home w.heap.size) ((bx w.heap.size, v) :: L) = r'
  have hE : Same role (upd role i r') := Same.upd (by rw [er, ← hr']; exact .box c z home L v _)
  have hnew : ({ w with heap := w.heap.push (.cells #[v] 82) } : World).heap[w.heap.size]? = some (.cells #[v] 82) := by simp
  have hst : ∀ x, x ≠ i → (upd role i r' x).st = (role x).st := fun x ex => by rw [upd_ne role r' ex]
  have hsti : (upd role i r' i).st = (bx w.heap.size, v) :: (role i).st := by rw [upd_same, ← hr', er]; rfl
  have hMem : Mems (upd role i r') h hm = Mems role h hm := by funext x; simp only [Mems, propext (hE x).isSeat]
  have hLo : (fun x => (upd role i r' x).isSeat) = fun x => (role x).isSeat := by funext x; exact propext (hE x).isSeat
  have hwg : p.Wg < w.heap.size := (Array.getElem?_eq_some_iff.1 C.wg).1
  rw [hr'] at hidle
  refine ⟨idle_put C (ops := #[]) rfl hother hself (fun op hop => by simp at hop) (by simpa using hidle), by rw [upd_ne role r' (Ne.symm hne)]; exact C.rh, fun x hx => ?_, fun x c hx => C.seats x c (by rw [← (hE x).ch]; exact hx), fun x y c hx hy => C.inj x y c (by rw [← (hE x).ch]; exact hx) (by rw [← (hE y).ch]; exact hy),
    fun c hc => ?_, fun j hj => ?_, ?_, fun x => ?_, fun x => ?_, ?_, by rw [hsz, sum_dn_same role i gs.size r' (by rw [er, ← hr']; rfl)]; exact C.few, ?_, fun ad hs => ?_, C.shc, fun x => ?_, fun ad hx => Nat.lt_of_lt_of_le (C.xlow ad hx) hrl.size⟩
  · rw [upd_ne role r' (by omega)]; exact C.out x (by omega)
  · obtain ⟨k, hk⟩ := C.chans c hc
    rcases hrl.heap _ _ hk with h1 | ⟨h1, _⟩
    · exact ⟨k, h1⟩
    · cases h1
  · rw [Array.append_empty]; exact C.above j (by omega)
  · rw [hMem, hLo, Array.append_empty]
    refine C.past.grow (i := i) (l₀ := .cell (bx w.heap.size)) (fun j a ha hl => ?_) (fun hs => ?_) (fun g hg => by simp only [Stil, hst g hg]) (fun l => ?_)
    · have := C.low j a _ ha hl; simp [bx] at this
    · obtain ⟨o, h1, _⟩ := C.shw _ hs
      have := (Array.getElem?_eq_some_iff.1 h1).1; simp [bx] at this
    · simp only [Stil, StL, hsti, List.mem_cons]
      constructor
      · rintro ⟨x, hx | hx, rfl⟩
        · subst hx; exact .inr rfl
        · exact .inl ⟨x, hx, rfl⟩
      · rintro (⟨x, hx, rfl⟩ | rfl)
        · exact ⟨x, .inr hx, rfl⟩
        · exact ⟨_, .inl rfl, rfl⟩
  · by_cases ex : x = i
    · subst ex
      rw [hsti]
      intro y hy
      rcases List.mem_cons.1 hy with rfl | hy
      · simp [World.cell?, bx]
      · exact (C.keep x).rly (C.pro x) hrl y hy
    · rw [hst x ex]; exact (C.keep x).rly (C.pro x) hrl
  · by_cases ex : x = i
    · subst ex
      rw [hsti]
      intro y hy
      rcases List.mem_cons.1 hy with rfl | hy
      · exact ⟨_, hnew, rfl, rfl⟩
      · exact (C.pro x).rly hrl y hy
    · rw [hst x ex]; exact (C.pro x).rly hrl
  · rw [hsz, sum_dn_same role i _ r' (by rw [← hr', er]; rfl)]
    have := C.wg
    unfold WgS at this ⊢
    show (w.heap.push _)[p.Wg]? = _
    rw [Array.getElem?_push_lt hwg, ← this]; exact (Array.getElem?_eq_getElem hwg).symm
  · rw [Array.append_empty]
    exact fun j a ad ha hl => by have := C.low j a ad ha hl; simp; omega
  · obtain ⟨o, h1, h2⟩ := C.shw ad hs
    rcases hrl.heap _ _ h1 with h3 | ⟨_, o', h3, h4⟩
    · exact ⟨o, h3, h2⟩
    · exact ⟨o', h3, h4.1⟩
  · by_cases ex : x = i
    · subst ex
      rw [hsti]
      intro y hy
      rcases List.mem_cons.1 hy with rfl | hy
      · intro hx; have := C.xlow _ hx; simp [bx] at this
      · exact C.nox x y hy
    · rw [hst x ex]; exact C.nox x
/-- ████ A STEP OF ANYBODY WITHOUT THE TOKEN. ████ -/
theorem Fr.other (hSh : ∀ k, p.Shun (.cell ⟨p.Wg, k, none⟩)) (C : Fr p role h e hm T gs w q) {i : Nat} {g : Goroutine} {sl : Option (Nat × Nat)} (hi : gs[i]? = some g) (hne : i ≠ h) (hrun : g.status = .running)
    (hA : ∀ gx, gs[h]? = some gx → ∀ w', (∀ c, p.Ch c → w'.heap[c]? = w.heap[c]?) → gx.again w' = gx)
    (hO : ∀ c z a L B g₂, role i = .seat c z a L → AtIn p.P (i == 0) (StC L) (StL L) B (Seat.one c z false a) g g₂ → ∀ gx, gs[h]? = some gx → offersAt gx c true = []) :
    ∃ (gs' : Array Goroutine) (w' : World) (ops : Array MemOp) (q' : Nat → Nat) (role' : Nat → Role), runT p.P (crowd gs w sl) i = (.next (crowd gs' w' sl), ops) ∧ gs'.size = gs.size ∧ gs'[h]? = gs[h]? ∧ Rly w w' ∧ (∀ c, p.Ch c → w'.heap[c]? = w.heap[c]?) ∧ Fr p role' h e hm (T ++ ops) gs' w' q' ∧
      sumTo gs.size q' < sumTo gs.size q ∧ (∀ x, x ≠ i → q' x = q x) ∧ Same role role' ∧ (∀ c z a L, role i = .seat c z a L → q' i = 0 → ∃ B g₂, AtIn p.P (i == 0) (StC L) (StL L) B (Seat.one c z false a) g g₂) ∧ (∀ c z a L v, role i = .born c z a L v → 0 < q' i) ∧ Deaf (T ++ ops) h = Deaf T h := by
  have hdh : ∀ (ops : Array MemOp), (∀ op ∈ ops, op.g = i) → Deaf (T ++ ops) h = Deaf T h := fun ops ho => Deaf_other T hne ops ho
  have hoe : ∀ (fn : FuncId) (pos : String) (es : Array Event), ∀ op ∈ MemOp.ofEvents i fn pos es, op.g = i := fun fn pos es op hop => by obtain ⟨e, _, rfl⟩ := Conc.mem_ofEvents hop; rfl
  have hlt : i < gs.size := (Array.getElem?_eq_some_iff.1 hi).1
  have hopen : ∀ w' : World, (∀ c, p.Ch c → w'.heap[c]? = w.heap[c]?) → ∀ c, p.Ch c → ∃ cap buf s r tm, w'.heap[c]? = some (.chan cap buf false s r tm) := fun w' hw c hc => by
    obtain ⟨k, hk⟩ := C.chans c hc
    exact ⟨0, #[], k, k, false, by rw [hw c hc]; exact hk⟩
  have hfix : ∀ w' : World, (∀ c, p.Ch c → w'.heap[c]? = w.heap[c]?) → ∀ (a a' : Goroutine) (x : Nat) (y : Goroutine), gs[x]? = some y → woken p.P a a' w' y = y := fun w' hw a a' x y hy => woken_of_again (by
    by_cases hx : x = h
    · subst hx; exact hA y hy w' hw
    · exact C.fixed hx hy (hopen w' hw))
  have harr : ∀ w' : World, (∀ c, p.Ch c → w'.heap[c]? = w.heap[c]?) → ∀ (a' g' : Goroutine) (x : Nat), x ≠ i → ((gs.map (woken p.P g a' w')).setIfInBounds i g')[x]? = gs[x]? := by
    intro w' hw a' g' x hx
    rw [Array.getElem?_setIfInBounds_ne (fun e => hx e.symm), Array.getElem?_map]
    cases e : gs[x]? with
    | none => rfl
    | some y => simp [hfix w' hw g a' x y e]
  have hself : ∀ (w' : World) (a' g' : Goroutine), ((gs.map (woken p.P g a' w')).setIfInBounds i g')[i]? = some g' := fun w' a' g' => Array.getElem?_setIfInBounds_self_of_lt (by simpa using hlt)
  have hsum : ∀ k, q i = k + 1 → ∀ k', k' ≤ k → sumTo gs.size (upd q i k') < sumTo gs.size q := by
    intro k hqi k' hk'
    have h2 : sumTo gs.size (upd q i k') + (k + 1) = sumTo gs.size q + k' := by
      have := sumTo_upd q k' id hlt
      simpa [hqi] using this
    omega
  have hst : ∀ c, p.Ch c → w.heap[c]? = w.heap[c]? := fun _ _ => rfl
  have hsame : ∀ r', r' = role i → upd role i r' = role := fun r' hr => by subst hr; exact upd_self role i
  have hid := C.idle i g hne hi
  cases er : role i with
  | quit =>
    rw [er] at hid
    obtain ⟨hpos, hq⟩ := hid
    have hi0 : (i == 0) = false := by simp; omega
    cases hqi : q i with
    | zero => rw [hqi] at hq; rw [hq.1] at hrun; cases hrun
    | succ k =>
      rw [hqi] at hq
      rcases hq with ⟨hf, _⟩ | ⟨_, g', es, hmu, hstp, hq'⟩
      · rw [hf] at hrun; cases hrun
      have hops : ∀ op ∈ MemOp.ofEvents i g.frame.fn g.frame.place es, op.g = i := fun op hop => by obtain ⟨e, _, rfl⟩ := Conc.mem_ofEvents hop; rfl
      refine ⟨_, w, _, upd q i k, upd role i .quit, runT_crowd_go (sl := sl) hi (by rw [hi0]; exact hstp w), by simp, harr w hst _ _ h (Ne.symm hne), Rly.refl _, hst, ?_, hsum k hqi k (Nat.le_refl _), fun x hx => upd_ne q k hx, ?_, fun c z a L hs _ => (by cases hs), fun c z a L v hs => (by cases hs), hdh _ (hoe _ _ _)⟩
      · refine C.put hne hlt (by simp) (harr w hst _ _) (hself w _ _) hops ⟨hpos, by rw [Deaf_own]; exact hq'⟩ (.inl er.symm) (Rly.refl _) hst (by rw [hsame _ er.symm]; exact C.wg) (fun op hop b hb => by obtain ⟨e, he, rfl⟩ := Conc.mem_ofEvents hop; rw [touch_mute (hmu e he)] at hb; cases hb) ?_
        exact C.past.appMute hops (fun op hop => by obtain ⟨e, he, rfl⟩ := Conc.mem_ofEvents hop; exact touch_mute (hmu e he)) (fun hM => hM.elim (fun z => by rw [er] at z; exact z.elim) (fun z => absurd z.1 hne))
      · rw [hsame _ er.symm]; exact Same.refl _
  | born c z home L v =>
    rw [er] at hid
    obtain ⟨hpos, hb⟩ := hid
    have hi0 : (i == 0) = false := by simp; omega
    cases hqi : q i with
    | zero => rw [hqi] at hb; exact hb.elim
    | succ k =>
      rw [hqi] at hb
      rcases hb.2 with ⟨g', hstp, hb'⟩ | ⟨g', hstp, hb'⟩
      · refine ⟨_, w, _, upd q i k, upd role i (.born c z home L v), runT_crowd_go (sl := sl) hi (by rw [hi0]; exact hstp w), by simp, harr w hst _ _ h (Ne.symm hne), Rly.refl _, hst, ?_, hsum k hqi k (Nat.le_refl _), fun x hx => upd_ne q k hx, ?_, fun c z a L hs _ => (by cases hs), fun c z a L v hs => (by rw [upd_same]; cases k with | zero => exact hb'.elim | succ n => omega), hdh _ (hoe _ _ _)⟩
        · refine C.put hne hlt (by simp) (harr w hst _ _) (hself w _ _) (fun op hop => by simp [MemOp.ofEvents] at hop) ⟨hpos, hb'⟩ (.inl er.symm) (Rly.refl _) hst (by rw [hsame _ er.symm]; exact C.wg) (fun op hop => by simp [MemOp.ofEvents] at hop) ?_
          exact C.past.appMute (g := i) (fun op hop => by simp [MemOp.ofEvents] at hop) (fun op hop => by simp [MemOp.ofEvents] at hop) (fun _ => by simp [MemOp.ofEvents])
        · rw [hsame _ er.symm]; exact Same.refl _
      · obtain ⟨B, k', hk0, hk', hs⟩ := hb' w.heap.size
        have hch : ∀ c, p.Ch c → ({ w with heap := w.heap.push (.cells #[v] 82) } : World).heap[c]? = w.heap[c]? := fun c hc => by
          obtain ⟨k, hk⟩ := C.chans c hc
          have := (Array.getElem?_eq_some_iff.1 hk).1
          show (w.heap.push _)[c]? = _
          rw [Array.getElem?_push_lt this]; exact (Array.getElem?_eq_getElem this).symm
        have hrl : Rly w { w with heap := w.heap.push (.cells #[v] 82) } := ⟨rfl, rfl, rfl, fun b o hb => .inl (by
          have := (Array.getElem?_eq_some_iff.1 hb).1
          show (w.heap.push _)[b]? = _
          rw [Array.getElem?_push_lt this, ← hb]; exact (Array.getElem?_eq_getElem this).symm)⟩
        refine ⟨_, _, _, upd q i k', upd role i (.seat c z (home w.heap.size) ((bx w.heap.size, v) :: L)), runT_crowd_go (sl := sl) hi (by rw [hi0]; exact hstp w), by simp, harr _ hch _ _ h (Ne.symm hne), hrl, hch, ?_, hsum k hqi k' hk', fun x hx => upd_ne q k' hx, Same.upd (by rw [er]; exact .box c z home L v _), fun c z a L hs _ => (by cases hs), fun c z a L v hs => (by rw [upd_same]; exact hk0), hdh _ (hoe _ _ _)⟩
        exact C.box hne hlt (by simp) (harr _ hch _ _) (hself _ _ _) er ⟨B, by rw [hi0]; exact hs⟩
  | don =>
    rw [er] at hid
    obtain ⟨hpos, hq⟩ := hid
    have hi0 : (i == 0) = false := by simp; omega
    have hnm : ¬ Mems role h hm i := fun z => z.elim (fun z => by rw [er] at z; exact z) (fun z => hne z.1)
    cases hqi : q i with
    | zero => rw [hqi] at hq; exact hq.elim
    | succ k =>
      rw [hqi] at hq
      rcases hq.2 with hx | ⟨hd, hadd⟩
      · obtain ⟨g', es, hmu, hstp, hq'⟩ := hx w _ C.wg
        have hops : ∀ op ∈ MemOp.ofEvents i g.frame.fn g.frame.place es, op.g = i := fun op hop => by obtain ⟨e, _, rfl⟩ := Conc.mem_ofEvents hop; rfl
        refine ⟨_, w, _, upd q i k, upd role i .don, runT_crowd_go (sl := sl) hi (by rw [hi0]; exact hstp), by simp, harr w hst _ _ h (Ne.symm hne), Rly.refl _, hst, ?_, hsum k hqi k (Nat.le_refl _), fun x hx => upd_ne q k hx, ?_, fun c z a L hs _ => (by cases hs), fun c z a L v hs => (by cases hs), hdh _ (hoe _ _ _)⟩
        · refine C.put hne hlt (by simp) (harr w hst _ _) (hself w _ _) hops ⟨hpos, by rw [Deaf_own]; exact hq'⟩ (.inl er.symm) (Rly.refl _) hst (by rw [hsame _ er.symm]; exact C.wg) (fun op hop b hb => by obtain ⟨e, he, rfl⟩ := Conc.mem_ofEvents hop; rw [hmu e he] at hb; cases hb) ?_
          exact C.past.appMute hops (fun op hop => by obtain ⟨e, he, rfl⟩ := Conc.mem_ofEvents hop; exact hmu e he) (fun hM => absurd hM hnm)
        · rw [hsame _ er.symm]; exact Same.refl _
      · have hs1 := sum_dn role i gs.size hlt er
        have hbd := sum_dn_le role gs.size
        have hwg := C.wg
        rw [← hs1] at hwg
        have hfew := C.few
        obtain ⟨g', hstp, hq', _⟩ := hadd w (sumTo gs.size (fun x => (upd role i .quit x).dn) + e) 0 (by omega) (by omega) (by
          rw [show sumTo gs.size (fun x => (upd role i .quit x).dn) + e + 1 = sumTo gs.size (fun x => (upd role i .quit x).dn) + 1 + e by omega]; simpa using hwg)
        have hq' := hq' (by omega)
        have hrel := rly_cell p.wl C.wg 0 (.int .u64 (((sumTo gs.size (fun x => (upd role i .quit x).dn) + e : Nat) : Int) * KK + ((0 : Nat) : Int)))
        have hch : ∀ c, p.Ch c → (w.setCell ⟨p.Wg, 0, none⟩ (.int .u64 (((sumTo gs.size (fun x => (upd role i .quit x).dn) + e : Nat) : Int) * KK + ((0 : Nat) : Int)))).heap[c]? = w.heap[c]? := fun c hc => by
          simp only [World.setCell]; rw [Array.getElem?_modify, if_neg (fun e => C.wgne hc e.symm)]
        have hops : ∀ op ∈ MemOp.ofEvents i g.frame.fn g.frame.place #[rdA (stA p.Wg), wrA (stA p.Wg)], op.g = i := fun op hop => by obtain ⟨e, _, rfl⟩ := Conc.mem_ofEvents hop; rfl
        have hdf : ∀ t : Trace, Deaf (t ++ MemOp.ofEvents i g.frame.fn g.frame.place #[rdA (stA p.Wg), wrA (stA p.Wg)]) i = Deaf t i := fun t => by
          rw [Deaf_own]; exact deafBehind_still (fun e he => by simp only [List.mem_toArray, List.mem_cons, List.not_mem_nil, or_false] at he; rcases he with rfl | rfl <;> simp [rdA, wrA]) _
        refine ⟨_, _, _, upd q i k, upd role i .quit, runT_crowd_go (sl := sl) hi (by rw [hi0]; exact hstp), by simp, harr _ hch _ _ h (Ne.symm hne), hrel, hch, ?_, hsum k hqi k (Nat.le_refl _), fun x hx => upd_ne q k hx, Same.upd (by rw [er]; exact .done), fun c z a L hs _ => (by cases hs), fun c z a L v hs => (by cases hs), hdh _ (hoe _ _ _)⟩
        refine C.put hne hlt (by simp) (harr _ hch _ _) (hself _ _ _) hops ⟨hpos, by rw [hdf]; exact hq'⟩ (.inr ⟨er, rfl⟩) hrel hch (by have := C.wg.set (st' := (((sumTo gs.size (fun x => (upd role i .quit x).dn) + e : Nat) : Int) * KK + ((0 : Nat) : Int))); simpa [stA] using this) (fun op hop b hb ad hl => by
          obtain ⟨ev, he, rfl⟩ := Conc.mem_ofEvents hop
          have hWl : p.Wg < w.heap.size := (Array.getElem?_eq_some_iff.1 C.wg).1
          simp only [List.mem_toArray, List.mem_cons, List.not_mem_nil, or_false] at he
          rcases he with rfl | rfl <;>
          · simp only [MemAct.ofEvent, rdA, wrA, MemAct.touch?, Option.some.injEq] at hb
            subst hb
            simp only [Loc.cell.injEq] at hl
            subst hl; exact hWl) ?_
        refine C.past.appShun hops hnm (fun op hop b hb => ?_) fun j x hx hj ht hh => ?_
        · obtain ⟨ev, he, rfl⟩ := Conc.mem_ofEvents hop
          simp only [List.mem_toArray, List.mem_cons, List.not_mem_nil, or_false] at he
          rcases he with rfl | rfl <;>
          · simp only [MemAct.ofEvent, rdA, wrA, MemAct.touch?, Option.some.injEq] at hb
            subst hb
            exact ⟨hSh 0, rfl⟩
        · -- deaf
          obtain ⟨gx, hgx, hdx⟩ := hh
          have hxu : (T ++ MemOp.ofEvents i g.frame.fn g.frame.place #[rdA (stA p.Wg), wrA (stA p.Wg)])[j]? = some x := hx
          rcases getElem?_append_cases hxu with ⟨hlt', _⟩ | ⟨_, hmem⟩
          · omega
          have hg : x.g = i := hops x hmem
          have e1 : gx = i := by have := g?_of hx; rw [hgx] at this; rw [Option.some.inj this]; exact hg
          subst e1
          have hjl := lt_size_of_getElem? hx
          have hq0 : ∀ op ∈ MemOp.ofEvents gx g.frame.fn g.frame.place #[rdA (stA p.Wg), wrA (stA p.Wg)], ∀ d, deafStep gx d op = d := fun op hop d => by
            obtain ⟨ev, he, rfl⟩ := Conc.mem_ofEvents hop
            simp only [List.mem_toArray, List.mem_cons, List.not_mem_nil, or_false] at he
            rcases he with rfl | rfl <;> rfl
          have := deaf_quiet (t := T) hq0 (j - T.size) (by rw [Array.size_append] at hjl; omega)
          rw [show T.size + (j - T.size) = j by omega, hdx] at this
          omega
  | seat c z a L =>
    rw [er] at hid
    obtain ⟨B, hS⟩ := hid
    have hM : (role i).isSeat := by rw [er]; trivial
    have hcC := C.seats i c (by rw [er]; rfl)
    have hkeep : StC L w := by have := C.keep i; rwa [er] at this
    have hstil : Stil role i = StL L := by simp only [Stil, er]; rfl
    obtain ⟨k, w₀, hqi, hg⟩ : ∃ k w₀, q i = k + 1 ∧ Goes p.P (i == 0) (RK (StC L)) (DS (StL L) B) (fun g _ => ∃ g₂, AtIn p.P (i == 0) (StC L) (StL L) B (Seat.one c z false a) g g₂) k g w₀ := by
      rcases hS with h | ⟨_, _, g₂, rfl, _⟩
      · exact h
      · cases hrun
    have hcase : (∃ g₂, AtIn p.P (i == 0) (StC L) (StL L) B (Seat.one c z false a) g g₂) ∨ ∃ k' g' es, k = k' + 1 ∧ stepG p.P (i == 0) g w = .go g' w es ∧ (∀ e ∈ es, EvC (StL L) B e) ∧ Goes p.P (i == 0) (RK (StC L)) (DS (StL L) B) (fun g _ => ∃ g₂, AtIn p.P (i == 0) (StC L) (StL L) B (Seat.one c z false a) g g₂) k' g' w := by
      cases k with
      | zero => exact .inl (hg w hkeep)
      | succ k' =>
        rcases hg with hstop | ⟨_, hstep⟩
        · exact .inl (hstop w hkeep)
        · have hs := hstep w hkeep
          cases hgo : stepG p.P (i == 0) g w with
          | go g' w' es =>
            rw [hgo, goes_go] at hs
            obtain ⟨⟨rfl, hes⟩, hG'⟩ := hs
            exact .inr ⟨k', g', es, rfl, rfl, hes, hG'⟩
          | _ => rw [hgo] at hs; exact hs.elim
    have hlow : ∀ {ops : Array MemOp}, (∀ op ∈ ops, ∀ b, op.act.touch? = some b → b.write = false ∧ StL L b.loc) → ∀ op ∈ ops, ∀ b, op.act.touch? = some b → ∀ ad, b.loc = .cell ad → ad.block < w.heap.size := fun hr op hop b hb ad hl => by
      obtain ⟨x, hx, e⟩ := (hr op hop b hb).2
      rw [hl] at e
      simp only [Loc.cell.injEq] at e
      obtain ⟨o, h1, _⟩ := C.pro i x (by rw [er]; exact hx)
      rw [e]; exact (Array.getElem?_eq_some_iff.1 h1).1
    rcases hcase with ⟨g₂, hat⟩ | ⟨k', g', es, rfl, hgo, hes, hG'⟩
    · have hsO' := hO c z a L B g₂ er hat
      obtain ⟨_, _, _, _, _, es, hes, hstp⟩ := id hat
      obtain ⟨hops, hr, _, hd⟩ := evC_ops (i := i) (fn := g.frame.fn) (pos := g.frame.place) hes
      obtain ⟨kk, hc⟩ := C.chans c hcC
      have hw : ∀ cc ∈ #[rcase c z], NoWays w (gs.setIfInBounds i ph) cc := by
        intro cc hcc
        simp only [List.mem_toArray, List.mem_cons, List.not_mem_nil, or_false] at hcc
        subst hcc
        refine ways_recv_none hc (partners_nil fun x y hy => ?_)
        rcases getElem?_stand gs i x y hy with ⟨_, rfl⟩ | ⟨hx, hy'⟩
        · exact offersAt_ph _ _
        · by_cases hxh : x = h
          · subst hxh; exact hsO' y hy'
          · exact C.noSend hxh hy' _
      refine ⟨_, w, _, upd q i 0, upd role i (.seat c z a L), crowd_waits (sl := sl) hi (hstp w hkeep) hw, by simp, Array.getElem?_setIfInBounds_ne hne, Rly.refl _, hst, ?_, hsum k hqi 0 (Nat.zero_le _), fun x hx => upd_ne q 0 hx, (by rw [hsame _ er.symm]; exact Same.refl _), fun c' z' a' L' hs' _ => (by cases hs'; exact ⟨B, g₂, hat⟩), fun c z a L v hs => (by cases hs), hdh _ (hoe _ _ _)⟩
      refine C.put hne hlt (by simp) (fun x hx => Array.getElem?_setIfInBounds_ne (fun z => hx z.symm)) (Array.getElem?_setIfInBounds_self_of_lt hlt) hops ⟨B, .inr ⟨rfl, g, g₂, rfl, hat⟩⟩ (.inl er.symm) (Rly.refl _) hst (by rw [hsame _ er.symm]; exact C.wg) (hlow fun op hop b hb => hr op hop b hb) ?_
      exact C.past.appRead (.inl hM) hM hops (fun op hop b hb => by rw [hstil]; exact hr op hop b hb) (hd T)
    · obtain ⟨hops, hr, _, hd⟩ := evC_ops (i := i) (fn := g.frame.fn) (pos := g.frame.place) hes
      refine ⟨_, w, _, upd q i (k' + 1), upd role i (.seat c z a L), runT_crowd_go (sl := sl) hi hgo, by simp, harr w hst _ _ h (Ne.symm hne), Rly.refl _, hst, ?_, hsum _ hqi _ (Nat.le_refl _), fun x hx => upd_ne q _ hx, (by rw [hsame _ er.symm]; exact Same.refl _), fun c' z' a' L' _ h0 => (by rw [upd_same] at h0; omega), fun c z a L v hs => (by cases hs), hdh _ (hoe _ _ _)⟩
      refine C.put hne hlt (by simp) (harr w hst _ _) (hself w _ _) hops ⟨B, .inl ⟨k', w, rfl, hG'⟩⟩ (.inl er.symm) (Rly.refl _) hst (by rw [hsame _ er.symm]; exact C.wg) (hlow fun op hop b hb => hr op hop b hb) ?_
      exact C.past.appRead (.inl hM) hM hops (fun op hop b hb => by rw [hstil]; exact hr op hop b hb) (hd T)
end
end Go.Bt
end
